/- The whole table: the law's walk. -/
import Derived.Test.YtpbanfkjeiihbaaDoorT1
set_option linter.unusedVariables false
set_option linter.unusedSimpArgs false
namespace Go.Proofs.YtpbanfkjeiihbaaDoor
open Go.RowKit

def codesT : List Int := [-1, 0, 1, 99, 100, 101, 180, 199, 200, 201, 299, 300, 302, 486, 699, 700]
def waitsT : List Int := [0, 1, 500, 1000, 2000, 4000, 8000, 16000, 32000, 64000]
abbrev codesC : Array Value := #[.int .i64 (-1), .int .i64 0, .int .i64 1, .int .i64 99, .int .i64 100, .int .i64 101, .int .i64 180, .int .i64 199, .int .i64 200, .int .i64 201, .int .i64 299, .int .i64 300, .int .i64 302, .int .i64 486, .int .i64 699, .int .i64 700]
abbrev waitsC : Array Value := #[.int .i64 0, .int .i64 1, .int .i64 500, .int .i64 1000, .int .i64 2000, .int .i64 4000, .int .i64 8000, .int .i64 16000, .int .i64 32000, .int .i64 64000]
theorem isC_lit (w : World) (cs : Array Value) (l : List Int) (n : Nat) (hcs : cs.toList = l.flatMap encI) (hn : l.length = n) (hm : n ≤ 1000) :
    IsC (w.alloc (.cells cs 3)) (.slice (some ⟨w.heap.size, 0, none⟩) n n) l := by
  refine ⟨some ⟨w.heap.size, 0, none⟩, n, by rw [hn], by simp only [maxLen]; omega, by omega, .inr ⟨w.heap.size, 0, rfl, fun j u hu => ?_⟩⟩
  rw [(Blk.new w 3 cs).cell, ← hu, ← hcs]
  simp
theorem IsC_cell {w : World} {p q n c : Nat} {l : List Int} (h : IsC w (.slice (some ⟨p, q, none⟩) n c) l) {k : Nat} {o : Int} (ho : l[k]? = some o) : w.cell? ⟨p, q + k, none⟩ = some (.int .i64 o) := by
  obtain ⟨A, c', hv, _, _, hr⟩ := h
  injection hv with e1 e2 e3
  subst e1
  obtain ⟨p', q', he, h0⟩ := RdI hr ho
  injection he with he
  injection he with e1 e2
  subst e1 e2
  exact h0
set_option maxRecDepth 100000 in
set_option maxHeartbeats 4000000 in
theorem table_any (w : World) (hG : Gl w) : Calls Tryd.prog 4 #[] w fun e w' => e = .returned (.bool true) ∧ Below w.heap.size w w' := by
  have hN0 : 0 < w.heap.size := hG.1
  have h1 := (isC_lit w codesC codesT 16 rfl rfl (by omega)).alloc (.cells waitsC 3)
  have h2 := isC_lit (w.alloc (.cells codesC 3)) waitsC waitsT 10 rfl rfl (by omega)
  have hsz : (w.alloc (.cells codesC 3)).heap.size = w.heap.size + 1 := by simp
  rw [hsz] at h2
  have hb0 : Below w.heap.size w ((w.alloc (.cells codesC 3)).alloc (.cells waitsC 3)) := ((Below.refl _ _).alloc (Nat.le_refl _) _).alloc (by simp) _
  have hs0 : w.heap.size + 2 = ((w.alloc (.cells codesC 3)).alloc (.cells waitsC 3)).heap.size := by simp
  clear hsz
  go_enter Tryd.func4, Tryd.ntmps4
  go_wp2_with fail
  generalize (w.alloc (.cells codesC 3)).alloc (.cells waitsC 3) = w1 at *
  go_loopw [3, 4, 5] (fun i j k wr => ∃ K : Nat, K ≤ 9 ∧ i = .int .i64 K ∧ w1.heap.size ≤ wr.heap.size ∧ Below w1.heap.size w1 wr) (fun i _ _ _ => 9 - (intOf i).toNat)
  case atStart => exact ⟨0, by omega, rfl, Nat.le_refl _, Below.refl _ _⟩
  case round =>
    obtain ⟨K, hK, rfl, hs, hb⟩ := hrel
    by_cases hk : K < 9
    · have hkd : decide ((K : Int) < 9) = true := by simp; omega
      go_wp2_with fail
      go_loopw [4, 5] (fun j k wr => ∃ J : Nat, J ≤ 10 ∧ j = .int .i64 J ∧ w1.heap.size ≤ wr.heap.size ∧ Below w1.heap.size w1 wr) (fun j _ _ => 10 - (intOf j).toNat)
      case atStart => exact ⟨0, by omega, rfl, hs, hb⟩
      case round =>
        clear hs hb
        obtain ⟨J, hJ, rfl, hs, hb⟩ := hrel
        by_cases hj : J < 10
        · have hjd : decide ((J : Int) < 10) = true := by simp; omega
          obtain ⟨y, hy⟩ := get_lt (show J < waitsT.length from hj)
          go_wp2_with fail
          go_loopw [5] (fun k wr => ∃ I : Nat, I ≤ 16 ∧ k = .int .i64 I ∧ w1.heap.size ≤ wr.heap.size ∧ Below w1.heap.size w1 wr) (fun k _ => 16 - (intOf k).toNat)
          case atStart => exact ⟨0, by omega, rfl, hs, hb⟩
          case round =>
            clear hs hb
            obtain ⟨I, hI, rfl, hs, hb⟩ := hrel
            by_cases hi : I < 16
            · obtain ⟨x, hx⟩ := get_lt (show I < codesT.length from hi)
              have k0 := IsC_cell (h1.below hb) hx
              have k1 := IsC_cell (h2.below hb) hy
              simp only [Nat.zero_add] at k0 k1
              have HX := Lib.hid hx; clear hx
              have hmod : ((K : Int) % 256) = K := by omega
              have HY := Lib.hid hy; clear hy
              go_wp2_with fail
              refine wp_tree (.q [0, 1, 2, 3, 4, 5, 6, 7, 8, 9, 10, 11] (.one false 12 (.q [13] .done))) (by kernel_rfl) (by kernel_rfl) ?_
              refine walkT_q ?_
              dsimp only [pickL, nthL]
              go_wp2
              refine ⟨rfl, rfl, ?_⟩
              refine walkT_one ?_
              dsimp only [pickL, nthL]
              go_wp2_with fail
              refine (inputs_any _ ⟨K, y, x⟩ _ codesT (h1.below hb).drew (hG.keep (hb0.trans (hb.drew.mono (by omega))) hN0) (by decide)).mono ?_
              rintro e w3 ⟨rfl, hb3⟩
              have hb4 := hb.drew.trans (hb3.mono hs)
              have hs4 := Nat.le_trans hs hb3.size
              clear hb hb3 k0 k1 hs
              go_wp2_with fail
              refine ⟨rfl, ?_⟩
              refine walkT_q ?_
              dsimp only [pickL, nthL]
              go_wp2
              refine ⟨rfl, rfl, ?_⟩
              refine walkT_done ?_
              go_wp2
              go_roundw
              case rel => exact ⟨I + 1, by omega, by go_num, hs4, hb4⟩
              case measure => simp [intOf]; omega
            · go_wp2
              go_roundw
              case rel => exact ⟨J + 1, by omega, by go_num, hs, hb⟩
              case measure => simp [intOf]; omega
        · go_wp2
          go_roundw
          case rel => exact ⟨K + 1, by omega, by go_num, hs, hb⟩
          case measure => simp [intOf]; omega
    · go_wp2_with fail
      refine (works_any _ (hG.keep (hb0.trans (hb.mono (by omega))) hN0)).mono ?_
      rintro e w3 ⟨rfl, hb3⟩
      go_wp2
      go_ret
      exact ⟨rfl, (hb0.trans (hb.mono (by omega))).trans (hb3.mono (by omega))⟩
end Go.Proofs.YtpbanfkjeiihbaaDoor
