/- inputs: all inputs of a machine. -/
import Derived.Test.YtpbanfkjeiihbaaDoorW2
set_option linter.unusedVariables false
set_option linter.unusedSimpArgs false
namespace Go.Proofs.YtpbanfkjeiihbaaDoor
open Go.RowKit

def encI (n : Int) : List Value := [.int .i64 n]
theorem encI_length (n : Int) : (encI n).length = 1 := rfl
theorem RdI {w : World} {A : Option Addr} {ts : List Int} (h : Rd w A (ts.flatMap encI)) {k : Nat} {t : Int} (ht : ts[k]? = some t) :
    ∃ b o, A = some ⟨b, o, none⟩ ∧ w.cell? ⟨b, o + k, none⟩ = some (.int .i64 t) := by
  have hk := (List.getElem?_eq_some_iff.1 ht).1
  obtain ⟨b, o, hA, hc⟩ := h.at_ (j := k) (by rw [flat_length _ _ encI_length]; omega)
  refine ⟨b, o, hA, hc _ _ ?_⟩
  have := flat_get encI 1 encI_length ts k t ht 0 (by omega)
  rw [Nat.mul_one, Nat.add_zero] at this
  exact this
abbrev IsC (w : World) (v : Value) (l : List Int) : Prop := IsL encI w v l
set_option maxRecDepth 100000 in
set_option maxHeartbeats 4000000 in
theorem inputs_any (w : World) (m : Mc) (v : Value) (l : List Int) (hv : IsC w v l) (hG : Gl w) (hlen : l.length ≤ 1000) :
    Calls Tryd.prog 14 #[m.val, v] w fun e w' => e = .returned (.bool true) ∧ Below w.heap.size w w' := by
  have b0 := Blk.new w 24 #[.int .u8 m.st, .int .i64 m.wait, .int .i64 m.code]
  have hb0 : Below w.heap.size w (w.alloc (.cells #[.int .u8 m.st, .int .i64 m.wait, .int .i64 m.code] 24)) := (Below.refl _ _).alloc (Nat.le_refl _) _
  obtain ⟨A, c, rfl, hn, _, hr0⟩ := hv
  clear hn
  have hN0 : 0 < w.heap.size := hG.1
  go_enter Tryd.func14, Tryd.ntmps14
  go_upto_block 0 with fail
  generalize w.alloc (.cells #[.int .u8 m.st, .int .i64 m.wait, .int .i64 m.code] 24) = w1 at *
  go_cut [] (fun wx => Blk wx w.heap.size 24 #[.int .u8 m.st, .int .i64 m.wait, .int .i64 m.code] ∧ Below w.heap.size w wx)
  case first =>
    go_wp2_with fail
    go_loopw [5, 6] (fun i j wr => ∃ K : Nat, K ≤ 8 ∧ i = .int .i64 K ∧ Blk wr w.heap.size 24 #[.int .u8 m.st, .int .i64 m.wait, .int .i64 m.code] ∧ Below w.heap.size w wr) (fun i _ _ => 8 - (intOf i).toNat)
    case atStart => exact ⟨0, by omega, rfl, b0, hb0⟩
    case round =>
      clear b0 hb0
      obtain ⟨K, hK, rfl, B, hb⟩ := hrel
      by_cases hk : K < 8
      · have hkd : decide ((K : Int) < 8) = true := by simp; omega
        go_wp2_with fail
        go_loopw [6] (fun j wx => ∃ J : Nat, J ≤ l.length ∧ j = .int .i64 J ∧ Blk wx w.heap.size 24 #[.int .u8 m.st, .int .i64 m.wait, .int .i64 m.code] ∧ Below w.heap.size w wx) (fun j _ => l.length - (intOf j).toNat)
        case atStart => exact ⟨0, by omega, rfl, B, hb⟩
        case round =>
          clear B hb
          obtain ⟨J, hJ, rfl, B, hb⟩ := hrel
          by_cases hj : J < l.length
          · obtain ⟨x, hx⟩ := get_lt hj
            obtain ⟨b, o, rfl, h0⟩ := RdI (hr0.below hb) hx
            have HX := Lib.hid hx; clear hx
            have c0 := B.cell
            have hmod : ((K : Int) % 256) = K := by omega
            go_wp2_with fail
            refine wp_tree (.q [0, 1, 2, 3, 4, 5, 6, 7] (.one false 8 (.q [9] .done))) (by kernel_rfl) (by kernel_rfl) ?_
            refine walkT_q ?_
            dsimp only [pickL, nthL]
            go_wp2
            refine ⟨rfl, rfl, ?_⟩
            refine walkT_one ?_
            dsimp only [pickL, nthL]
            go_wp2_with fail
            refine (stepLaw _ m ⟨K, x, 0⟩ (hG.keep hb.drew hN0)).mono ?_
            rintro e w3 ⟨rfl, hb3⟩
            have B3 := B.drew.ext hb3
            have hb4 := hb.drew.trans (hb3.mono (Nat.le_of_lt B.lt))
            clear B hb hb3 h0 c0
            go_wp2_with fail
            refine ⟨rfl, ?_⟩
            refine walkT_q ?_
            dsimp only [pickL, nthL]
            go_wp2
            refine ⟨rfl, rfl, ?_⟩
            refine walkT_done ?_
            go_wp2
            go_roundw
            case rel => exact ⟨J + 1, by omega, by go_num, B3, hb4⟩
            case measure => simp [intOf]; omega
          · go_wp2
            go_roundw
            case rel => exact ⟨K + 1, by omega, by go_num, B, hb⟩
            case measure => simp [intOf]; omega
      · go_wp2
        go_meet
        exact ⟨B, hb⟩
  case rest =>
    clear b0 hb0
    obtain ⟨B, hb⟩ := hcut
    go_wp2_with fail
    go_loopw [7] (fun i wr => ∃ K : Nat, K ≤ 15 ∧ i = .int .i64 K ∧ Blk wr w.heap.size 24 #[.int .u8 m.st, .int .i64 m.wait, .int .i64 m.code] ∧ Below w.heap.size w wr) (fun i _ => 15 - (intOf i).toNat)
    case atStart => exact ⟨0, by omega, rfl, B, hb⟩
    case round =>
      clear B hb
      obtain ⟨K, hK, rfl, B, hb⟩ := hrel
      by_cases hk : K < 15
      · have c0 := B.cell
        have hmod : ((K : Int) % 256) = K := by omega
        go_wp2_with fail
        refine (stepLaw _ m ⟨5, 0, K⟩ (hG.keep hb hN0)).mono ?_
        rintro e w3 ⟨rfl, hb3⟩
        have B3 := B.ext hb3
        have hb4 := hb.trans (hb3.mono (Nat.le_of_lt B.lt))
        clear B hb hb3 c0
        go_wp2
        go_roundw
        case rel => exact ⟨K + 1, by omega, by go_num, B3, hb4⟩
        case measure => simp [intOf]; omega
      · go_wp2
        go_ret
        exact ⟨rfl, hb⟩
end Go.Proofs.YtpbanfkjeiihbaaDoor
