import Derived.Test.YtejppifgljjnmaaM
set_option linter.unusedVariables false
set_option linter.unusedSimpArgs false
namespace Go.Proofs.Ytejppifgljjnmaa
open Go.RowKit

def encB (n : Int) : List Value := [.int .u8 n]
theorem encB_length (n : Int) : (encB n).length = 1 := rfl
theorem RdB {w : World} {A : Option Addr} {bs : List Int} (h : Rd w A (bs.flatMap encB)) {k : Nat} {x : Int} (ht : bs[k]? = some x) :
    ∃ b o, A = some ⟨b, o, none⟩ ∧ w.cell? ⟨b, o + k, none⟩ = some (.int .u8 x) := by
  have hk := (List.getElem?_eq_some_iff.1 ht).1
  have hl := flat_length encB 1 encB_length bs
  obtain ⟨b, o, hA, hc⟩ := h.at_ (j := k) (by rw [hl]; omega)
  refine ⟨b, o, hA, hc _ _ ?_⟩
  have := flat_get encB 1 encB_length bs k x ht 0 (by omega)
  rw [Nat.mul_one, Nat.add_zero] at this
  exact this

set_option maxRecDepth 100000 in
set_option maxHeartbeats 1000000 in
theorem made_any (w : World) (v : Value) (bs : List Int) (hv : IsL encB w v bs) (hsz : bs.length ≤ 200) (hb : ∀ x ∈ bs, 0 ≤ x ∧ x ≤ 255) :
    Calls Try.prog 10 #[v] w fun e w' => ∃ v', e = .returned (.tuple #[v', .bool true]) ∧ OwnT w' w.heap.size v' (madeK bs bs.length) ∧ Below w.heap.size w w' := by
  obtain ⟨A, c, rfl, hn, _, hr⟩ := hv
  clear hn
  go_enter Try.func10, Try.ntmps10
  go_wp2
  go_loopw [4, 5] (fun v i wr => ∃ k : Nat, k ≤ bs.length ∧ i = .int .i64 k ∧ OwnT wr w.heap.size v (madeK bs k) ∧ Below w.heap.size w wr) (fun _ i _ => bs.length - (intOf i).toNat)
  case atStart => exact ⟨0, Nat.zero_le _, rfl, OwnL.nil _ _, Below.refl _ _⟩
  case round =>
    obtain ⟨k, hk, rfl, hown, hbw⟩ := hrel
    by_cases hlt : k < bs.length
    · obtain ⟨x, hx⟩ := get_lt hlt
      obtain ⟨b, o, rfl, h0⟩ := RdB (hr.below hbw) hx
      have hxb := hb x (List.mem_of_getElem? hx)
      have hHb := Lib.hid hb; clear hb
      obtain ⟨hx0, hx1⟩ := hxb
      have hlen := madeK_length bs k
      have E : Hid (addR (madeK bs k) (mkT x k) = (madeK bs (k + 1), 0)) := by
        have := madeK_add bs (k := k) (by omega)
        rw [hx] at this
        exact this
      have hlen1 := Lib.hid (madeK_length bs (k + 1))
      have hlenH := Lib.hid hlen; clear hlen
      have hx' := Lib.hid hx; clear hx
      go_wp2_with fail
      refine wp_order [(0, [0, 1, 2, 3, 4, 5, 6, 7, 8, 9, 10, 11, 12, 13, 14]), (2, [15]), (0, [16, 17, 18, 19, 20])] (by kernel_rfl) (by kernel_rfl) ?_
      refine walk0 ?_
      dsimp only [pickL, nthL]
      go_wp2
      refine ⟨rfl, rfl, ?_⟩
      refine walk2 ?_
      dsimp only [pickL, nthL]
      go_wp2_with fail
      refine (add_any _ u4 (madeK bs k) (mkT x k) hown.drew.is (by have := hlenH.out; omega)).mono ?_
      rw [E.out]
      rintro e w2 ⟨v2, rfl, hown2, hb2⟩
      have hb3 : Below w.heap.size w w2 := hbw.drew.trans (hb2.mono hbw.size)
      have hown3 := hown2.base_le (b := w.heap.size) hbw.size
      obtain ⟨A2, c2, rfl, _, _, _⟩ := hown2.is
      have hl1 := hlen1.out
      rw [hl1] at hown3 ⊢
      go_wp2_with fail
      refine ⟨rfl, ?_⟩
      refine walk0 ?_
      dsimp only [pickL, nthL]
      go_wp2
      refine ⟨rfl, rfl, ?_⟩
      refine walk_nil ?_
      go_wp2
      go_roundw
      case rel => exact ⟨k + 1, by omega, by go_num, hown3, hb3⟩
      case measure => simp [intOf]; omega
    · have hkk : k = bs.length := by omega
      subst hkk
      go_wp2
      go_ret2
      exact ⟨u4, rfl, hown, hbw⟩
/-- WHAT THE WALK IS TOLD OF A SLICE OF INTEGERS THAT CAME IN: it is nil; or it leads to a row of 'cap' cells, the numbers 'zs' (the first 'len' are its elements, the rest its spare room), each fitting its kind. -/
def IsRow (k : IntKind) (w : World) (a : Option Addr) (len cap : Nat) (zs : List Int) : Prop :=
  (a = none ∧ len = 0 ∧ cap = 0 ∧ zs = []) ∨
  ∃ x, a = some x ∧ len ≤ cap ∧ cap ≤ maxLen ∧ zs.length = cap ∧ (∀ i, i < zs.length → w.cell? (x.add i) = some (.int k (zs.getD i 0))) ∧ ∀ n ∈ zs, (Lit.int k n).wf = true

theorem IsRow.isB {w : World} {a : Option Addr} {len cap : Nat} {zs : List Int} (h : IsRow .u8 w a len cap zs) :
    ∃ bs : List Int, Rd w a (bs.flatMap encB) ∧ bs.length = len ∧ bs.length ≤ cap ∧ bs.length ≤ maxLen ∧ ∀ x ∈ bs, 0 ≤ x ∧ x ≤ 255 := by
  rcases h with ⟨rfl, rfl, rfl, rfl⟩ | ⟨x, rfl, hl, hm, hz, hc, hwf⟩
  · exact ⟨[], .inl rfl, rfl, Nat.le_refl _, by simp, by simp⟩
  · have hlen : (zs.take len).length = len := by simp; omega
    refine ⟨zs.take len, ?_, hlen, by omega, by omega, fun y hy => ?_⟩
    · rcases Nat.eq_zero_or_pos len with h0 | h0
      · left; rw [h0]; simp
      · have h1 := hc 0 (by omega)
        have hs : x.spot = none := by
          unfold Addr.add at h1
          simp only [if_true] at h1
          cases hsp : x.spot with
          | none => rfl
          | some s => unfold World.cell? at h1; rw [hsp] at h1; split at h1 <;> simp at h1
        obtain ⟨b, o, sp⟩ := x
        simp only at hs
        subst hs
        refine .inr ⟨b, o, rfl, fun j u hu => ?_⟩
        have hj : j < len := by
          have := (List.getElem?_eq_some_iff.1 hu).1
          rw [flat_length encB 1 encB_length, hlen] at this; omega
        have h2 := hc j (by omega)
        rw [Addr.add_lit] at h2
        rw [h2]
        have hg : (zs.take len)[j]? = some (zs.getD j 0) := by
          rw [List.getElem?_take, if_pos hj, List.getElem?_eq_getElem (by omega)]
          simp [List.getD, List.getElem?_eq_getElem (show j < zs.length by omega)]
        have h3 := flat_get encB 1 encB_length _ j _ hg 0 (by omega)
        rw [Nat.mul_one, Nat.add_zero, hu] at h3
        rw [h3]; rfl
    · have h1 := hwf y (List.mem_of_mem_take hy)
      simp [Lit.wf, IntKind.min, IntKind.max, IntKind.signed, IntKind.bits] at h1
      omega
end Go.Proofs.Ytejppifgljjnmaa
