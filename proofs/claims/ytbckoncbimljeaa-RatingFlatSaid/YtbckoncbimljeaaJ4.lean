/- Chapter 37, plain: pieces. -/
import Derived.Test.YtbckoncbimljeaaJ3
set_option linter.unusedVariables false
set_option linter.unusedSimpArgs false
set_option maxRecDepth 100000
namespace Go.Proofs.Ytbckoncbimljeaa
open Go.RowKit

noncomputable def pcB (a1 : List UInt8) (a2 a3 a4 : Int) (a5 : List Pr1) (a6 a7 : Int) : Int → Option (Int ⊕ (Int ⊕ Int)) :=
(fun v9 =>
    bindO (dialtoneref37_Begin ((a1, (a2, (a3, (a4, a5)))), (a6, v9))) fun x10 =>
    bif (decide (x10 < a7)) then
     some (Sum.inl (Go.IntKind.wrap .i64 (v9 + (1 : Int))))
    else
     outO (some (Sum.inl v9)))
theorem piecesR_eq (a1 : List UInt8) (a2 a3 a4 : Int) (a5 : List Pr1) (a6 a7 : Int) : dialtoneref37_Pieces ((a1, (a2, (a3, (a4, a5)))), (a6, a7)) =

  joinO (bindO (dialtoneref37_Rate (a1, (a2, (a3, (a4, a5))))) fun x8 =>
   bif (!x8) then
    outO (some (0 : Int))
   else
    bif (decide (a6 < (0 : Int))) then
     outO (some (0 : Int))
    else
     bif (decide (a6 > (3600 : Int))) then
      outO (some (0 : Int))
     else
      bif (decide (a7 < (0 : Int))) then
       outO (some (0 : Int))
      else
       bif (decide (a7 > (1000000 : Int))) then
        outO (some (0 : Int))
       else
        some (Sum.inl ())) fun _ =>
  joinO (loopO (pcB a1 a2 a3 a4 a5 a6 a7) (0 : Int)) fun v12 =>
  some v12 := rfl
/-- The second at which a piece begins. -/
def BG (f fi st : Int) (i : Nat) : Int := if i = 0 then f else f + fi + ((i : Int) - 1) * st
/-- How many pieces a call has. -/
def PN (f fi st s : Int) : Int := if s ≤ f then 0 else if s - f - fi ≤ 0 then 1 else 1 + (s - f - fi + st - 1) / st
theorem pn_nn {f fi st s : Int} (hst : 1 ≤ st) : 0 ≤ PN f fi st s := by
  unfold PN
  split
  · omega
  · split
    · omega
    · have := Int.ediv_nonneg (a := s - f - fi + st - 1) (b := st) (by omega) (by omega)
      omega
theorem bg_lt {f fi st s : Int} (hst : 1 ≤ st) {i : Nat} (h : (i : Int) < PN f fi st s) : BG f fi st i < s := by
  unfold PN at h
  unfold BG
  split at h
  · omega
  · split at h
    · have : i = 0 := by omega
      rw [if_pos this]; omega
    · by_cases e : i = 0
      · rw [if_pos e]; omega
      · rw [if_neg e]
        have h1 : (i : Int) ≤ (s - f - fi + st - 1) / st := by omega
        have h2 : (i : Int) * st ≤ s - f - fi + st - 1 := (Int.le_ediv_iff_mul_le (by omega)).1 h1
        rw [Int.sub_mul, Int.one_mul]; omega
theorem bg_ge {f fi st s : Int} (hst : 1 ≤ st) {i : Nat} (h : (i : Int) = PN f fi st s) : s ≤ BG f fi st i := by
  unfold PN at h
  unfold BG
  split at h
  · rw [if_pos (by omega)]; omega
  · split at h
    · have : i = 1 := by omega
      subst this
      rw [if_neg (by omega), show (((1 : Nat) : Int) - 1) = 0 from rfl, Int.zero_mul]; omega
    · have h0 := Int.ediv_nonneg (a := s - f - fi + st - 1) (b := st) (by omega) (by omega)
      have hl := Int.lt_ediv_add_one_mul_self (s - f - fi + st - 1) (show 0 < st by omega)
      rw [if_neg (by omega), show ((i : Int) - 1) = (s - f - fi + st - 1) / st from by omega]
      rw [Int.add_mul, Int.one_mul] at hl
      omega
theorem pn_le {f fi st s : Int} (hst : 1 ≤ st) (hf : 0 ≤ f) (hfi : 1 ≤ fi) (hs : 0 ≤ s) : PN f fi st s ≤ s := by
  unfold PN
  split
  · omega
  · split
    · omega
    · have : (s - f - fi + st - 1) / st ≤ s - f - fi := by
        have h1 := Int.lt_ediv_add_one_mul_self (s - f - fi + st - 1) (show 0 < st by omega)
        refine Int.ediv_le_of_le_mul (by omega) ?_
        have : (s - f - fi) * st = (s - f - fi - 1) * (st - 1) + (s - f - fi + st - 1) := by
          rw [Int.sub_mul (s - f - fi) 1 (st - 1), Int.mul_sub, Int.mul_one, Int.one_mul]; omega
        have h2 := Int.mul_nonneg (a := s - f - fi - 1) (b := st - 1) (by omega) (by omega)
        omega
      omega
theorem bg_bd {f fi st : Int} (hf : 0 ≤ f ∧ f ≤ 3600) (hfi : 1 ≤ fi ∧ fi ≤ 3600) (hst : 1 ≤ st ∧ st ≤ 3600) {i : Nat} (hi : i ≤ 1000001) : 0 ≤ BG f fi st i ∧ BG f fi st i ≤ 4000000000 := by
  unfold BG
  split
  · omega
  · have h1 := Int.mul_nonneg (a := (i : Int) - 1) (b := st) (by omega) (by omega)
    have h2 : ((i : Int) - 1) * st ≤ 1000000 * 3600 := Int.mul_le_mul (by omega) hst.2 (by omega) (by omega)
    omega
theorem begin_b {β : Type} (r : Ra) {f : Int} (hf : 0 ≤ f ∧ f ≤ 3600) (hfi : 1 ≤ r.2.2.1 ∧ r.2.2.1 ≤ 3600) (hst : 1 ≤ r.2.2.2.1 ∧ r.2.2.2.1 ≤ 3600) {i : Nat} (hi : i ≤ 1000001) (k : Int → Option β) : bindO (dialtoneref37_Begin ((r.1, (r.2.1, (r.2.2.1, (r.2.2.2.1, r.2.2.2.2)))), (f, (i : Int)))) k = k (BG f r.2.2.1 r.2.2.2.1 i) := by
  have e : dialtoneref37_Begin ((r.1, (r.2.1, (r.2.2.1, (r.2.2.2.1, r.2.2.2.2)))), (f, (i : Int))) = some (BG f r.2.2.1 r.2.2.2.1 i) := by
    unfold dialtoneref37_Begin BG
    by_cases h : i = 0
    · subst h
      simp (disch := omega) only [↓bindO_some, ↓bindO_none, ↓joinO_inl, ↓joinO_inr, ↓joinO_none, ↓outO_some, ↓outO_none, ↓cond_true, ↓cond_false, ↓cond_and, ↓cond_or, ↓cond_not, ↓cond_ite, ↓if_pos, ↓if_neg, ↓if_true, ↓if_false, List.take_length, Nat.le_refl, Bool.not_true, Bool.not_false, if_pos]
    · have h1 := Int.mul_nonneg (a := (i : Int) - 1) (b := r.2.2.2.1) (by omega) (by omega)
      have h2 : ((i : Int) - 1) * r.2.2.2.1 ≤ 1000000 * 3600 := Int.mul_le_mul (by omega) hst.2 (by omega) (by omega)
      rw [if_neg h]
      simp (disch := omega) only [↓bindO_some, ↓bindO_none, ↓joinO_inl, ↓joinO_inr, ↓joinO_none, ↓outO_some, ↓outO_none, ↓cond_true, ↓cond_false, ↓cond_and, ↓cond_or, ↓cond_not, ↓cond_ite, ↓if_pos, ↓if_neg, ↓if_true, ↓if_false, List.take_length, Nat.le_refl, Bool.not_true, Bool.not_false, if_neg, wrap_i64']
  rw [e]; rfl
theorem piecesP_j {r : Ra} {f s : Int} (h : RV r) (hf : 0 ≤ f ∧ f ≤ 3600) (hs : 0 ≤ s ∧ s ≤ 1000000) : rating_Pieces ((r.1, (r.2.1, (r.2.2.1, (r.2.2.2.1, r.2.2.2.2)))), (f, s)) = some (PN f r.2.2.1 r.2.2.2.1 s) := by
  have hfi := h.1.2.2.1
  have hst := h.1.2.2.2
  unfold rating_Pieces PN
  by_cases h1 : s ≤ f
  · rw [if_pos h1]
    simp (disch := omega) only [↓bindO_some, ↓bindO_none, ↓joinO_inl, ↓joinO_inr, ↓joinO_none, ↓outO_some, ↓outO_none, ↓cond_true, ↓cond_false, ↓cond_and, ↓cond_or, ↓cond_not, ↓cond_ite, ↓if_pos, ↓if_neg, ↓if_true, ↓if_false, List.take_length, Nat.le_refl, Bool.not_true, Bool.not_false, validRate_t h, within_b, hf, hs, and_self, decide_true, if_pos]
  · rw [if_neg h1]
    simp (disch := omega) only [↓bindO_some, ↓bindO_none, ↓joinO_inl, ↓joinO_inr, ↓joinO_none, ↓outO_some, ↓outO_none, ↓cond_true, ↓cond_false, ↓cond_and, ↓cond_or, ↓cond_not, ↓cond_ite, ↓if_pos, ↓if_neg, ↓if_true, ↓if_false, List.take_length, Nat.le_refl, Bool.not_true, Bool.not_false, validRate_t h, within_b, hf, hs, and_self, decide_true, if_neg, wrap_i64']
    by_cases h2 : s - f - r.2.2.1 ≤ 0
    · rw [if_pos h2, if_pos h2]
    · rw [if_neg h2, if_neg h2]
      have h0 := Int.ediv_nonneg (a := s - f - r.2.2.1 + r.2.2.2.1 - 1) (b := r.2.2.2.1) (by omega) (by omega)
      have h3 := Int.ediv_le_self (a := s - f - r.2.2.1 + r.2.2.2.1 - 1) r.2.2.2.1 (by omega)
      rw [Int.tdiv_eq_ediv_of_nonneg (by omega)]
      simp (disch := omega) only [↓bindO_some, ↓bindO_none, ↓joinO_inl, ↓joinO_inr, ↓joinO_none, ↓outO_some, ↓outO_none, ↓cond_true, ↓cond_false, ↓cond_and, ↓cond_or, ↓cond_not, ↓cond_ite, ↓if_pos, ↓if_neg, ↓if_true, ↓if_false, List.take_length, Nat.le_refl, Bool.not_true, Bool.not_false, if_pos, wrap_i64', ne_eq]
theorem piecesR_j {r : Ra} {f s : Int} (h : RV r) (hf : 0 ≤ f ∧ f ≤ 3600) (hs : 0 ≤ s ∧ s ≤ 1000000) : dialtoneref37_Pieces ((r.1, (r.2.1, (r.2.2.1, (r.2.2.2.1, r.2.2.2.2)))), (f, s)) = some (PN f r.2.2.1 r.2.2.2.1 s) := by
  have hfi := h.1.2.2.1
  have hst := h.1.2.2.2
  rw [piecesR_eq, rate_same, validRate_t h]
  have hn := pn_nn (f := f) (fi := r.2.2.1) (s := s) hst.1
  have hle := pn_le (st := r.2.2.2.1) hst.1 hf.1 hfi.1 hs.1
  obtain ⟨n, hn'⟩ : ∃ n : Nat, PN f r.2.2.1 r.2.2.2.1 s = (n : Int) := ⟨(PN f r.2.2.1 r.2.2.2.1 s).toNat, by omega⟩
  have e : loopO (pcB r.1 r.2.1 r.2.2.1 r.2.2.2.1 r.2.2.2.2 f s) (0 : Int) = some (.inl (n : Int)) := by
    refine loopO_from (fun i => (i : Int)) n rfl (fun i hi => ?_) ?_
    · have hlt := bg_lt (f := f) (fi := r.2.2.1) (s := s) hst.1 (i := i) (by omega)
      have hn1 : ((i : Int) + 1) = ((i + 1 : Nat) : Int) := rfl
      unfold pcB
      rw [begin_b r hf hfi hst (by omega)]
      simp (disch := omega) only [↓bindO_some, ↓bindO_none, ↓joinO_inl, ↓joinO_inr, ↓joinO_none, ↓outO_some, ↓outO_none, ↓cond_true, ↓cond_false, ↓cond_and, ↓cond_or, ↓cond_not, ↓cond_ite, ↓if_pos, ↓if_neg, ↓if_true, ↓if_false, List.take_length, Nat.le_refl, Bool.not_true, Bool.not_false, if_pos, wrap_i64', hn1]
    · have hge := bg_ge (f := f) (fi := r.2.2.1) (s := s) hst.1 (i := n) (by omega)
      unfold pcB
      rw [begin_b r hf hfi hst (by omega)]
      simp (disch := omega) only [↓bindO_some, ↓bindO_none, ↓joinO_inl, ↓joinO_inr, ↓joinO_none, ↓outO_some, ↓outO_none, ↓cond_true, ↓cond_false, ↓cond_and, ↓cond_or, ↓cond_not, ↓cond_ite, ↓if_pos, ↓if_neg, ↓if_true, ↓if_false, List.take_length, Nat.le_refl, Bool.not_true, Bool.not_false, if_neg]
  simp (disch := omega) only [↓bindO_some, ↓bindO_none, ↓joinO_inl, ↓joinO_inr, ↓joinO_none, ↓outO_some, ↓outO_none, ↓cond_true, ↓cond_false, ↓cond_and, ↓cond_or, ↓cond_not, ↓cond_ite, ↓if_pos, ↓if_neg, ↓if_true, ↓if_false, List.take_length, Nat.le_refl, Bool.not_true, Bool.not_false, if_neg, e]
  rw [hn']
theorem pieces_same (r : Ra) (f s : Int) : ∃ x, rating_Pieces ((r.1, (r.2.1, (r.2.2.1, (r.2.2.2.1, r.2.2.2.2)))), (f, s)) = some x ∧ dialtoneref37_Pieces ((r.1, (r.2.1, (r.2.2.1, (r.2.2.2.1, r.2.2.2.2)))), (f, s)) = some x := by
  by_cases h : RV r
  · by_cases hf : 0 ≤ f ∧ f ≤ 3600
    · by_cases hs : 0 ≤ s ∧ s ≤ 1000000
      · exact ⟨_, piecesP_j h hf hs, piecesR_j h hf hs⟩
      · refine ⟨0, ?_, ?_⟩
        · unfold rating_Pieces
          simp (disch := omega) only [↓bindO_some, ↓bindO_none, ↓joinO_inl, ↓joinO_inr, ↓joinO_none, ↓outO_some, ↓outO_none, ↓cond_true, ↓cond_false, ↓cond_and, ↓cond_or, ↓cond_not, ↓cond_ite, ↓if_pos, ↓if_neg, ↓if_true, ↓if_false, List.take_length, Nat.le_refl, Bool.not_true, Bool.not_false, validRate_t h, within_b, hf, hs, and_self, decide_true, decide_false]
        · rw [piecesR_eq, rate_same, validRate_t h]
          rcases Int.lt_or_le s 0 with k | k
          · simp (disch := omega) only [↓bindO_some, ↓bindO_none, ↓joinO_inl, ↓joinO_inr, ↓joinO_none, ↓outO_some, ↓outO_none, ↓cond_true, ↓cond_false, ↓cond_and, ↓cond_or, ↓cond_not, ↓cond_ite, ↓if_pos, ↓if_neg, ↓if_true, ↓if_false, List.take_length, Nat.le_refl, Bool.not_true, Bool.not_false, if_neg, if_pos]
          · simp (disch := omega) only [↓bindO_some, ↓bindO_none, ↓joinO_inl, ↓joinO_inr, ↓joinO_none, ↓outO_some, ↓outO_none, ↓cond_true, ↓cond_false, ↓cond_and, ↓cond_or, ↓cond_not, ↓cond_ite, ↓if_pos, ↓if_neg, ↓if_true, ↓if_false, List.take_length, Nat.le_refl, Bool.not_true, Bool.not_false, if_neg, if_pos]
    · refine ⟨0, ?_, ?_⟩
      · unfold rating_Pieces
        simp (disch := omega) only [↓bindO_some, ↓bindO_none, ↓joinO_inl, ↓joinO_inr, ↓joinO_none, ↓outO_some, ↓outO_none, ↓cond_true, ↓cond_false, ↓cond_and, ↓cond_or, ↓cond_not, ↓cond_ite, ↓if_pos, ↓if_neg, ↓if_true, ↓if_false, List.take_length, Nat.le_refl, Bool.not_true, Bool.not_false, validRate_t h, within_b, hf, decide_false]
      · rw [piecesR_eq, rate_same, validRate_t h]
        rcases Int.lt_or_le f 0 with k | k
        · simp (disch := omega) only [↓bindO_some, ↓bindO_none, ↓joinO_inl, ↓joinO_inr, ↓joinO_none, ↓outO_some, ↓outO_none, ↓cond_true, ↓cond_false, ↓cond_and, ↓cond_or, ↓cond_not, ↓cond_ite, ↓if_pos, ↓if_neg, ↓if_true, ↓if_false, List.take_length, Nat.le_refl, Bool.not_true, Bool.not_false, if_neg, if_pos]
        · simp (disch := omega) only [↓bindO_some, ↓bindO_none, ↓joinO_inl, ↓joinO_inr, ↓joinO_none, ↓outO_some, ↓outO_none, ↓cond_true, ↓cond_false, ↓cond_and, ↓cond_or, ↓cond_not, ↓cond_ite, ↓if_pos, ↓if_neg, ↓if_true, ↓if_false, List.take_length, Nat.le_refl, Bool.not_true, Bool.not_false, if_neg, if_pos]
  · refine ⟨0, ?_, ?_⟩
    · unfold rating_Pieces
      simp only [↓bindO_some, ↓bindO_none, ↓joinO_inl, ↓joinO_inr, ↓joinO_none, ↓outO_some, ↓outO_none, ↓cond_true, ↓cond_false, ↓cond_and, ↓cond_or, ↓cond_not, ↓cond_ite, ↓if_pos, ↓if_neg, ↓if_true, ↓if_false, List.take_length, Nat.le_refl, Bool.not_true, Bool.not_false, validRate_f h]
    · rw [piecesR_eq, rate_same, validRate_f h]; rfl
end Go.Proofs.Ytbckoncbimljeaa
