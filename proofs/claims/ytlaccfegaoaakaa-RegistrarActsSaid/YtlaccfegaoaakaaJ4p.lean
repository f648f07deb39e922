import Derived.Test.YtlaccfegaoaakaaJ3p
set_option linter.unusedVariables false
set_option linter.unusedSimpArgs false
set_option maxRecDepth 100000
namespace Go.Proofs.Ytlaccfegaoaakaa
open Go.RowKit
noncomputable def nmB {γ : Type} (u : Int) : (Int × List Int) → Option ((Int × List Int) ⊕ (List Int ⊕ γ)) :=
(fun (v12, v13) =>
 bif (decide (v12 ≥ (0 : Int))) then
 bindO (some (Go.IntKind.wrap .i64 ((8 : Int) * v12))) fun x15 =>
 bif (decide ((0 : Int) ≤ x15)) then 
 bindO (some (Int.fdiv u ((2 : Int) ^ (Min.min (Int.toNat x15) 64)))) fun x16 =>
 bif (decide ((List.length v13) ≤ (List.length v13))) then 
 bif (decide (((List.length ((List.take (List.length v13) v13) ++ ((Go.IntKind.wrap .u8 x16) :: ([] : List Int)))) * 1) ≤ 140737488355328)) then 
 bindO (some ((List.take (List.length v13) v13) ++ ((Go.IntKind.wrap .u8 x16) :: ([] : List Int)))) fun x18 =>
 bif (decide ((List.length x18) ≤ (List.length x18))) then 
 some (Sum.inl ((Go.IntKind.wrap .i64 (v12 - (1 : Int))), (List.take (List.length x18) x18)))
 else none
 else none
 else none
 else none
 else
 outO (bif (decide ((List.length v13) ≤ (List.length v13))) then 
 some (Sum.inl (List.take (List.length v13) v13))
 else none))
theorem pow_256 (m : Nat) : (2 : Int) ^ (8 * m) = 256 ^ m := by rw [Int.pow_mul]; rfl
theorem take_getI {A : List Int} {n : Nat} (h : n < A.length) : A.take (n + 1) = A.take n ++ [A.getD n 0] := by
  rw [List.take_add_one, List.getElem?_eq_getElem h, List.getD_eq_getElem?_getD, List.getElem?_eq_getElem h]; rfl
theorem nm_j {γ : Type} {u : Int} {k : Nat} {v : Int} (b : List Int) (hu : 0 ≤ u) (hv : v = (k : Int) - 1) (hk : k ≤ 8) (hb : b.length ≤ 1000000) : loopO (nmB (γ := γ) u) (v, b) = some (.inl (b ++ be u k)) := by
  subst hv
  have hl := be_len u k
  refine loopO_from (fun n => (((k : Int) - 1 - (n : Int)), b ++ (be u k).take n)) k (by simp) (fun n hn => ?_) ?_
  · obtain ⟨m, hm⟩ : ∃ m : Nat, k - 1 - n = m := ⟨_, rfl⟩
    have e1 : (k : Int) - 1 - (n : Int) = (m : Int) := by omega
    have e2 : (k : Int) - 1 - ((n + 1 : Nat) : Int) = (m : Int) - 1 := by omega
    have hx : IntKind.wrap .u8 (Int.fdiv u ((2 : Int) ^ (Min.min (Int.toNat (8 * (m : Int))) 64))) = (be u k).getD n 0 := by
      rw [be_get u k n hn, hm, wr_u8]
      have : Min.min (Int.toNat (8 * (m : Int))) 64 = 8 * m := by omega
      have hp : (0 : Int) < 256 ^ m := Int.pow_pos (by decide)
      rw [this, pow_256, Int.fdiv_eq_ediv_of_nonneg _ (by omega)]
    have hx8 : IntKind.wrap .i64 (8 * (m : Int)) = 8 * (m : Int) := wrap_i64' (by omega)
    have hw : IntKind.wrap .i64 ((m : Int) - 1) = (m : Int) - 1 := wrap_i64' (by omega)
    have ht : ((be u k).take n).length ≤ 8 := by rw [List.length_take]; omega
    simp only [e1, e2, take_getI (show n < (be u k).length by omega)]
    generalize (be u k).take n = A at *
    have hB : (b.length + (A.length + 1)) * 1 ≤ 140737488355328 := by omega
    unfold nmB
    simp (disch := (first | omega | (simp only [List.length_append, List.length_cons, List.length_nil, List.nil_append, List.length_take, List.length_drop]; omega))) only [↓bindO_some, ↓bindO_none, ↓joinO_inl, ↓joinO_inr, ↓joinO_none, ↓outO_some, ↓outO_none, ↓cond_true, ↓cond_false, ↓cond_and, ↓cond_or, ↓cond_not, ↓cond_ite, ↓if_pos, ↓if_neg, ↓if_true, ↓if_false, List.take_length, Nat.le_refl, Bool.not_true, Bool.not_false, if_pos, hx8, hx, hw, List.append_assoc]
  · have hT : (be u k).take k = be u k := List.take_of_length_le (by omega)
    simp only [hT]
    unfold nmB
    have : ¬ ((k : Int) - 1 - (k : Int) ≥ 0) := by omega
    simp (disch := (first | omega | (simp only [List.length_append, List.length_cons, List.length_nil, List.nil_append, List.length_take, List.length_drop]; omega))) only [↓bindO_some, ↓bindO_none, ↓joinO_inl, ↓joinO_inr, ↓joinO_none, ↓outO_some, ↓outO_none, ↓cond_true, ↓cond_false, ↓cond_and, ↓cond_or, ↓cond_not, ↓cond_ite, ↓if_pos, ↓if_neg, ↓if_true, ↓if_false, List.take_length, Nat.le_refl, Bool.not_true, Bool.not_false, if_neg]
end Go.Proofs.Ytlaccfegaoaakaa
