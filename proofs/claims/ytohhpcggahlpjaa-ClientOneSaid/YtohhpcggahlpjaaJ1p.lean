import Derived.Test.YtohhpcggahlpjaaY1p
import Derived.Test.YtohhpcggahlpjaaZ1p
set_option linter.unusedVariables false
set_option linter.unusedSimpArgs false
namespace Go.Proofs.Ytohhpcggahlpjaa
open Go.RowKit
def Ok13 (a1 a2 a3 : Int) : Prop := ((a1 = 2 ∨ a1 = 3) ∧ a3 = 0 ∧ (a2 = 500 ∨ a2 = 1000 ∨ a2 = 2000 ∨ a2 = 4000)) ∨ (a1 = 5 ∧ a2 = 0 ∧ 200 ≤ a3 ∧ a3 ≤ 699) ∨ (a1 = 7 ∧ a2 = 0 ∧ (a3 = 0 ∨ (200 ≤ a3 ∧ a3 ≤ 699)))
instance (a1 a2 a3 : Int) : Decidable (Ok13 a1 a2 a3) := by unfold Ok13; infer_instance
theorem okT {a1 a2 a3 : Int} (h : Ok13 a1 a2 a3) : some true = some (decide (Ok13 a1 a2 a3)) := by rw [decide_eq_true h]
theorem okF {a1 a2 a3 : Int} (h : ¬ Ok13 a1 a2 a3) : some false = some (decide (Ok13 a1 a2 a3)) := by rw [decide_eq_false h]
theorem okD {a1 a2 a3 : Int} {p : Prop} [Decidable p] (h : p ↔ Ok13 a1 a2 a3) : some (decide p) = some (decide (Ok13 a1 a2 a3)) := by rw [decide_eq_decide.2 h]
theorem may_j (a1 a2 a3 : Int) : client_May (a1, (a2, a3)) = some (decide (Ok13 a1 a2 a3)) := by
  unfold client_May
  by_cases h2 : a1 = 2
  · subst h2; simp (disch := omega) only [bindO_some, bindO_none, joinO_inl, joinO_inr, joinO_none, outO_some, outO_none, cond_ite, List.take_length, Nat.le_refl, if_true, Nat.mul_one, Int.mul_one, cond_true, cond_false, if_pos, if_neg]; (repeat' split) <;> (try simp (disch := omega) only [bindO_some, bindO_none, joinO_inl, joinO_inr, joinO_none, outO_some, outO_none, cond_ite, List.take_length, Nat.le_refl, if_true, Nat.mul_one, Int.mul_one, cond_true, cond_false, if_pos, if_neg]) <;> first | exact okT (by unfold Ok13; omega) | exact okF (by unfold Ok13; omega) | (refine okD ?_; unfold Ok13; omega)
  by_cases h3 : a1 = 3
  · subst h3; simp (disch := omega) only [bindO_some, bindO_none, joinO_inl, joinO_inr, joinO_none, outO_some, outO_none, cond_ite, List.take_length, Nat.le_refl, if_true, Nat.mul_one, Int.mul_one, cond_true, cond_false, if_pos, if_neg]; (repeat' split) <;> (try simp (disch := omega) only [bindO_some, bindO_none, joinO_inl, joinO_inr, joinO_none, outO_some, outO_none, cond_ite, List.take_length, Nat.le_refl, if_true, Nat.mul_one, Int.mul_one, cond_true, cond_false, if_pos, if_neg]) <;> first | exact okT (by unfold Ok13; omega) | exact okF (by unfold Ok13; omega) | (refine okD ?_; unfold Ok13; omega)
  by_cases h5 : a1 = 5
  · subst h5; simp (disch := omega) only [bindO_some, bindO_none, joinO_inl, joinO_inr, joinO_none, outO_some, outO_none, cond_ite, List.take_length, Nat.le_refl, if_true, Nat.mul_one, Int.mul_one, cond_true, cond_false, if_pos, if_neg]; (repeat' split) <;> (try simp (disch := omega) only [bindO_some, bindO_none, joinO_inl, joinO_inr, joinO_none, outO_some, outO_none, cond_ite, List.take_length, Nat.le_refl, if_true, Nat.mul_one, Int.mul_one, cond_true, cond_false, if_pos, if_neg]) <;> first | exact okT (by unfold Ok13; omega) | exact okF (by unfold Ok13; omega) | (refine okD ?_; unfold Ok13; omega)
  by_cases h7 : a1 = 7
  · subst h7; simp (disch := omega) only [bindO_some, bindO_none, joinO_inl, joinO_inr, joinO_none, outO_some, outO_none, cond_ite, List.take_length, Nat.le_refl, if_true, Nat.mul_one, Int.mul_one, cond_true, cond_false, if_pos, if_neg]; (repeat' split) <;> (try simp (disch := omega) only [bindO_some, bindO_none, joinO_inl, joinO_inr, joinO_none, outO_some, outO_none, cond_ite, List.take_length, Nat.le_refl, if_true, Nat.mul_one, Int.mul_one, cond_true, cond_false, if_pos, if_neg]) <;> first | exact okT (by unfold Ok13; omega) | exact okF (by unfold Ok13; omega) | (refine okD ?_; unfold Ok13; omega)
  simp (disch := omega) only [bindO_some, bindO_none, joinO_inl, joinO_inr, joinO_none, outO_some, outO_none, cond_ite, List.take_length, Nat.le_refl, if_true, Nat.mul_one, Int.mul_one, cond_true, cond_false, if_pos, if_neg, decide_eq_false h3]
  exact okF (by unfold Ok13; omega)
theorem mayR_j (a1 a2 a3 : Int) : dialtoneref13_May (a1, (a2, a3)) = some (decide (Ok13 a1 a2 a3)) := by
  unfold dialtoneref13_May dialtoneref13_Short dialtoneref12_From
  by_cases h2 : a1 = 2
  · subst h2; simp (disch := omega) only [bindO_some, bindO_none, joinO_inl, joinO_inr, joinO_none, outO_some, outO_none, cond_ite, List.take_length, Nat.le_refl, if_true, Nat.mul_one, Int.mul_one, cond_true, cond_false, bindO_ite, if_pos, if_neg]; (repeat' split) <;> (try simp (disch := omega) only [bindO_some, bindO_none, joinO_inl, joinO_inr, joinO_none, outO_some, outO_none, cond_ite, List.take_length, Nat.le_refl, if_true, Nat.mul_one, Int.mul_one, cond_true, cond_false, if_pos, if_neg]) <;> first | exact okT (by unfold Ok13; omega) | exact okF (by unfold Ok13; omega) | (refine okD ?_; unfold Ok13; omega)
  by_cases h3 : a1 = 3
  · subst h3; simp (disch := omega) only [bindO_some, bindO_none, joinO_inl, joinO_inr, joinO_none, outO_some, outO_none, cond_ite, List.take_length, Nat.le_refl, if_true, Nat.mul_one, Int.mul_one, cond_true, cond_false, bindO_ite, if_pos, if_neg]; (repeat' split) <;> (try simp (disch := omega) only [bindO_some, bindO_none, joinO_inl, joinO_inr, joinO_none, outO_some, outO_none, cond_ite, List.take_length, Nat.le_refl, if_true, Nat.mul_one, Int.mul_one, cond_true, cond_false, if_pos, if_neg]) <;> first | exact okT (by unfold Ok13; omega) | exact okF (by unfold Ok13; omega) | (refine okD ?_; unfold Ok13; omega)
  by_cases h5 : a1 = 5
  · subst h5; simp (disch := omega) only [bindO_some, bindO_none, joinO_inl, joinO_inr, joinO_none, outO_some, outO_none, cond_ite, List.take_length, Nat.le_refl, if_true, Nat.mul_one, Int.mul_one, cond_true, cond_false, bindO_ite, if_pos, if_neg]; (repeat' split) <;> (try simp (disch := omega) only [bindO_some, bindO_none, joinO_inl, joinO_inr, joinO_none, outO_some, outO_none, cond_ite, List.take_length, Nat.le_refl, if_true, Nat.mul_one, Int.mul_one, cond_true, cond_false, if_pos, if_neg]) <;> first | exact okT (by unfold Ok13; omega) | exact okF (by unfold Ok13; omega) | (refine okD ?_; unfold Ok13; omega)
  by_cases h7 : a1 = 7
  · subst h7; simp (disch := omega) only [bindO_some, bindO_none, joinO_inl, joinO_inr, joinO_none, outO_some, outO_none, cond_ite, List.take_length, Nat.le_refl, if_true, Nat.mul_one, Int.mul_one, cond_true, cond_false, bindO_ite, if_pos, if_neg]; (repeat' split) <;> (try simp (disch := omega) only [bindO_some, bindO_none, joinO_inl, joinO_inr, joinO_none, outO_some, outO_none, cond_ite, List.take_length, Nat.le_refl, if_true, Nat.mul_one, Int.mul_one, cond_true, cond_false, if_pos, if_neg]) <;> first | exact okT (by unfold Ok13; omega) | exact okF (by unfold Ok13; omega) | (refine okD ?_; unfold Ok13; omega)
  simp (disch := omega) only [bindO_some, bindO_none, joinO_inl, joinO_inr, joinO_none, outO_some, outO_none, cond_ite, List.take_length, Nat.le_refl, if_true, Nat.mul_one, Int.mul_one, cond_true, cond_false, if_pos, if_neg, decide_eq_false h3]
  exact okF (by unfold Ok13; omega)
set_option maxHeartbeats 4000000 in
theorem step_j (a1 a2 a3 a4 a5 a6 : Int) : client_Step ((a1, (a2, a3)), (a4, (a5, a6))) = dialtoneref13_Step ((a1, (a2, a3)), (a4, (a5, a6))) := by
  unfold client_Step dialtoneref13_Step
  by_cases hok : Ok13 a1 a2 a3
  · simp only [may_j, mayR_j, bindO_some, bindO_none, joinO_inl, joinO_inr, joinO_none, outO_some, outO_none, cond_ite, List.take_length, Nat.le_refl, if_true, Nat.mul_one, Int.mul_one, cond_true, cond_false, decide_eq_true hok, Bool.not_true]
    unfold dialtoneref13_open dialtoneref12_From
    have h4 : a4 = 5 ∧ a6 = 5 ∨ a4 = 5 ∧ a6 = 6 ∨ a4 = 5 ∧ a6 = 11 ∨ a4 = 5 ∧ ¬ a6 = 5 ∧ ¬ a6 = 6 ∧ ¬ a6 = 11 ∨ a4 = 6 ∨ a4 = 2 ∧ 100 ≤ a5 ∧ a5 ≤ 199 ∨ a4 = 2 ∧ 200 ≤ a5 ∧ a5 ≤ 699 ∨ a4 = 2 ∧ a5 < 100 ∨ a4 = 2 ∧ 699 < a5 ∨ ¬ a4 = 5 ∧ ¬ a4 = 6 ∧ ¬ a4 = 2 := by omega
    rcases (by unfold Ok13 at hok; omega : (a1 = 2 ∧ a3 = 0) ∨ (a1 = 3 ∧ a3 = 0) ∨ a1 = 5 ∨ a1 = 7) with ⟨rfl, rfl⟩ | ⟨rfl, rfl⟩ | rfl | rfl
    all_goals
      rcases h4 with ⟨rfl, rfl⟩ | ⟨rfl, rfl⟩ | ⟨rfl, rfl⟩ | ⟨rfl, _, _, _⟩ | rfl | ⟨rfl, _, _⟩ | ⟨rfl, _, _⟩ | ⟨rfl, _⟩ | ⟨rfl, _⟩ | ⟨_, _, _⟩
      all_goals simp (disch := omega) only [bindO_some, bindO_none, joinO_inl, joinO_inr, joinO_none, outO_some, outO_none, cond_ite, List.take_length, Nat.le_refl, if_true, Nat.mul_one, Int.mul_one, cond_true, cond_false, if_pos, if_neg, Bool.not_true, Bool.not_false, decide_true, decide_false, Bool.true_and, Bool.and_true, Bool.false_and, Bool.and_false, Bool.and_self, eq_self, decide_eq_true, decide_eq_false, Bool.cond_self]
  · simp only [may_j, mayR_j, bindO_some, bindO_none, joinO_inl, joinO_inr, joinO_none, outO_some, outO_none, cond_ite, List.take_length, Nat.le_refl, if_true, Nat.mul_one, Int.mul_one, cond_true, cond_false, decide_eq_false hok, Bool.not_false]
end Go.Proofs.Ytohhpcggahlpjaa
