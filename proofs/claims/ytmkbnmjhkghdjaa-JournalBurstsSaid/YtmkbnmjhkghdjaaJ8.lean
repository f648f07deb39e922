/- Chapter 20, plain: recovering; JournalScans. -/
import Derived.Test.YtmkbnmjhkghdjaaJ7
import Derived.Test.YtmkbnmjhkghdjaaZ2
set_option linter.unusedVariables false
set_option linter.unusedSimpArgs false
namespace Go.Proofs.Ytmkbnmjhkghdjaa
open Go.RowKit

theorem joined_j (a b : List Int) (ha : a.length ≤ 1000000) (hb : b.length ≤ 1000000) : journal_joined (a, b) = some (a ++ b) := by
  unfold journal_joined
  simp only [bindO_some, bindO_none, joinO_inl, joinO_inr, joinO_none, outO_some, outO_none, cond_ite, List.take_length, Nat.le_refl, if_true, Nat.mul_one, Int.mul_one, cond_true, cond_false]
  rw [wrap_i64' (by omega), if_pos (by omega)]
  have e : ((a.length : Int) + (b.length : Int)).toNat = a.length + b.length := by omega
  have h1 : (List.take (a.length + b.length) a) = a := List.take_of_length_le (by omega)
  have h2 : (List.take (a.length + b.length - a.length) b) = b := List.take_of_length_le (by omega)
  have h3 : layL (List.replicate (a.length + b.length) (0 : Int)) 0 a = a ++ List.replicate b.length 0 := by
    unfold layL
    rw [List.take_zero, List.nil_append, Nat.zero_add, List.drop_replicate, show a.length + b.length - a.length = b.length from by omega]
  have h4 : layL (a ++ List.replicate b.length (0 : Int)) a.length b = a ++ b := by
    unfold layL
    rw [List.take_left, List.drop_of_length_le (by rw [List.length_append, List.length_replicate]; omega), List.append_nil]
  rw [e, Int.toNat_natCast, h1, h2, h3, h4]
  rw [if_pos (by rw [List.length_replicate]; omega), if_pos (by omega), if_pos (by rw [List.length_append, List.length_replicate]; omega), if_pos (by rw [List.length_append]; omega), List.take_of_length_le (by rw [List.length_append]; omega)]
theorem copied_r (a : List Int) (ha : a.length ≤ 1000000) : dialtoneref20_copied a = some a := by
  unfold dialtoneref20_copied
  simp only [bindO_some, bindO_none, joinO_inl, joinO_inr, joinO_none, outO_some, outO_none, cond_ite, List.take_length, Nat.le_refl, if_true, Nat.mul_one, Int.mul_one, cond_true, cond_false]
  rw [if_pos (by omega)]
theorem recover_j (b : List Int) (hb : Bytes b) (hl : b.length ≤ 1000000) {l : Recs} {n e : Int} (hr : loopO (scanB b) ([], 0) = some (l, (n, e))) : journal_Recover b = some ((b.take n.toNat, (n, (l.length : Int))), l) := by
  unfold journal_Recover
  obtain ⟨h1, h2, h3⟩ := scan_out hr
  simp only at h1 h2 h3
  refine bindO_eq (scan_j b hb hl hr) ?_
  simp only [bindO_some, bindO_none, joinO_inl, joinO_inr, joinO_none, outO_some, outO_none, cond_ite, List.take_length, Nat.le_refl, if_true, Nat.mul_one, Int.mul_one, cond_true, cond_false, and_dec]
  rw [if_pos (by omega)]
  refine bindO_eq (joined_j _ _ (by rw [List.length_take]; omega) (by simp)) ?_
  rw [List.append_nil]
theorem recover_r (b : List Int) (hb : Bytes b) (hl : b.length ≤ 1000000) {l : Recs} {n e : Int} (hr : loopO (scanB b) ([], 0) = some (l, (n, e))) : dialtoneref20_Recover b = some ((b.take n.toNat, (n, (l.length : Int))), l) := by
  unfold dialtoneref20_Recover
  obtain ⟨h1, h2, h3⟩ := scan_out hr
  simp only at h1 h2 h3
  refine bindO_eq (scan_r b hb hl hr) ?_
  simp only [bindO_some, bindO_none, joinO_inl, joinO_inr, joinO_none, outO_some, outO_none, cond_ite, List.take_length, Nat.le_refl, if_true, Nat.mul_one, Int.mul_one, cond_true, cond_false, and_dec]
  rw [if_pos (by omega)]
  refine bindO_eq (copied_r _ (by rw [List.length_take]; omega)) ?_
  rfl
theorem same_refl (l : Recs) (hl : l.length ≤ 1000000) : dialtoneref20_Same (l, l) = some true := by
  unfold dialtoneref20_Same
  simp only [bindO_some, bindO_none, joinO_inl, joinO_inr, joinO_none, outO_some, outO_none, cond_ite, List.take_length, Nat.le_refl, if_true, Nat.mul_one, Int.mul_one, cond_true, cond_false]
  rw [if_neg (by simp)]
  refine joinO_eq (a := ()) (loopO_from (fun i => (i : Int)) l.length rfl ?_ ?_) rfl
  · intro i hi
    simp (disch := omega) only [bindO_some, bindO_none, joinO_inl, joinO_inr, joinO_none, outO_some, outO_none, cond_ite, List.take_length, Nat.le_refl, if_true, Nat.mul_one, Int.mul_one, cond_true, cond_false, if_pos, get_nat hi, if_neg, wrap_i64', ne_eq, not_true_eq_false, if_false]
    rfl
  · rw [if_neg (by omega)]
theorem samelog_refl (a : List Int × (Int × Int)) : dialtoneref20_SameLog (a, a) = some true := by
  unfold dialtoneref20_SameLog
  simp
theorem scans_true (b : List Int) (hw : WfIs [(.tmp 0 false [(.dat (.list (.int .u8)))])] b) : dialtonelaw20_JournalScans b = some true := by
  have hb : Bytes b := wfBytes hw.1.1
  unfold dialtonelaw20_JournalScans
  simp only [bindO_some, bindO_none, joinO_inl, joinO_inr, joinO_none, outO_some, outO_none, cond_ite, List.take_length, Nat.le_refl, if_true, Nat.mul_one, Int.mul_one, cond_true, cond_false]
  by_cases hl : (b.length : Int) > 20000
  · rw [if_pos hl]
  rw [if_neg hl]
  obtain ⟨⟨l, n, e⟩, hr⟩ := scan_ends b
  have ho := scan_out hr
  simp only at ho
  refine bindO_eq (scan_j b hb (by omega) hr) ?_
  refine bindO_eq (scan_r b hb (by omega) hr) ?_
  refine bindO_eq (recover_j b hb (by omega) hr) ?_
  refine bindO_eq (recover_r b hb (by omega) hr) ?_
  refine bindO_eq (same_refl l (by omega)) ?_
  simp only [bindO_some, bindO_none, joinO_inl, joinO_inr, joinO_none, outO_some, outO_none, cond_ite, List.take_length, Nat.le_refl, if_true, Nat.mul_one, Int.mul_one, cond_true, cond_false]
  refine bindO_eq (samelog_refl _) ?_
  simp only [bindO_some, bindO_none, joinO_inl, joinO_inr, joinO_none, outO_some, outO_none, cond_ite, List.take_length, Nat.le_refl, if_true, Nat.mul_one, Int.mul_one, cond_true, cond_false]
  refine bindO_eq (same_refl l (by omega)) ?_
  rfl
end Go.Proofs.Ytmkbnmjhkghdjaa
