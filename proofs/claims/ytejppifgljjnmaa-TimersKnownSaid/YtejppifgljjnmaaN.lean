/- Taking what is due twice: plain lists. -/
import Derived.Test.YtejppifgljjnmaaQ
import Derived.Test.YtejppifgljjnmaaK
set_option linter.unusedVariables false
set_option linter.unusedSimpArgs false
namespace Go.Proofs.Ytejppifgljjnmaa

theorem vf_filter (p : Tm → Bool) : ∀ {ts : List Tm} {a : Int}, vf a ts = true → vf a (ts.filter p) = true
  | [], _, _ => rfl
  | x :: r, a, h => by
    simp only [vf, Bool.and_eq_true, decide_eq_true_eq] at h
    by_cases hp : p x = true
    · rw [List.filter_cons_of_pos hp]
      simp only [vf, Bool.and_eq_true, decide_eq_true_eq]
      exact ⟨h.1, vf_filter p h.2⟩
    · rw [List.filter_cons_of_neg hp]
      exact vf_mono h.1.1 (vf_filter p h.2)
theorem valid_filter (p : Tm → Bool) {ts : List Tm} (h : validB ts = true) : validB (ts.filter p) = true := by
  have h1 := valid_len h
  have h2 := vf_filter p (valid_vf h)
  have h3 := List.length_filter_le p ts
  unfold validB
  rw [h2]
  simp; omega
theorem vf_ge : ∀ {ts : List Tm} {a : Int}, vf a ts = true → ∀ x ∈ ts, a ≤ x.at_
  | [], _, _, x, hx => by simp at hx
  | y :: r, a, h, x, hx => by
    simp only [vf, Bool.and_eq_true, decide_eq_true_eq] at h
    rcases List.mem_cons.1 hx with rfl | hx
    · exact h.1.1
    · have := vf_ge h.2 x hx; omega
abbrev leF (p : Int) (t : Tm) : Bool := decide (t.at_ ≤ p)
abbrev gtF (p : Int) (t : Tm) : Bool := decide (p < t.at_)
theorem split_sorted (p : Int) : ∀ {ts : List Tm} {a : Int}, vf a ts = true → ts.filter (leF p) ++ ts.filter (gtF p) = ts
  | [], _, _ => rfl
  | x :: r, a, h => by
    simp only [vf, Bool.and_eq_true, decide_eq_true_eq] at h
    by_cases hx : x.at_ ≤ p
    · rw [List.filter_cons_of_pos (by simpa using hx), List.filter_cons_of_neg (by simp; omega), List.cons_append, split_sorted p h.2]
    · have hg := vf_ge h.2
      rw [List.filter_cons_of_neg (by simpa using hx), List.filter_cons_of_pos (by simp; omega),
        List.filter_eq_nil_iff.2 (fun y hy => by have := hg y hy; simp; omega), List.filter_eq_self.2 (fun y hy => by have := hg y hy; simp; omega)]
      rfl
theorem two_le {p q : Int} (hpq : p ≤ q) (ts : List Tm) : (ts.filter (leF q)).filter (leF p) = ts.filter (leF p) ∧ (ts.filter (gtF p)).filter (gtF q) = ts.filter (gtF q) ∧ (ts.filter (leF q)).filter (gtF p) = (ts.filter (gtF p)).filter (leF q) := by
  simp only [List.filter_filter]
  refine ⟨List.filter_congr fun x _ => ?_, List.filter_congr fun x _ => ?_, List.filter_congr fun x _ => ?_⟩
  · rw [Bool.eq_iff_iff]; simp [leF, gtF]; omega
  · rw [Bool.eq_iff_iff]; simp [leF, gtF]; omega
  · rw [Bool.eq_iff_iff]; simp [leF, gtF]; omega
theorem due_val {ts : List Tm} (h : validB ts = true) (q : Int) : dueR ts q = ts.filter (leF q) ∧ restR ts q = ts.filter (gtF q) := by
  unfold dueR restR withoutR
  rw [h, if_pos rfl, if_pos rfl]
  constructor <;> refine List.filter_congr fun x _ => ?_ <;> rw [Bool.eq_iff_iff] <;> simp [leF, gtF]
theorem due_twice {ts : List Tm} (h : validB ts = true) {p q : Int} (hpq : p ≤ q) :
    dueR ts p ++ dueR (restR ts p) q = dueR ts q ∧ restR (restR ts p) q = restR ts q ∧ dueR ts q ++ restR ts q = ts := by
  have hr : validB (restR ts p) = true := by rw [(due_val h p).2]; exact valid_filter _ h
  have h2 := two_le hpq ts
  rw [(due_val hr q).1, (due_val hr q).2, (due_val h p).1, (due_val h p).2, (due_val h q).1, (due_val h q).2]
  refine ⟨?_, h2.2.1, split_sorted q (valid_vf h)⟩
  rw [← h2.2.2, ← h2.1]
  exact split_sorted p (vf_filter _ (valid_vf h))
theorem due_len {ts : List Tm} (q : Int) (h : validB ts = true) : (dueR ts q).length ≤ ts.length ∧ (restR ts q).length ≤ ts.length := by
  rw [(due_val h q).1, (due_val h q).2]
  exact ⟨List.length_filter_le _ _, List.length_filter_le _ _⟩
end Go.Proofs.Ytejppifgljjnmaa
