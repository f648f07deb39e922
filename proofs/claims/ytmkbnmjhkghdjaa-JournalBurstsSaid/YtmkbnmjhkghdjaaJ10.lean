/- Chapter 20, plain: what a law writes. -/
import Derived.Test.YtmkbnmjhkghdjaaJ9
set_option linter.unusedVariables false
set_option linter.unusedSimpArgs false
namespace Go.Proofs.Ytmkbnmjhkghdjaa
open Go.RowKit

/-- A record of a law. -/
def Rec2 (r : Int × List Int) : Prop := (0 ≤ r.1 ∧ r.1 ≤ 255) ∧ Bytes r.2 ∧ r.2.length ≤ 200
theorem Rec2.ok {r : Int × List Int} (h : Rec2 r) : RecOk r := ⟨h.1, h.2.1, by have := h.2.2; omega⟩
def Few (l : Recs) : Prop := l.length ≤ 20 ∧ ∀ r ∈ l, Rec2 r
theorem few_ok (l : Recs) (hl : l.length ≤ 9223372036854775807) (hw : ∀ r ∈ l, (0 ≤ r.1 ∧ r.1 ≤ 255) ∧ Bytes r.2) : ∃ l', dialtonelaw20_few l = some l' ∧ Few l' := by
  unfold dialtonelaw20_few
  simp only [bindO_some, bindO_none, joinO_inl, joinO_inr, joinO_none, outO_some, outO_none, cond_ite, List.take_length, Nat.le_refl, if_true, Nat.mul_one, Int.mul_one, cond_true, cond_false]
  refine loopO_postG (fun x : Int × Recs => (0 ≤ x.1 ∧ x.1 ≤ (l.length : Int)) ∧ Few x.2) (fun x => ((l.length : Int) - x.1).toNat) (fun o => ∃ l', o = some l' ∧ Few l') ?_ ⟨by simp, by simp, fun r hr => by cases hr⟩
  rintro ⟨i, acc⟩ ⟨⟨h0, h1⟩, h2, h3⟩
  simp only at h0 h1 h2 h3 ⊢
  by_cases hi : i < (l.length : Int)
  · rw [if_pos hi]
    by_cases h20 : (acc.length : Int) < 20
    · rw [if_pos h20, if_pos ⟨h0, hi⟩, get_in h0 hi, bindO_some]
      have hm := hw _ (List.getElem_mem (l := l) (n := i.toNat) (by omega))
      by_cases hs : ((l[i.toNat]'(by omega)).2.length : Int) ≤ 200
      · rw [if_pos hs, if_pos ⟨h0, hi⟩, bindO_some, if_pos (by rw [List.length_append, List.length_singleton]; omega), wrap_i64' (by omega)]
        refine PostS.next ⟨⟨by simp only; omega, by simp only; omega⟩, by simp only [List.length_append, List.length_singleton]; omega, fun r hr => ?_⟩ (by simp only; omega)
        rcases List.mem_append.1 hr with h | h
        · exact h3 r h
        · rw [List.mem_singleton] at h
          subst h
          exact ⟨hm.1, hm.2, by simp only; omega⟩
      · rw [if_neg hs, wrap_i64' (by omega)]
        exact PostS.next ⟨⟨by simp only; omega, by simp only; omega⟩, h2, h3⟩ (by simp only; omega)
    · rw [if_neg h20]
      exact PostS.stop ⟨acc, rfl, h2, h3⟩
  · rw [if_neg hi]
    exact PostS.stop ⟨acc, rfl, h2, h3⟩
theorem valid_j (b : List Int) (s c : Int) : journal_Valid (b, (s, c)) = some (decide (0 ≤ s ∧ s ≤ (b.length : Int) ∧ 0 ≤ c ∧ c ≤ 1048576)) := by
  unfold journal_Valid
  simp only [bindO_some, bindO_none, joinO_inl, joinO_inr, joinO_none, outO_some, outO_none, cond_ite, List.take_length, Nat.le_refl, if_true, Nat.mul_one, Int.mul_one, cond_true, cond_false]
  by_cases h1 : s ≥ 0
  · by_cases h2 : s ≤ (b.length : Int)
    · by_cases h3 : c ≥ 0
      · rw [if_pos h1, if_pos h2, if_pos h3]
        congr 1
        rw [decide_eq_decide]; omega
      · rw [if_pos h1, if_pos h2, if_neg h3, decide_eq_false (by omega)]
    · rw [if_pos h1, if_neg h2, decide_eq_false (by omega)]
  · rw [if_neg h1, decide_eq_false (by omega)]
theorem append_j (b : List Int) (s c k : Int) (d : List Int) (hb : b.length ≤ 900000) (hs : 0 ≤ s ∧ s ≤ (b.length : Int)) (hc : 0 ≤ c ∧ c < 1048576) (hr : RecOk (k, d)) : journal_Append ((b, (s, c)), (k, d)) = some ((b ++ encB c k d, (s, c + 1)), 0) := by
  unfold journal_Append
  refine bindO_eq (valid_j b s c) ?_
  rw [decide_eq_true (by omega)]
  simp only [bindO_some, bindO_none, joinO_inl, joinO_inr, joinO_none, outO_some, outO_none, cond_ite, List.take_length, Nat.le_refl, if_true, Nat.mul_one, Int.mul_one, cond_true, cond_false, Bool.not_true]
  rw [if_neg (by omega)]
  have he : encS c k d = (encB c k d, 0) := by
    have := hr.2.2
    simp only at this
    unfold encS
    rw [if_neg (by omega), if_neg (by omega), if_neg (by omega)]
  refine bindO_eq ((encode_j c k d (by omega) hr.1 hr.2.1).trans (congrArg some he)) ?_
  simp only [ne_eq, not_true_eq_false, if_false]
  have := hr.2.2
  simp only at this
  refine bindO_eq (joined_j _ _ (by omega) (by rw [encB_length]; omega)) ?_
  rw [wrap_i64' (by omega)]
/-- How many bytes records have. -/
def sumL : Recs → Nat
  | [] => 0
  | r :: l => 14 + r.2.length + sumL l
theorem encAll_length : ∀ (l : Recs) (i : Nat), (encAll i l).length = sumL l
  | [], i => rfl
  | r :: l, i => by rw [encAll, List.length_append, encB_length, encAll_length l, sumL]
theorem encAll_append : ∀ (a b : Recs) (i : Nat), encAll i (a ++ b) = encAll i a ++ encAll (i + a.length) b
  | [], b, i => rfl
  | r :: a, b, i => by
    show encB i r.1 r.2 ++ encAll (i + 1) (a ++ b) = encB i r.1 r.2 ++ encAll (i + 1) a ++ encAll (i + (a.length + 1)) b
    rw [encAll_append a b (i + 1), List.append_assoc, show i + 1 + a.length = i + (a.length + 1) from by omega]
theorem sumL_append : ∀ (a b : Recs), sumL (a ++ b) = sumL a + sumL b
  | [], b => by simp [sumL]
  | r :: a, b => by rw [List.cons_append, sumL, sumL, sumL_append a b]; omega
theorem sumL_take_succ (l : Recs) {i : Nat} (h : i < l.length) : sumL (l.take (i + 1)) = sumL (l.take i) + (14 + l[i].2.length) := by
  rw [List.take_add_one, List.getElem?_eq_getElem h, sumL_append]
  simp [sumL]
theorem sumL_mono (l : Recs) {i j : Nat} (h : i ≤ j) : sumL (l.take i) ≤ sumL (l.take j) := by
  have : l.take j = l.take i ++ (l.drop i).take (j - i) := by rw [← List.take_add]; congr 1; omega
  rw [this, sumL_append]; omega
theorem sumL_few : ∀ {l : Recs}, (∀ r ∈ l, Rec2 r) → sumL l ≤ 214 * l.length
  | [], _ => Nat.le_refl _
  | r :: l, h => by
    have h1 := (h r List.mem_cons_self).2.2
    have h2 := sumL_few (l := l) fun r' h' => h r' (List.mem_cons_of_mem _ h')
    rw [sumL, List.length_cons]; omega
/-- Where the records end. -/
def endsL (l : Recs) (n : Nat) : List Int := (List.range n).map fun j => ((sumL (l.take (j + 1)) : Nat) : Int)
theorem endsL_length (l : Recs) (n : Nat) : (endsL l n).length = n := by simp [endsL]
theorem endsL_succ (l : Recs) (n : Nat) : endsL l (n + 1) = endsL l n ++ [((sumL (l.take (n + 1)) : Nat) : Int)] := by simp [endsL, List.range_succ]
theorem endsL_get (l : Recs) {n i : Nat} (h : i < n) : (endsL l n)[i]? = some ((sumL (l.take (i + 1)) : Nat) : Int) := by
  rw [endsL, List.getElem?_map, List.getElem?_range h]; rfl
theorem write_ok (l : Recs) (h : Few l) : dialtonelaw20_write l = some ((encAll 0 l, (0, (l.length : Int))), (endsL l l.length, true)) := by
  unfold dialtonelaw20_write
  simp only [bindO_some, bindO_none, joinO_inl, joinO_inr, joinO_none, outO_some, outO_none, cond_ite, List.take_length, Nat.le_refl, if_true, Nat.mul_one, Int.mul_one, cond_true, cond_false]
  have hsum := sumL_few h.2
  have hl := h.1
  refine joinO_eq (a := (endsL l l.length, (encAll 0 l, ((0 : Int), (l.length : Int))))) (loopO_from (fun i => ((i : Int), (endsL l i, (encAll 0 (l.take i), ((0 : Int), (i : Int)))))) l.length rfl ?_ ?_) rfl
  · intro i hi
    have hri := h.2 _ (List.getElem_mem hi)
    have hlen : (encAll 0 (l.take i)).length = sumL (l.take i) := encAll_length _ _
    have hle := sumL_mono l (show i ≤ l.length by omega)
    rw [List.take_length] at hle
    simp only
    rw [if_pos (by omega), if_pos (by omega), get_nat hi, bindO_some]
    rw [append_j (encAll 0 (l.take i)) 0 (i : Int) l[i].1 l[i].2 (by omega) (by omega) (by omega) hri.ok, bindO_some]
    have hsz : (encAll 0 (l.take i) ++ encB (i : Int) l[i].1 l[i].2).length = sumL (l.take (i + 1)) := by
      rw [List.length_append, hlen, encB_length, sumL_take_succ l hi]
    have hr2 := hri.2.2
    have hss := sumL_take_succ l hi
    simp only [ne_eq, not_true_eq_false, if_false]
    rw [if_pos (by omega), bindO_some, hsz, hlen, wrap_i64' (n := ((sumL (l.take i) : Nat) : Int) + 14) (by omega), wrap_i64' (n := ((sumL (l.take i) : Nat) : Int) + 14 + _) (by omega), if_neg (by omega), wrap_i64' (by omega), if_neg (by omega), if_pos (by rw [List.length_append, endsL_length, List.length_singleton]; omega), endsL_succ]
    have henc : encAll 0 (l.take (i + 1)) = encAll 0 (l.take i) ++ encB (i : Int) l[i].1 l[i].2 := by
      rw [List.take_add_one, List.getElem?_eq_getElem hi, encAll_append, List.length_take, Nat.min_eq_left (by omega)]
      simp [encAll]
    rw [henc]
    rfl
  · rw [if_neg (by omega), List.take_length]
theorem cnt_spec : ∀ (l : Recs) (c : Nat), sumL (l.take (cnt l c)) = endC l c ∧ (cnt l c < l.length → c < sumL (l.take (cnt l c + 1)))
  | [], c => ⟨rfl, fun h => by cases h⟩
  | r :: l, c => by
    obtain ⟨h1, h2⟩ := cnt_spec l (c - (14 + r.2.length))
    rw [cnt, endC]
    split
    · rename_i h
      rw [Nat.add_comm 1, List.take_succ_cons, sumL, h1]
      refine ⟨rfl, fun h3 => ?_⟩
      rw [List.take_succ_cons, sumL]
      have := h2 (by rw [List.length_cons] at h3; omega)
      omega
    · rename_i h
      refine ⟨rfl, fun _ => ?_⟩
      rw [List.take_succ_cons, List.take_zero, sumL, sumL]; omega
end Go.Proofs.Ytmkbnmjhkghdjaa
