/- Chapter 20, plain: journals that are damaged. -/
import Derived.Test.YtmkbnmjhkghdjaaJ12
import Derived.Test.YtmkbnmjhkghdjaaJ13
set_option linter.unusedVariables false
set_option linter.unusedSimpArgs false
namespace Go.Proofs.Ytmkbnmjhkghdjaa
open Go.RowKit

theorem scan_bad : ∀ (l : Recs) (b : List Int) (recs : Recs) (at_ : Nat) (R : List Int) {z : Int × List Int} {sz e : Int}, (∀ r ∈ l, RecOk r) → b.drop at_ = encAll recs.length l ++ R → recs.length + l.length < 1048576 → oneS R (recs.length + l.length) = (z, (sz, e)) → e ≠ 0 → R ≠ [] →
    loopO (scanB b) (recs, (at_ : Int)) = some (recs ++ l, (((at_ + sumL l : Nat) : Int), e))
  | [], b, recs, at_, R, z, sz, e, _, hb, _, ho, he, hR => by
    have hlt : at_ < b.length := by
      have := congrArg List.length hb
      rw [List.length_drop] at this
      have hp : 0 < R.length := List.length_pos_iff.2 hR
      simp [encAll] at this
      omega
    rw [loopO_eq, scanB_err hlt (by rw [hb]; exact ho) he]
    simp [sumL]
  | (k, d) :: l, b, recs, at_, R, z, sz, e, hok, hb, hn, ho, he, hR => by
    have hr := hok (k, d) List.mem_cons_self
    rw [List.length_cons] at hn ho
    have hE : encAll recs.length ((k, d) :: l) = encB recs.length k d ++ encAll (recs.length + 1) l := rfl
    have hlt : at_ < b.length := by
      have := congrArg List.length hb
      rw [List.length_drop, hE, List.length_append, List.length_append, encB_length] at this
      omega
    rw [hE, List.append_assoc] at hb
    rw [loopO_eq, scanB_next hlt (by rw [hb]; exact oneS_enc (by omega) hr)]
    simp only
    have ih := scan_bad l b (recs ++ [(k, d)]) (at_ + (14 + d.length)) R (z := z) (sz := sz) (fun r h => hok r (List.mem_cons_of_mem _ h)) (by
      rw [← List.drop_drop, hb, List.drop_append_of_le_length (by rw [encB_length]; omega), List.drop_of_length_le (by rw [encB_length]; omega), List.nil_append, List.length_append]; rfl) (by rw [List.length_append]; show recs.length + 1 + l.length < _; omega) (by rw [List.length_append]; show oneS R (recs.length + 1 + l.length) = _; rw [← ho]; congr 1; omega) he hR
    rw [show ((at_ : Int) + ((14 + d.length : Nat) : Int)) = ((at_ + (14 + d.length) : Nat) : Int) from by omega, ih, List.append_assoc, sumL]
    simp only [List.singleton_append]
    rw [show at_ + (14 + d.length) + sumL l = at_ + (14 + d.length + sumL l) from by omega]
theorem be4_inj {a b : Int} (ha : 0 ≤ a ∧ a < 4294967296) (hb : 0 ≤ b ∧ b < 4294967296) (h : be 4 a = be 4 b) : a = b := by
  simp only [be, List.nil_append, List.cons_append, List.cons.injEq, and_true] at h
  omega
/-- A record whose head is in order, and whose check is not. -/
theorem oneS_badsum {n : Nat} {k : Int} {s : Nat} {D rest : List Int} (hn : n < 1048576) (hs : s ≤ 4096) (hl : D.length = 14 + s) (hh : ∀ i, i < 10 → D.getD i 0 = (headB n k s).getD i 0) (hc : be 4 (crc (D.take (10 + s))) ≠ D.drop (10 + s)) : oneS (D ++ rest) n = ((0, []), (0, 11)) := by
  have hg : ∀ i, i < 10 → i < (D ++ rest).length → (D ++ rest).getD i 0 = (headB n k s).getD i 0 := fun i hi _ => by rw [getD_app_lt (by omega), hh i hi]
  have hw := not_wrong hs hg
  have hz := sz_head hs (by rw [List.length_append]; omega) hg
  have hnw : ¬ (n ≥ 1048576 ∨ Wrong (D ++ rest) n) := by rintro (h | h); omega; exact hw h
  refine oneS_check hnw (by rw [hz, List.length_append]; omega) ?_
  have ht : (D.drop (10 + s)).take 4 = D.drop (10 + s) := List.take_of_length_le (by rw [List.length_drop]; omega)
  rw [hz, List.take_append_of_le_length (by omega), List.drop_append_of_le_length (by omega), List.take_append_of_le_length (by rw [List.length_drop]; omega), ht]
  exact hc
theorem xor_toNat {x : Int} (h : 0 ≤ x) {m : Nat} (hm : m = 0) : (((x.toNat ^^^ m : Nat)) : Int) = x := by rw [hm, Nat.xor_zero]; omega
theorem xor_ne {x : Int} (h : 0 ≤ x) {m : Nat} (hm : m ≠ 0) : (((x.toNat ^^^ m : Nat)) : Int) ≠ x := fun e => by
  have h1 : x.toNat ^^^ m = x.toNat := by omega
  have h2 : x.toNat ^^^ (x.toNat ^^^ m) = x.toNat ^^^ x.toNat := by rw [h1]
  rw [← Nat.xor_assoc, Nat.xor_self, Nat.zero_xor] at h2
  exact hm h2
/-- Which record a byte is in; what is scanned if only this one is damaged. -/
theorem damage {l : Recs} (hf : Few l) {q : Nat} (hq : q < l.length) {b : List Int} (M : Nat → Nat) (hlen : b.length = sumL l) (hM : ∀ i, i < sumL l → b.getD i 0 = (((((encAll 0 l).getD i 0).toNat ^^^ M i : Nat)) : Int)) (hout : ∀ i, (i < sumL (l.take q) ∨ sumL (l.take (q + 1)) ≤ i) → M i = 0) {e : Int} (he : e ≠ 0)
    (hD : ∀ D rest : List Int, D.length = 14 + l[q].2.length → (∀ i, i < D.length → D.getD i 0 = (((((encB q l[q].1 l[q].2).getD i 0).toNat ^^^ M (sumL (l.take q) + i) : Nat)) : Int)) → ∃ z sz, oneS (D ++ rest) q = (z, (sz, e))) : loopO (scanB b) ([], 0) = some (l.take q, ((sumL (l.take q) : Int), e)) := by
  have hbytes := encAll_bytes l 0 fun r hr => (hf.2 r hr).ok
  have hss := sumL_take_succ l hq
  have hle := sumL_mono l (show q + 1 ≤ l.length by omega)
  rw [List.take_length] at hle
  have hE : encAll 0 l = encAll 0 (l.take q) ++ (encB q l[q].1 l[q].2 ++ encAll (q + 1) (l.drop (q + 1))) := by
    conv => lhs; rw [← List.take_append_drop q l, List.drop_eq_getElem_cons hq]
    rw [encAll_append, List.length_take, Nat.min_eq_left (by omega), Nat.zero_add]; rfl
  have hEl := encAll_length (l.take q) 0
  have hpre : b.take (sumL (l.take q)) = encAll 0 (l.take q) := by
    refine getD_ext (by rw [List.length_take, hEl]; omega) fun i hi => ?_
    rw [List.length_take] at hi
    rw [getD_take (by omega), hM i (by omega), xor_toNat (hbytes.getD i).1 (hout i (.inl (by omega))), hE, getD_app_lt (by omega)]
  have hsplit : b = encAll 0 (l.take q) ++ b.drop (sumL (l.take q)) := by rw [← hpre, List.take_append_drop]
  have hR : b.drop (sumL (l.take q)) = (b.drop (sumL (l.take q))).take (14 + l[q].2.length) ++ (b.drop (sumL (l.take q))).drop (14 + l[q].2.length) := (List.take_append_drop _ _).symm
  have hDl : ((b.drop (sumL (l.take q))).take (14 + l[q].2.length)).length = 14 + l[q].2.length := by rw [List.length_take, List.length_drop]; omega
  obtain ⟨z, sz, ho⟩ := hD ((b.drop (sumL (l.take q))).take (14 + l[q].2.length)) ((b.drop (sumL (l.take q))).drop (14 + l[q].2.length)) hDl fun i hi => by
    rw [hDl] at hi
    rw [getD_take hi, List.getD_eq_getElem?_getD, List.getElem?_drop, ← List.getD_eq_getElem?_getD, hM _ (by omega)]
    congr 3
    rw [hE, List.getD_eq_getElem?_getD, List.getElem?_append_right (by omega), hEl, Nat.add_sub_cancel_left, ← List.getD_eq_getElem?_getD, getD_app_lt (by rw [encB_length]; exact hi)]
  rw [← hR] at ho
  have hql : (l.take q).length = q := by rw [List.length_take]; omega
  have := scan_bad (l.take q) b [] 0 (b.drop (sumL (l.take q))) (z := z) (sz := sz) (fun r hr => (hf.2 r (List.mem_of_mem_take hr)).ok) (by rw [List.drop_zero]; exact hsplit) (by rw [hql]; have := hf.1; simp; omega) (by rw [hql, List.length_nil, Nat.zero_add]; exact ho) he (by
    intro h
    have := congrArg List.length h
    rw [List.length_drop, List.length_nil] at this
    omega)
  simp only [List.nil_append, Nat.zero_add] at this
  exact this
end Go.Proofs.Ytmkbnmjhkghdjaa
