/- Chapter 18, plain: what is delivered. -/
import Derived.Test.YtonejiaiieiboaaJ7
set_option linter.unusedVariables false
set_option linter.unusedSimpArgs false
namespace Go.Proofs.Ytonejiaiieiboaa
open Go.RowKit

theorem acc1 {last : Int} (h : 0 ≤ last ∧ last ≤ 1000) : provisional_Accept (last, last + 1) = some (last + 1, true) := by
  unfold provisional_Accept
  by_cases h0 : last ≤ 0
  · simp (disch := omega) only [↓bindO_some, ↓bindO_none, ↓joinO_inl, ↓joinO_inr, ↓joinO_none, ↓outO_some, ↓outO_none, ↓cond_true, ↓cond_false, ↓cond_and, ↓cond_or, ↓cond_not, ↓cond_ite, ↓if_pos, ↓if_neg, ↓if_true, ↓if_false, List.take_length, Nat.le_refl, Bool.not_true, Bool.not_false]
  · simp (disch := omega) only [↓bindO_some, ↓bindO_none, ↓joinO_inl, ↓joinO_inr, ↓joinO_none, ↓outO_some, ↓outO_none, ↓cond_true, ↓cond_false, ↓cond_and, ↓cond_or, ↓cond_not, ↓cond_ite, ↓if_pos, ↓if_neg, ↓if_true, ↓if_false, List.take_length, Nat.le_refl, Bool.not_true, Bool.not_false, wrap_i64']
theorem acc0 {n : Int} (h : 1 ≤ n ∧ n ≤ 1000) : provisional_Accept (n, n) = some (n, false) := by
  unfold provisional_Accept
  simp (disch := omega) only [↓bindO_some, ↓bindO_none, ↓joinO_inl, ↓joinO_inr, ↓joinO_none, ↓outO_some, ↓outO_none, ↓cond_true, ↓cond_false, ↓cond_and, ↓cond_or, ↓cond_not, ↓cond_ite, ↓if_pos, ↓if_neg, ↓if_true, ↓if_false, List.take_length, Nat.le_refl, Bool.not_true, Bool.not_false, wrap_i64']
theorem dB0_eq {γ : Type} (l : List Out18) : (dB0 l : (Int × Lk) → Option ((Int × Lk) ⊕ (Lk ⊕ γ))) = dB l false := rfl
section
variable {γ : Type} {l : List Out18} {lost : Bool} {k : Nat} {r1 r2 r3 : Int} {r4 : List Int} {r5 r6 : Bool} {last : Int} {A : List Int} {f : Int} {e g : Bool}
theorem dB_end (h : l.length ≤ k) : loopO (dB l lost : (Int × Lk) → Option ((Int × Lk) ⊕ (Lk ⊕ γ))) ((k : Int), (r1, (r2, (r3, (r4, (r5, (r6, (last, (A, (f, (e, g))))))))))) = some (.inl (r1, (r2, (r3, (r4, (r5, (r6, (last, (A, (f, (e, g))))))))))) := loopO_stop (by unfold dB; simp (disch := omega) only [↓bindO_some, ↓bindO_none, ↓joinO_inl, ↓joinO_inr, ↓joinO_none, ↓outO_some, ↓outO_none, ↓cond_true, ↓cond_false, ↓cond_and, ↓cond_or, ↓cond_not, ↓cond_ite, ↓if_pos, ↓if_neg, ↓if_true, ↓if_false, List.take_length, Nat.le_refl, Bool.not_true, Bool.not_false])
theorem dB_skip {x : Out18} (h : l[k]? = some x) (hl : k < 1000000) (h1 : x.1 = 3) : loopO (dB l lost : (Int × Lk) → Option ((Int × Lk) ⊕ (Lk ⊕ γ))) ((k : Int), (r1, (r2, (r3, (r4, (r5, (r6, (last, (A, (f, (e, g))))))))))) = loopO (dB l lost) (((k + 1 : Nat) : Int), (r1, (r2, (r3, (r4, (r5, (r6, (last, (A, (f, (e, g))))))))))) := loopO_next (by
  have hk := (List.getElem?_eq_some_iff.1 h).1
  unfold dB
  simp (disch := omega) only [↓bindO_some, ↓bindO_none, ↓joinO_inl, ↓joinO_inr, ↓joinO_none, ↓outO_some, ↓outO_none, ↓cond_true, ↓cond_false, ↓cond_and, ↓cond_or, ↓cond_not, ↓cond_ite, ↓if_pos, ↓if_neg, ↓if_true, ↓if_false, List.take_length, Nat.le_refl, Bool.not_true, Bool.not_false, Int.toNat_natCast, h, wrap_i64']
  rfl)
theorem dB_fin {x : Out18} (h : l[k]? = some x) (hl : k < 1000000) (h1 : x.1 = 2) : loopO (dB l lost : (Int × Lk) → Option ((Int × Lk) ⊕ (Lk ⊕ γ))) ((k : Int), (r1, (r2, (r3, (r4, (r5, (r6, (last, (A, (f, (e, g))))))))))) = loopO (dB l lost) (((k + 1 : Nat) : Int), (r1, (r2, (r3, (r4, (r5, (r6, (last, (A, (x.2.1, (e, g))))))))))) := loopO_next (by
  have hk := (List.getElem?_eq_some_iff.1 h).1
  unfold dB
  simp (disch := omega) only [↓bindO_some, ↓bindO_none, ↓joinO_inl, ↓joinO_inr, ↓joinO_none, ↓outO_some, ↓outO_none, ↓cond_true, ↓cond_false, ↓cond_and, ↓cond_or, ↓cond_not, ↓cond_ite, ↓if_pos, ↓if_neg, ↓if_true, ↓if_false, List.take_length, Nat.le_refl, Bool.not_true, Bool.not_false, Int.toNat_natCast, h, wrap_i64']
  rfl)
theorem dB_lost {x : Out18} (h : l[k]? = some x) (hl : k < 1000000) (h1 : x.1 = 1) : loopO (dB l true : (Int × Lk) → Option ((Int × Lk) ⊕ (Lk ⊕ γ))) ((k : Int), (r1, (r2, (r3, (r4, (r5, (r6, (last, (A, (f, (e, g))))))))))) = loopO (dB l true) (((k + 1 : Nat) : Int), (r1, (r2, (r3, (r4, (r5, (r6, (last, (A, (f, (e, g))))))))))) := loopO_next (by
  have hk := (List.getElem?_eq_some_iff.1 h).1
  unfold dB
  simp (disch := omega) only [↓bindO_some, ↓bindO_none, ↓joinO_inl, ↓joinO_inr, ↓joinO_none, ↓outO_some, ↓outO_none, ↓cond_true, ↓cond_false, ↓cond_and, ↓cond_or, ↓cond_not, ↓cond_ite, ↓if_pos, ↓if_neg, ↓if_true, ↓if_false, List.take_length, Nat.le_refl, Bool.not_true, Bool.not_false, Int.toNat_natCast, h, wrap_i64']
  rfl)
theorem dB_new {x : Out18} (h : l[k]? = some x) (hl : k < 1000000) (h1 : x.1 = 1) (h2 : x.2.2.1 = last + 1) (h3 : 0 ≤ last ∧ last ≤ 1000) (hA : A.length ≤ 1000) : loopO (dB l false : (Int × Lk) → Option ((Int × Lk) ⊕ (Lk ⊕ γ))) ((k : Int), (r1, (r2, (r3, (r4, (r5, (r6, (last, (A, (f, (e, g))))))))))) = loopO (dB l false) (((k + 1 : Nat) : Int), (r1, (r2, (r3, (r4, (r5, (r6, (last + 1, (A ++ [x.2.1], (f, (e, g))))))))))) := loopO_next (by
  have hk := (List.getElem?_eq_some_iff.1 h).1
  unfold dB
  simp (disch := (first | omega | (simp only [List.length_append, List.length_cons, List.length_nil, List.nil_append, List.length_take, List.length_drop]; omega))) only [↓bindO_some, ↓bindO_none, ↓joinO_inl, ↓joinO_inr, ↓joinO_none, ↓outO_some, ↓outO_none, ↓cond_true, ↓cond_false, ↓cond_and, ↓cond_or, ↓cond_not, ↓cond_ite, ↓if_pos, ↓if_neg, ↓if_true, ↓if_false, List.take_length, Nat.le_refl, Bool.not_true, Bool.not_false, Int.toNat_natCast, h, wrap_i64', h2, acc1 h3]
  rfl)
theorem dB_old {x : Out18} (h : l[k]? = some x) (hl : k < 1000000) (h1 : x.1 = 1) (h2 : x.2.2.1 = last) (h3 : 1 ≤ last ∧ last ≤ 1000) : loopO (dB l false : (Int × Lk) → Option ((Int × Lk) ⊕ (Lk ⊕ γ))) ((k : Int), (r1, (r2, (r3, (r4, (r5, (r6, (last, (A, (f, (e, g))))))))))) = loopO (dB l false) (((k + 1 : Nat) : Int), (r1, (r2, (r3, (r4, (r5, (r6, (last, (A, (f, (e, g))))))))))) := loopO_next (by
  have hk := (List.getElem?_eq_some_iff.1 h).1
  unfold dB
  simp (disch := (first | omega | (simp only [List.length_append, List.length_cons, List.length_nil, List.nil_append, List.length_take, List.length_drop]; omega))) only [↓bindO_some, ↓bindO_none, ↓joinO_inl, ↓joinO_inr, ↓joinO_none, ↓outO_some, ↓outO_none, ↓cond_true, ↓cond_false, ↓cond_and, ↓cond_or, ↓cond_not, ↓cond_ite, ↓if_pos, ↓if_neg, ↓if_true, ↓if_false, List.take_length, Nat.le_refl, Bool.not_true, Bool.not_false, Int.toNat_natCast, h, wrap_i64', h2, acc0 h3]
  rfl)
theorem dB_tail (hl : l.length ≤ 1000) : ∀ (n k : Nat), l.length - k ≤ n → (∀ i x, k ≤ i → l[i]? = some x → x.1 = 3) → loopO (dB l lost : (Int × Lk) → Option ((Int × Lk) ⊕ (Lk ⊕ γ))) ((k : Int), (r1, (r2, (r3, (r4, (r5, (r6, (last, (A, (f, (e, g))))))))))) = some (.inl (r1, (r2, (r3, (r4, (r5, (r6, (last, (A, (f, (e, g))))))))))) := by
  intro n
  induction n with
  | zero => intro k hk _; exact dB_end (by omega)
  | succ n ih =>
    intro k hk h
    by_cases hkl : k < l.length
    · have hx : l[k]? = some l[k] := List.getElem?_eq_getElem hkl
      rw [dB_skip hx (by omega) (h k _ (Nat.le_refl _) hx)]
      exact ih (k + 1) (by omega) (fun i x hi hx => h i x (by omega) hx)
    · exact dB_end (by omega)
end
/-- What a send does: lost, it does nothing; the next number is taken; the last one is not. -/
def dSend (lost : Bool) (c n last : Int) (A : List Int) : Int × List Int := if lost = false ∧ n = last + 1 then (last + 1, A ++ [c]) else (last, A)
section
variable {γ : Type} {lost : Bool} {r1 r2 r3 : Int} {r4 : List Int} {r5 r6 : Bool} {last : Int} {A : List Int} {f : Int} {e g : Bool}
theorem d_send {c n : Int} {tl : List Out18} (ht : ∀ x ∈ tl, x.1 = 3) (hl : tl.length ≤ 100) (hn : n = last + 1 ∨ (n = last ∧ 1 ≤ last)) (h3 : 0 ≤ last ∧ last ≤ 1000) (hA : A.length ≤ 1000) :
    loopO (dB ((1, (c, (n, (0, 0)))) :: tl) lost : (Int × Lk) → Option ((Int × Lk) ⊕ (Lk ⊕ γ))) (0, (r1, (r2, (r3, (r4, (r5, (r6, (last, (A, (f, (e, g))))))))))) = some (.inl (r1, (r2, (r3, (r4, (r5, (r6, ((dSend lost c n last A).1, ((dSend lost c n last A).2, (f, (e, g))))))))))) := by
  have tail : ∀ {last A}, loopO (dB ((1, (c, (n, (0, 0)))) :: tl) lost : (Int × Lk) → Option ((Int × Lk) ⊕ (Lk ⊕ γ))) (((0 + 1 : Nat) : Int), (r1, (r2, (r3, (r4, (r5, (r6, (last, (A, (f, (e, g))))))))))) = some (.inl (r1, (r2, (r3, (r4, (r5, (r6, (last, (A, (f, (e, g))))))))))) := fun {last A} =>
    dB_tail (by simp; omega) 1000 1 (by simp; omega) (fun i x hi hx => by
      cases i with
      | zero => omega
      | succ i => rw [List.getElem?_cons_succ] at hx; exact ht x (List.mem_of_getElem? hx))
  show loopO (dB ((1, (c, (n, (0, 0)))) :: tl) lost : (Int × Lk) → Option ((Int × Lk) ⊕ (Lk ⊕ γ))) (((0 : Nat) : Int), _) = _
  unfold dSend
  cases lost with
  | true =>
    rw [dB_lost (x := (1, (c, (n, (0, 0))))) rfl (by omega) rfl, tail, if_neg (by simp)]
  | false =>
    rcases hn with rfl | ⟨rfl, hn⟩
    · rw [dB_new (x := (1, (c, (last + 1, (0, 0))))) rfl (by omega) rfl rfl h3 hA, tail, if_pos ⟨rfl, rfl⟩]
    · rw [dB_old (x := (1, (c, (n, (0, 0))))) rfl (by omega) rfl rfl ⟨hn, h3.2⟩, tail, if_neg (by omega)]
theorem d_fin {c : Int} : loopO (dB (outFin c) lost : (Int × Lk) → Option ((Int × Lk) ⊕ (Lk ⊕ γ))) (0, (r1, (r2, (r3, (r4, (r5, (r6, (last, (A, (f, (e, g))))))))))) = some (.inl (r1, (r2, (r3, (r4, (r5, (r6, (last, (A, (c, (e, g))))))))))) := by
  show loopO (dB (outFin c) lost : (Int × Lk) → Option ((Int × Lk) ⊕ (Lk ⊕ γ))) (((0 : Nat) : Int), _) = _
  rw [dB_fin (x := (2, (c, (0, (0, 0))))) rfl (by omega) rfl, dB_end (by simp [outFin])]
theorem d_nil : loopO (dB [] lost : (Int × Lk) → Option ((Int × Lk) ⊕ (Lk ⊕ γ))) (0, (r1, (r2, (r3, (r4, (r5, (r6, (last, (A, (f, (e, g))))))))))) = some (.inl (r1, (r2, (r3, (r4, (r5, (r6, (last, (A, (f, (e, g))))))))))) := dB_end (k := 0) (by simp)
end
end Go.Proofs.Ytonejiaiieiboaa
