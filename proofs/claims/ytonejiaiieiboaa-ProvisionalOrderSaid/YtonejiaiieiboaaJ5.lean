/- Chapter 18, plain: what the steps keep. -/
import Derived.Test.YtonejiaiieiboaaJ4
set_option linter.unusedVariables false
set_option linter.unusedSimpArgs false
set_option linter.unusedSectionVars false
namespace Go.Proofs.Ytonejiaiieiboaa
open Go.RowKit

theorem qu_nil (f : Bool) : QuOk [] f := ⟨fun i hi => by simp at hi, fun _ i hi => by simp at hi⟩
theorem getD_app_lt {l r : List Int} {i : Nat} (h : i < l.length) : (l ++ r).getD i 0 = l.getD i 0 := by
  rw [List.getD_eq_getElem?_getD, List.getD_eq_getElem?_getD, List.getElem?_append_left h]
theorem getD_app_last {l : List Int} {c : Int} : (l ++ [c]).getD l.length 0 = c := by
  rw [List.getD_eq_getElem?_getD, List.getElem?_append_right (Nat.le_refl _), Nat.sub_self]; rfl
theorem qu_app_p {l : List Int} {c : Int} (h : QuOk l false) (hc : Pc c) : QuOk (l ++ [c]) false := by
  refine ⟨fun i hi => ?_, fun h => by cases h⟩
  simp only [Bool.toNat_false, Nat.sub_zero, List.length_append, List.length_cons, List.length_nil] at hi
  by_cases hl : i < l.length
  · rw [getD_app_lt hl]; exact h.1 i (by simpa using hl)
  · rw [show i = l.length from by omega, getD_app_last]; exact hc
theorem qu_app_a {l : List Int} {c : Int} (h : QuOk l false) (hc : Ac c) : QuOk (l ++ [c]) true := by
  refine ⟨fun i hi => ?_, fun _ i hi => ?_⟩
  · simp only [Bool.toNat_true, List.length_append, List.length_cons, List.length_nil] at hi
    rw [getD_app_lt (by omega)]; exact h.1 i (by simp; omega)
  · simp only [List.length_append, List.length_cons, List.length_nil] at hi
    rw [show i = l.length from by omega, getD_app_last]; exact hc
theorem qu_tail {x : Int} {l : List Int} {f : Bool} (h : QuOk (x :: l) f) : QuOk l f := by
  refine ⟨fun i hi => ?_, fun hf i hi => ?_⟩
  · have := h.1 (i + 1) (by simp only [List.length_cons]; omega)
    rwa [List.getD_cons_succ] at this
  · have := h.2 hf (i + 1) (by simp only [List.length_cons]; omega)
    rwa [List.getD_cons_succ] at this
/-- The head of a queue: provisional, or the last one and accepting. -/
theorem qu_head {x : Int} {l : List Int} {f : Bool} (h : QuOk (x :: l) f) : (Pc x ∧ (f = true → l ≠ [])) ∨ (Ac x ∧ f = true ∧ l = []) := by
  cases f with
  | false => exact .inl ⟨h.1 0 (by simp), fun h => by cases h⟩
  | true =>
    cases l with
    | nil => exact .inr ⟨h.2 rfl 0 rfl, rfl, rfl⟩
    | cons y l => exact .inl ⟨h.1 0 (by simp), fun _ => by simp⟩
section
variable {a1 a2 a3 : Int} {a4 : List Int} {a5 a6 : Bool} (h : MayP a1 a2 a3 a4 a5 a6)
include h
theorem may_q0 (h0 : a2 = 0) : a3 = 0 ∧ a4 = [] := by
  rcases h.code with ⟨_, k⟩ | ⟨k, _⟩
  · exact k
  · omega
theorem may_q1 (h0 : ¬ a2 = 0) : Pc a2 ∧ 1 ≤ a1 ∧ Wt a3 := by
  rcases h.code with ⟨e, _⟩ | k
  · exact (h0 e).elim
  · exact k
theorem may_f (h0 : ¬ a2 = 0) : a6 = false := by
  cases a6 with
  | false => rfl
  | true => exact (h0 (h.fail rfl).1).elim
theorem may_f' (h0 : a5 = false) : a6 = false := by
  cases a6 with
  | false => rfl
  | true => have := (h.fail rfl).2; rw [h0] at this; cases this
/-! ### Offer -/
theorem offer_state (c : Int) (hc : 101 ≤ c ∧ c ≤ 699) (h5 : a5 = true) : OfferR (a1, (a2, (a3, (a4, (a5, a6))))) c = err18 9 := by
  subst h5
  unfold OfferR
  simp only
  rw [if_neg (by omega)]; simp
theorem offer_p0 (c : Int) (hc : Pc c) (h5 : a5 = false) (h0 : a2 = 0) (hn : a1 < 2147483647) : OfferR (a1, (a2, (a3, (a4, (a5, a6))))) c = ((a1 + 1, (c, (500, ([], (false, a6))))), (outSend c (a1 + 1), 0)) ∧ MayP (a1 + 1) c 500 [] false a6 := by
  obtain ⟨rfl, rfl⟩ := may_q0 h h0
  have h6 := may_f' h h5
  subst h5 h0 h6
  have hs0 := h.s0
  refine ⟨?_, ⟨by omega, by omega, by simp, .inr ⟨hc, by omega, .inl rfl⟩, qu_nil _, by simp; omega, by simp⟩⟩
  unfold OfferR nextR
  simp only [List.length_nil]
  rw [if_neg (by omega), if_neg (by simp), if_neg (by omega), if_neg (by simp; omega)]
  simp [show ¬ 200 ≤ c by omega]
theorem offer_p1 (c : Int) (hc : Pc c) (h5 : a5 = false) (h0 : ¬ a2 = 0) (hl : a4.length < 16) (hn : a1 + (a4.length : Int) < 2147483647) : OfferR (a1, (a2, (a3, (a4, (a5, a6))))) c = ((a1, (a2, (a3, (a4 ++ [c], (false, a6))))), ([], 0)) ∧ MayP a1 a2 a3 (a4 ++ [c]) false a6 := by
  have h6 := may_f h h0
  subst h5 h6
  refine ⟨?_, ⟨h.s0, h.s1, by simp; omega, .inr (may_q1 h h0), qu_app_p h.qu hc, by simp; omega, by simp⟩⟩
  unfold OfferR nextR
  simp only
  rw [if_neg (by omega), if_neg (by simp), if_neg (by omega), if_neg (by omega)]
  simp [h0, show ¬ 200 ≤ c by omega]
theorem offer_a0 (c : Int) (hc : Ac c) (h5 : a5 = false) (h0 : a2 = 0) : OfferR (a1, (a2, (a3, (a4, (a5, a6))))) c = ((a1, (0, (0, ([], (true, a6))))), (outFin c, 0)) ∧ MayP a1 0 0 [] true a6 := by
  obtain ⟨rfl, rfl⟩ := may_q0 h h0
  have h6 := may_f' h h5
  subst h5 h0 h6
  refine ⟨?_, ⟨h.s0, h.s1, by simp, .inl ⟨rfl, rfl, rfl⟩, qu_nil _, by have := h.s1; simpa using this, by simp⟩⟩
  unfold OfferR nextR
  simp only [List.length_nil]
  rw [if_neg (by omega), if_neg (by simp), if_neg (by omega), if_neg (by simp; omega)]
  simp [show 200 ≤ c by omega]
theorem offer_a1 (c : Int) (hc : Ac c) (h5 : a5 = false) (h0 : ¬ a2 = 0) (hl : a4.length < 16) : OfferR (a1, (a2, (a3, (a4, (a5, a6))))) c = ((a1, (a2, (a3, (a4 ++ [c], (true, a6))))), ([], 0)) ∧ MayP a1 a2 a3 (a4 ++ [c]) true a6 := by
  have h6 := may_f h h0
  subst h5 h6
  have hn := h.num
  simp only [Bool.toNat_false, Nat.sub_zero] at hn
  refine ⟨?_, ⟨h.s0, h.s1, by simp; omega, .inr (may_q1 h h0), qu_app_a h.qu hc, by simp; omega, by simp⟩⟩
  unfold OfferR nextR
  simp only
  rw [if_neg (by omega), if_neg (by simp), if_neg (by omega), if_neg (by omega)]
  simp [h0, show 200 ≤ c by omega]
theorem offer_r (c : Int) (hc : 300 ≤ c ∧ c ≤ 699) (h5 : a5 = false) : OfferR (a1, (a2, (a3, (a4, (a5, a6))))) c = ((a1, (0, (0, ([], (true, false))))), (outFin c, 0)) ∧ MayP a1 0 0 [] true false := by
  subst h5
  refine ⟨?_, ⟨h.s0, h.s1, by simp, .inl ⟨rfl, rfl, rfl⟩, qu_nil _, by have := h.s1; simpa using this, by simp⟩⟩
  unfold OfferR
  simp only
  rw [if_neg (by omega), if_neg (by simp), if_pos (by omega)]
theorem offer_full (c : Int) (hc : 101 ≤ c ∧ c ≤ 299) (h5 : a5 = false) (hl : 16 ≤ a4.length ∨ (c < 200 ∧ 2147483647 ≤ a1 + (a4.length : Int))) : OfferR (a1, (a2, (a3, (a4, (a5, a6))))) c = err18 10 := by
  subst h5
  unfold OfferR
  simp only
  rw [if_neg (by omega), if_neg (by simp), if_neg (by omega), if_pos hl]
/-! ### Ack -/
theorem ack_none (n : Int) (hn : a2 = 0 ∨ n ≠ a1) : AckR (a1, (a2, (a3, (a4, (a5, a6))))) n = err18 8 := by
  unfold AckR; simp only; rw [if_pos hn]
theorem ack_nil (h0 : ¬ a2 = 0) (h4 : a4 = []) : AckR (a1, (a2, (a3, (a4, (a5, a6))))) a1 = ((a1, (0, (0, ([], (a5, a6))))), ([], 0)) ∧ MayP a1 0 0 [] a5 a6 := by
  have h6 := may_f h h0
  subst h4 h6
  refine ⟨?_, ⟨h.s0, h.s1, by simp, .inl ⟨rfl, rfl, rfl⟩, qu_nil _, by have := h.s1; simpa using this, by simp⟩⟩
  unfold AckR nextR
  simp only
  rw [if_neg (by simp [h0])]
  simp
theorem ack_p (h0 : ¬ a2 = 0) {x : Int} {l : List Int} (h4 : a4 = x :: l) (hx : Pc x) : AckR (a1, (a2, (a3, (a4, (a5, a6))))) a1 = ((a1 + 1, (x, (500, (l, (a5, a6))))), (outSend x (a1 + 1), 0)) ∧ MayP (a1 + 1) x 500 l a5 a6 := by
  have h6 := may_f h h0
  subst h4 h6
  have hs0 := h.s0
  have hn := h.num
  have hl := h.len
  simp only [List.length_cons] at hn hl
  have hf : a5 = true → l ≠ [] := by
    rcases qu_head h.qu with ⟨_, k⟩ | ⟨k, _⟩
    · exact k
    · omega
  have hlen : a5 = true → 0 < l.length := fun e => List.length_pos_iff.2 (hf e)
  refine ⟨?_, ⟨by omega, ?_, by omega, .inr ⟨hx, by omega, .inl rfl⟩, qu_tail h.qu, ?_, by simp⟩⟩
  · unfold AckR nextR
    simp only
    rw [if_neg (by simp [h0])]
    simp [show ¬ 200 ≤ x by omega]
  · cases a5
    · simp only [Bool.toNat_false] at hn; omega
    · simp only [Bool.toNat_true] at hn; have := hlen rfl; omega
  · cases a5
    · simp only [Bool.toNat_false] at hn ⊢; omega
    · simp only [Bool.toNat_true] at hn ⊢; have := hlen rfl; omega
theorem ack_a (h0 : ¬ a2 = 0) {x : Int} (h4 : a4 = [x]) (hx : Ac x) : AckR (a1, (a2, (a3, (a4, (a5, a6))))) a1 = ((a1, (0, (0, ([], (a5, a6))))), (outFin x, 0)) ∧ MayP a1 0 0 [] a5 a6 := by
  have h6 := may_f h h0
  subst h4 h6
  refine ⟨?_, ⟨h.s0, h.s1, by simp, .inl ⟨rfl, rfl, rfl⟩, qu_nil _, by have := h.s1; simpa using this, by simp⟩⟩
  unfold AckR nextR
  simp only
  rw [if_neg (by simp [h0])]
  simp [show 200 ≤ x by omega]
/-! ### Fire -/
theorem fire_0 (t : Int) (ht : t = 1 ∨ t = 2) (h0 : a2 = 0) : FireR (a1, (a2, (a3, (a4, (a5, a6))))) t = ((a1, (a2, (a3, (a4, (a5, a6))))), ([], 0)) := by
  unfold FireR; simp only; rw [if_neg (by omega), if_pos h0]
theorem wt_next {w : Int} (hw : Wt w) : Wt (minA (2 * w) 32000) := by
  unfold Wt minA at *
  split <;> omega
theorem fire_1 (h0 : ¬ a2 = 0) : FireR (a1, (a2, (a3, (a4, (a5, a6))))) 1 = ((a1, (a2, (minA (2 * a3) 32000, (a4, (a5, a6))))), ([(1, (a2, (a1, (0, 0)))), (3, (0, (0, (1, minA (2 * a3) 32000))))], 0)) ∧ MayP a1 a2 (minA (2 * a3) 32000) a4 a5 a6 := by
  obtain ⟨k1, k2, k3⟩ := may_q1 h h0
  refine ⟨?_, ⟨h.s0, h.s1, h.len, .inr ⟨k1, k2, wt_next h k3⟩, h.qu, h.num, h.fail⟩⟩
  unfold FireR; simp only; rw [if_neg (by omega), if_neg h0, if_neg (by omega)]
theorem fire_2 (h0 : ¬ a2 = 0) : FireR (a1, (a2, (a3, (a4, (a5, a6))))) 2 = ((a1, (0, (0, ([], (true, true))))), ([(4, (0, (0, (0, 0))))], 0)) ∧ MayP a1 0 0 [] true true := by
  refine ⟨?_, ⟨h.s0, h.s1, by simp, .inl ⟨rfl, rfl, rfl⟩, qu_nil _, by have := h.s1; simpa using this, by simp⟩⟩
  unfold FireR; simp only; rw [if_neg (by omega), if_neg h0, if_pos trivial]
end
theorem may_start : MayP 0 0 0 [] false false := ⟨by omega, by omega, by simp, .inl ⟨rfl, rfl, rfl⟩, qu_nil _, by simp, by simp⟩
end Go.Proofs.Ytonejiaiieiboaa
