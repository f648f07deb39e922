/- Chapter 18, plain: Offer, Ack, Fire. -/
import Derived.Test.YtonejiaiieiboaaJ2
set_option linter.unusedVariables false
set_option linter.unusedSimpArgs false
namespace Go.Proofs.Ytonejiaiieiboaa
open Go.RowKit

abbrev Out18 := Int × (Int × (Int × (Int × Int)))
abbrev Rel18 := Int × (Int × (Int × (List Int × (Bool × Bool))))
def outSend (c n : Int) : List Out18 := [(1, (c, (n, (0, 0)))), (3, (0, (0, (1, 500)))), (3, (0, (0, (2, 32000))))]
def outFin (c : Int) : List Out18 := [(2, (c, (0, (0, 0))))]
def err18 (e : Int) : Rel18 × (List Out18 × Int) := ((0, (0, (0, ([], (false, false))))), ([], e))
def nextR (a1 a2 a3 : Int) (a4 : List Int) (a5 a6 : Bool) : Rel18 × List Out18 :=
  if a2 ≠ 0 then ((a1, (a2, (a3, (a4, (a5, a6))))), []) else match a4 with
    | [] => ((a1, (a2, (a3, (a4, (a5, a6))))), [])
    | x :: l => if 200 ≤ x then ((a1, (a2, (a3, (l, (a5, a6))))), outFin x) else ((a1 + 1, (x, (500, (l, (a5, a6))))), outSend x (a1 + 1))
def OfferR : Rel18 → Int → Rel18 × (List Out18 × Int) := fun (a1, (a2, (a3, (a4, (a5, a6))))) c =>
  if c < 101 ∨ 699 < c then err18 2 else if a5 = true then err18 9 else if 300 ≤ c then ((a1, (0, (0, ([], (true, false))))), (outFin c, 0)) else
  if 16 ≤ a4.length ∨ (c < 200 ∧ 2147483647 ≤ a1 + (a4.length : Int)) then err18 10 else
  ((nextR a1 a2 a3 (a4 ++ [c]) (decide (200 ≤ c)) a6).1, ((nextR a1 a2 a3 (a4 ++ [c]) (decide (200 ≤ c)) a6).2, 0))
def AckR : Rel18 → Int → Rel18 × (List Out18 × Int) := fun (a1, (a2, (a3, (a4, (a5, a6))))) n =>
  if a2 = 0 ∨ n ≠ a1 then err18 8 else ((nextR a1 0 0 a4 a5 a6).1, ((nextR a1 0 0 a4 a5 a6).2, 0))
def FireR : Rel18 → Int → Rel18 × (List Out18 × Int) := fun (a1, (a2, (a3, (a4, (a5, a6))))) t =>
  if t ≠ 1 ∧ t ≠ 2 then err18 2 else if a2 = 0 then ((a1, (a2, (a3, (a4, (a5, a6))))), ([], 0)) else
  if t = 2 then ((a1, (0, (0, ([], (true, true))))), ([(4, (0, (0, (0, 0))))], 0)) else
  ((a1, (a2, (minA (2 * a3) 32000, (a4, (a5, a6))))), ([(1, (a2, (a1, (0, 0)))), (3, (0, (0, (1, minA (2 * a3) 32000))))], 0))
theorem mayT {a1 a2 a3 : Int} {a4 : List Int} {a5 a6 : Bool} (h : MayP a1 a2 a3 a4 a5 a6) : provisional_May (a1, (a2, (a3, (a4, (a5, a6))))) = some true ∧ dialtoneref18_May (a1, (a2, (a3, (a4, (a5, a6))))) = some true := by
  rcases may_j a1 a2 a3 a4 a5 a6 with ⟨_, k⟩ | ⟨n, _⟩
  · exact k
  · exact (n h).elim
theorem mayF {a1 a2 a3 : Int} {a4 : List Int} {a5 a6 : Bool} (h : ¬ MayP a1 a2 a3 a4 a5 a6) : provisional_May (a1, (a2, (a3, (a4, (a5, a6))))) = some false ∧ dialtoneref18_May (a1, (a2, (a3, (a4, (a5, a6))))) = some false := by
  rcases may_j a1 a2 a3 a4 a5 a6 with ⟨n, _⟩ | ⟨_, k⟩
  · exact (h n).elim
  · exact k
theorem clone_j {l : List Int} (h : l.length ≤ 1000000) : cloneG l = some l := by unfold cloneG; rw [decide_eq_true h]; rfl
theorem prov_b {β : Type} (x : Int) (f : Bool → Option β) : bindO (provisional_isProvisional x) f = f (decide (Pc x)) := by rw [prov_j]; rfl
theorem acc_b {β : Type} (x : Int) (f : Bool → Option β) : bindO (provisional_isAccepting x) f = f (decide (Ac x)) := by rw [acc_j]; rfl
theorem clone_b {β : Type} {l : List Int} (f : List Int → Option β) (h : l.length ≤ 1000000) : bindO (cloneG l) f = f l := by rw [clone_j h]; rfl
theorem timer_b {β : Type} (a b : Int) (f : Out18 → Option β) : bindO (provisional_timer (a, b)) f = f (3, (0, (0, (a, b)))) := rfl
theorem mayT_b {β : Type} {a1 a2 a3 : Int} {a4 : List Int} {a5 a6 : Bool} (h : MayP a1 a2 a3 a4 a5 a6) (f : Bool → Option β) : bindO (provisional_May (a1, (a2, (a3, (a4, (a5, a6)))))) f = f true := by rw [(mayT h).1]; rfl
theorem mayTR_b {β : Type} {a1 a2 a3 : Int} {a4 : List Int} {a5 a6 : Bool} (h : MayP a1 a2 a3 a4 a5 a6) (f : Bool → Option β) : bindO (dialtoneref18_May (a1, (a2, (a3, (a4, (a5, a6)))))) f = f true := by rw [(mayT h).2]; rfl
theorem next_j {a1 a2 a3 : Int} {a4 : List Int} {a5 a6 : Bool} (h0 : 0 ≤ a1 ∧ a1 ≤ 2147483647) (hl : a4.length ≤ 100) : dialtoneref18_next (a1, (a2, (a3, (a4, (a5, a6))))) = some (nextR a1 a2 a3 a4 a5 a6) := by
  unfold dialtoneref18_next nextR
  by_cases h : a2 = 0
  · subst h
    cases a4 with
    | nil => simp [cond_ite]
    | cons x l =>
      simp only [List.length_cons] at hl
      by_cases hx : 200 ≤ x
      · simp (disch := (first | omega | (simp only [List.length_cons]; omega))) only [bindO_some, bindO_none, joinO_inl, joinO_inr, joinO_none, outO_some, outO_none, cond_ite, List.take_length, Nat.le_refl, if_true, Nat.mul_one, Int.mul_one, cond_true, cond_false, if_pos, if_neg, wrap_i64', outFin, List.getElem?_cons_zero, List.drop_succ_cons, List.drop_zero, ne_eq, not_true_eq_false, if_false, decide_true, Bool.and_self]
      · simp (disch := (first | omega | (simp only [List.length_cons]; omega))) only [bindO_some, bindO_none, joinO_inl, joinO_inr, joinO_none, outO_some, outO_none, cond_ite, List.take_length, Nat.le_refl, if_true, Nat.mul_one, Int.mul_one, cond_true, cond_false, if_pos, if_neg, wrap_i64', outSend, List.getElem?_cons_zero, List.drop_succ_cons, List.drop_zero, ne_eq, not_true_eq_false, if_false, decide_true, Bool.and_self]
  · simp [h]
theorem offerRef_j {a1 a2 a3 : Int} {a4 : List Int} {a5 a6 : Bool} (h : MayP a1 a2 a3 a4 a5 a6) (c : Int) : dialtoneref18_Offer ((a1, (a2, (a3, (a4, (a5, a6))))), c) = some (OfferR (a1, (a2, (a3, (a4, (a5, a6))))) c) := by
  have hs0 := h.s0; have hs1 := h.s1; have hl := h.len
  unfold dialtoneref18_Offer OfferR
  simp only [(mayT h).2, bindO_some, bindO_none, joinO_inl, joinO_inr, joinO_none, outO_some, outO_none, cond_ite, List.take_length, Nat.le_refl, if_true, Nat.mul_one, Int.mul_one, cond_true, cond_false, Bool.not_true, from_j]
  by_cases c1 : 101 ≤ c ∧ c ≤ 699
  · rw [decide_eq_true c1]
    cases a5 with
    | true => simp (disch := omega) only [bindO_some, bindO_none, joinO_inl, joinO_inr, joinO_none, outO_some, outO_none, cond_ite, List.take_length, Nat.le_refl, if_true, Nat.mul_one, Int.mul_one, cond_true, cond_false, if_neg, Bool.not_true, err18]
    | false =>
      have hn := next_j (a1 := a1) (a2 := a2) (a3 := a3) (a4 := a4 ++ [c]) (a5 := decide (200 ≤ c)) (a6 := a6) ⟨hs0, hs1⟩ (by simp; omega)
      have hge : decide (c ≥ 200) = decide (200 ≤ c) := rfl
      have hlen : (a4 ++ [c]).length = a4.length + 1 := by simp
      by_cases c2 : 300 ≤ c
      · simp (disch := omega) only [bindO_some, bindO_none, joinO_inl, joinO_inr, joinO_none, outO_some, outO_none, cond_ite, List.take_length, Nat.le_refl, if_true, Nat.mul_one, Int.mul_one, cond_true, cond_false, if_pos, if_neg, Bool.not_true, Bool.false_eq_true, if_false, outFin]
      · by_cases c3 : 16 ≤ a4.length
        · simp (disch := omega) only [bindO_some, bindO_none, joinO_inl, joinO_inr, joinO_none, outO_some, outO_none, cond_ite, List.take_length, Nat.le_refl, if_true, Nat.mul_one, Int.mul_one, cond_true, cond_false, if_pos, if_neg, Bool.not_true, Bool.false_eq_true, if_false, err18]
        · by_cases c4 : c < 200
          · by_cases c5 : a1 + (a4.length : Int) ≥ 2147483647
            · simp (disch := omega) only [bindO_some, bindO_none, joinO_inl, joinO_inr, joinO_none, outO_some, outO_none, cond_ite, List.take_length, Nat.le_refl, if_true, Nat.mul_one, Int.mul_one, cond_true, cond_false, if_pos, if_neg, Bool.not_true, Bool.false_eq_true, if_false, err18, wrap_i64']
            · simp (disch := omega) only [bindO_some, bindO_none, joinO_inl, joinO_inr, joinO_none, outO_some, outO_none, cond_ite, List.take_length, Nat.le_refl, if_true, Nat.mul_one, Int.mul_one, cond_true, cond_false, if_pos, if_neg, Bool.not_true, Bool.false_eq_true, if_false, wrap_i64', hlen, hge, hn]
          · simp (disch := omega) only [bindO_some, bindO_none, joinO_inl, joinO_inr, joinO_none, outO_some, outO_none, cond_ite, List.take_length, Nat.le_refl, if_true, Nat.mul_one, Int.mul_one, cond_true, cond_false, if_pos, if_neg, Bool.not_true, Bool.false_eq_true, if_false, wrap_i64', hlen, hge, hn]
  · rw [decide_eq_false c1]
    simp (disch := omega) only [↓bindO_some, ↓bindO_none, ↓joinO_inl, ↓joinO_inr, ↓joinO_none, ↓outO_some, ↓outO_none, ↓cond_true, ↓cond_false, ↓cond_and, ↓cond_or, ↓cond_not, ↓cond_ite, ↓if_pos, ↓if_neg, ↓if_true, ↓if_false, List.take_length, Nat.le_refl, Bool.not_true, Bool.not_false, err18]
theorem offer_j {a1 a2 a3 : Int} {a4 : List Int} {a5 a6 : Bool} (h : MayP a1 a2 a3 a4 a5 a6) (c : Int) : provisional_Offer ((a1, (a2, (a3, (a4, (a5, a6))))), c) = some (OfferR (a1, (a2, (a3, (a4, (a5, a6))))) c) := by
  have hs0 := h.s0; have hs1 := h.s1; have hl := h.len
  unfold provisional_Offer OfferR
  by_cases c1 : c < 101
  · simp (disch := (first | omega | (simp only [List.length_append, List.length_cons, List.length_nil, List.nil_append, List.length_take, List.length_drop]; omega))) only [↓mayT_b h, ↓bindO_some, ↓bindO_none, ↓joinO_inl, ↓joinO_inr, ↓joinO_none, ↓outO_some, ↓outO_none, ↓cond_true, ↓cond_false, ↓cond_and, ↓cond_or, ↓cond_not, ↓cond_ite, ↓if_pos, ↓if_neg, ↓if_true, ↓if_false, List.take_length, Nat.le_refl, Bool.not_true, Bool.not_false, ↓prov_b, ↓acc_b, ↓clone_b, ↓timer_b, err18]
  by_cases c2 : c > 699
  · simp (disch := (first | omega | (simp only [List.length_append, List.length_cons, List.length_nil, List.nil_append, List.length_take, List.length_drop]; omega))) only [↓mayT_b h, ↓bindO_some, ↓bindO_none, ↓joinO_inl, ↓joinO_inr, ↓joinO_none, ↓outO_some, ↓outO_none, ↓cond_true, ↓cond_false, ↓cond_and, ↓cond_or, ↓cond_not, ↓cond_ite, ↓if_pos, ↓if_neg, ↓if_true, ↓if_false, List.take_length, Nat.le_refl, Bool.not_true, Bool.not_false, ↓prov_b, ↓acc_b, ↓clone_b, ↓timer_b, err18]
  cases a5 with
  | true => simp (disch := (first | omega | (simp only [List.length_append, List.length_cons, List.length_nil, List.nil_append, List.length_take, List.length_drop]; omega))) only [↓mayT_b h, ↓bindO_some, ↓bindO_none, ↓joinO_inl, ↓joinO_inr, ↓joinO_none, ↓outO_some, ↓outO_none, ↓cond_true, ↓cond_false, ↓cond_and, ↓cond_or, ↓cond_not, ↓cond_ite, ↓if_pos, ↓if_neg, ↓if_true, ↓if_false, List.take_length, Nat.le_refl, Bool.not_true, Bool.not_false, ↓prov_b, ↓acc_b, ↓clone_b, ↓timer_b, err18]
  | false =>
    have h6 : a6 = false := by
      cases a6 with
      | false => rfl
      | true => have := h.fail rfl; simp at this
    subst h6
    by_cases c3 : 300 ≤ c
    · simp (disch := (first | omega | (simp only [List.length_append, List.length_cons, List.length_nil, List.nil_append, List.length_take, List.length_drop]; omega))) only [↓mayT_b h, ↓bindO_some, ↓bindO_none, ↓joinO_inl, ↓joinO_inr, ↓joinO_none, ↓outO_some, ↓outO_none, ↓cond_true, ↓cond_false, ↓cond_and, ↓cond_or, ↓cond_not, ↓cond_ite, ↓if_pos, ↓if_neg, ↓if_true, ↓if_false, List.take_length, Nat.le_refl, Bool.not_true, Bool.not_false, ↓prov_b, ↓acc_b, ↓clone_b, ↓timer_b, Bool.false_eq_true, outFin]
    by_cases c4 : 16 ≤ a4.length
    · simp (disch := (first | omega | (simp only [List.length_append, List.length_cons, List.length_nil, List.nil_append, List.length_take, List.length_drop]; omega))) only [↓mayT_b h, ↓bindO_some, ↓bindO_none, ↓joinO_inl, ↓joinO_inr, ↓joinO_none, ↓outO_some, ↓outO_none, ↓cond_true, ↓cond_false, ↓cond_and, ↓cond_or, ↓cond_not, ↓cond_ite, ↓if_pos, ↓if_neg, ↓if_true, ↓if_false, List.take_length, Nat.le_refl, Bool.not_true, Bool.not_false, ↓prov_b, ↓acc_b, ↓clone_b, ↓timer_b, Bool.false_eq_true, err18]
    have hlen : (a4 ++ [c]).length = a4.length + 1 := by simp
    by_cases hp : Pc c
    · have hac : decide (Ac c) = decide (200 ≤ c) := by rw [decide_eq_false (by unfold Ac; omega), decide_eq_false (by omega)]
      by_cases c5 : a1 + (a4.length : Int) ≥ 2147483647
      · simp (disch := (first | omega | (simp only [List.length_append, List.length_cons, List.length_nil, List.nil_append, List.length_take, List.length_drop]; omega))) only [↓mayT_b h, ↓bindO_some, ↓bindO_none, ↓joinO_inl, ↓joinO_inr, ↓joinO_none, ↓outO_some, ↓outO_none, ↓cond_true, ↓cond_false, ↓cond_and, ↓cond_or, ↓cond_not, ↓cond_ite, ↓if_pos, ↓if_neg, ↓if_true, ↓if_false, List.take_length, Nat.le_refl, Bool.not_true, Bool.not_false, ↓prov_b, ↓acc_b, ↓clone_b, ↓timer_b, Bool.false_eq_true, decide_eq_true hp, wrap_i64', err18]
      · rcases h.code with ⟨rfl, rfl, rfl⟩ | ⟨k1, k2, k3⟩
        · simp (disch := (first | omega | (simp only [List.length_append, List.length_cons, List.length_nil, List.nil_append, List.length_take, List.length_drop]; omega))) only [↓mayT_b h, ↓bindO_some, ↓bindO_none, ↓joinO_inl, ↓joinO_inr, ↓joinO_none, ↓outO_some, ↓outO_none, ↓cond_true, ↓cond_false, ↓cond_and, ↓cond_or, ↓cond_not, ↓cond_ite, ↓if_pos, ↓if_neg, ↓if_true, ↓if_false, List.take_length, Nat.le_refl, Bool.not_true, Bool.not_false, ↓prov_b, ↓acc_b, ↓clone_b, ↓timer_b, Bool.false_eq_true, decide_eq_true hp, decide_eq_false (show ¬ Ac c by unfold Ac; omega), wrap_i64', List.nil_append, List.length_nil, List.length_cons, nextR, outSend, decide_eq_false (show ¬ 200 ≤ c by omega), List.getElem?_cons_zero, List.take_nil, List.drop_succ_cons, List.drop_zero, decide_true, Bool.and_self]
          simp [show ¬ 200 ≤ c by omega]
        · simp (disch := (first | omega | (simp only [List.length_append, List.length_cons, List.length_nil, List.nil_append, List.length_take, List.length_drop]; omega))) only [↓mayT_b h, ↓bindO_some, ↓bindO_none, ↓joinO_inl, ↓joinO_inr, ↓joinO_none, ↓outO_some, ↓outO_none, ↓cond_true, ↓cond_false, ↓cond_and, ↓cond_or, ↓cond_not, ↓cond_ite, ↓if_pos, ↓if_neg, ↓if_true, ↓if_false, List.take_length, Nat.le_refl, Bool.not_true, Bool.not_false, ↓prov_b, ↓acc_b, ↓clone_b, ↓timer_b, Bool.false_eq_true, decide_eq_true hp, wrap_i64', hac, nextR]
    · have hac : decide (Ac c) = decide (200 ≤ c) := by rw [decide_eq_true (show Ac c by unfold Ac; unfold Pc at hp; omega), decide_eq_true (by unfold Pc at hp; omega)]
      have hc2 : 200 ≤ c := by unfold Pc at hp; omega
      rcases h.code with ⟨rfl, rfl, rfl⟩ | ⟨k1, k2, k3⟩
      · simp (disch := (first | omega | (simp only [List.length_append, List.length_cons, List.length_nil, List.nil_append, List.length_take, List.length_drop]; omega))) only [↓mayT_b h, ↓bindO_some, ↓bindO_none, ↓joinO_inl, ↓joinO_inr, ↓joinO_none, ↓outO_some, ↓outO_none, ↓cond_true, ↓cond_false, ↓cond_and, ↓cond_or, ↓cond_not, ↓cond_ite, ↓if_pos, ↓if_neg, ↓if_true, ↓if_false, List.take_length, Nat.le_refl, Bool.not_true, Bool.not_false, ↓prov_b, ↓acc_b, ↓clone_b, ↓timer_b, Bool.false_eq_true, decide_eq_false hp, decide_eq_true (show Ac c by unfold Ac; omega), wrap_i64', List.nil_append, List.length_nil, List.length_cons, nextR, outFin, decide_eq_true hc2, List.getElem?_cons_zero, List.take_nil, List.drop_succ_cons, List.drop_zero, decide_true, Bool.and_self]
        rfl
      · simp (disch := (first | omega | (simp only [List.length_append, List.length_cons, List.length_nil, List.nil_append, List.length_take, List.length_drop]; omega))) only [↓mayT_b h, ↓bindO_some, ↓bindO_none, ↓joinO_inl, ↓joinO_inr, ↓joinO_none, ↓outO_some, ↓outO_none, ↓cond_true, ↓cond_false, ↓cond_and, ↓cond_or, ↓cond_not, ↓cond_ite, ↓if_pos, ↓if_neg, ↓if_true, ↓if_false, List.take_length, Nat.le_refl, Bool.not_true, Bool.not_false, ↓prov_b, ↓acc_b, ↓clone_b, ↓timer_b, Bool.false_eq_true, decide_eq_false hp, wrap_i64', hac, nextR]
theorem ackRef_j {a1 a2 a3 : Int} {a4 : List Int} {a5 a6 : Bool} (h : MayP a1 a2 a3 a4 a5 a6) (n : Int) : dialtoneref18_Ack ((a1, (a2, (a3, (a4, (a5, a6))))), n) = some (AckR (a1, (a2, (a3, (a4, (a5, a6))))) n) := by
  unfold dialtoneref18_Ack AckR
  simp only [(mayT h).2, bindO_some, bindO_none, joinO_inl, joinO_inr, joinO_none, outO_some, outO_none, cond_ite, List.take_length, Nat.le_refl, if_true, Nat.mul_one, Int.mul_one, cond_true, cond_false, Bool.not_true]
  by_cases c1 : a2 = 0
  · rw [if_pos c1, if_pos (.inl c1)]; rfl
  by_cases c2 : n ≠ a1
  · rw [if_neg c1, if_pos c2, if_pos (.inr c2)]; rfl
  rw [if_neg c1, if_neg c2, if_neg (by omega), next_j ⟨h.s0, h.s1⟩ (by have := h.len; omega)]
  rfl
theorem ack_j {a1 a2 a3 : Int} {a4 : List Int} {a5 a6 : Bool} (h : MayP a1 a2 a3 a4 a5 a6) (n : Int) : provisional_Ack ((a1, (a2, (a3, (a4, (a5, a6))))), n) = some (AckR (a1, (a2, (a3, (a4, (a5, a6))))) n) := by
  have hs0 := h.s0; have hs1 := h.s1; have hl := h.len
  unfold provisional_Ack AckR
  simp only [(mayT h).1, bindO_some, bindO_none, joinO_inl, joinO_inr, joinO_none, outO_some, outO_none, cond_ite, List.take_length, Nat.le_refl, if_true, Nat.mul_one, Int.mul_one, cond_true, cond_false, Bool.not_true]
  by_cases c1 : a2 = 0
  · rw [if_pos c1, if_pos (.inl c1)]; rfl
  by_cases c2 : n ≠ a1
  · rw [if_neg c1, if_pos c2, if_pos (.inr c2)]; rfl
  rw [if_neg c1, if_neg c2, if_neg (by omega)]
  simp (disch := omega) only [bindO_some, bindO_none, joinO_inl, joinO_inr, joinO_none, outO_some, outO_none, cond_ite, List.take_length, Nat.le_refl, if_true, Nat.mul_one, Int.mul_one, cond_true, cond_false, clone_j]
  cases a4 with
  | nil => simp [nextR]
  | cons x l =>
    simp only [List.length_cons] at hl
    have q1 := h.qu.1 0
    have q2 := h.qu.2
    simp only [List.length_cons, List.getD_cons_zero] at q1 q2
    by_cases hx : Pc x
    · have : ¬ x = 0 := by omega
      simp (disch := (first | omega | (simp only [List.length_append, List.length_cons, List.length_nil, List.nil_append, List.length_take, List.length_drop]; omega))) only [↓bindO_some, ↓bindO_none, ↓joinO_inl, ↓joinO_inr, ↓joinO_none, ↓outO_some, ↓outO_none, ↓cond_true, ↓cond_false, ↓cond_and, ↓cond_or, ↓cond_not, ↓cond_ite, ↓if_pos, ↓if_neg, ↓if_true, ↓if_false, List.take_length, Nat.le_refl, Bool.not_true, Bool.not_false, nextR, outSend, provisional_timer, wrap_i64', prov_j, decide_eq_true hx, List.getElem?_cons_zero, List.length_cons, List.drop_succ_cons, List.drop_zero, decide_true, Bool.and_self, Int.toNat_natCast, Nat.add_sub_cancel]
    · have hf : a5 = true ∧ l = [] := by
        cases a5 with
        | false => exact (hx (q1 (by simp))).elim
        | true =>
          refine ⟨rfl, ?_⟩
          cases l with
          | nil => rfl
          | cons y l => exact (hx (q1 (by simp))).elim
      obtain ⟨rfl, rfl⟩ := hf
      have ha := q2 rfl 0 rfl
      simp only [List.getD_cons_zero] at ha
      simp (disch := (first | omega | (simp only [List.length_append, List.length_cons, List.length_nil, List.nil_append, List.length_take, List.length_drop]; omega))) only [↓bindO_some, ↓bindO_none, ↓joinO_inl, ↓joinO_inr, ↓joinO_none, ↓outO_some, ↓outO_none, ↓cond_true, ↓cond_false, ↓cond_and, ↓cond_or, ↓cond_not, ↓cond_ite, ↓if_pos, ↓if_neg, ↓if_true, ↓if_false, List.take_length, Nat.le_refl, Bool.not_true, Bool.not_false, nextR, outFin, provisional_timer, wrap_i64', prov_j, decide_eq_false hx, List.getElem?_cons_zero, List.take_zero, List.length_cons, List.length_nil, List.drop_succ_cons, List.drop_zero, decide_true, Bool.and_self, Int.toNat_natCast, Nat.add_sub_cancel]
theorem wt_le {w : Int} (h : Wt w) : 500 ≤ w ∧ w ≤ 32000 := by unfold Wt at h; omega
theorem fireRef_j {a1 a2 a3 : Int} {a4 : List Int} {a5 a6 : Bool} (h : MayP a1 a2 a3 a4 a5 a6) (t : Int) : dialtoneref18_Fire ((a1, (a2, (a3, (a4, (a5, a6))))), t) = some (FireR (a1, (a2, (a3, (a4, (a5, a6))))) t) := by
  unfold dialtoneref18_Fire FireR
  simp only [(mayT h).2, bindO_some, bindO_none, joinO_inl, joinO_inr, joinO_none, outO_some, outO_none, cond_ite, List.take_length, Nat.le_refl, if_true, Nat.mul_one, Int.mul_one, cond_true, cond_false, Bool.not_true]
  have ha3 : 0 ≤ a3 ∧ a3 ≤ 32000 := by
    rcases h.code with ⟨_, e, _⟩ | ⟨_, _, e⟩
    · omega
    · have := wt_le e; omega
  by_cases t1 : t = 1
  · subst t1
    by_cases c1 : a2 = 0
    · simp [c1]
    · simp (disch := omega) [c1, wrap_i64', bindO_some, bindO_none, joinO_inl, joinO_inr, joinO_none, outO_some, outO_none, cond_ite, List.take_length, Nat.le_refl, if_true, Nat.mul_one, Int.mul_one, cond_true, cond_false]
  by_cases t2 : t = 2
  · subst t2
    by_cases c1 : a2 = 0
    · simp [c1]
    · simp (disch := omega) [c1, wrap_i64', bindO_some, bindO_none, joinO_inl, joinO_inr, joinO_none, outO_some, outO_none, cond_ite, List.take_length, Nat.le_refl, if_true, Nat.mul_one, Int.mul_one, cond_true, cond_false]
  · simp [t1, t2, err18]
theorem fire_j {a1 a2 a3 : Int} {a4 : List Int} {a5 a6 : Bool} (h : MayP a1 a2 a3 a4 a5 a6) (t : Int) : provisional_Fire ((a1, (a2, (a3, (a4, (a5, a6))))), t) = some (FireR (a1, (a2, (a3, (a4, (a5, a6))))) t) := by
  have hl := h.len
  unfold provisional_Fire FireR
  simp (disch := omega) only [(mayT h).1, bindO_some, bindO_none, joinO_inl, joinO_inr, joinO_none, outO_some, outO_none, cond_ite, List.take_length, Nat.le_refl, if_true, Nat.mul_one, Int.mul_one, cond_true, cond_false, Bool.not_true, clone_j]
  have ha3 : 0 ≤ a3 ∧ a3 ≤ 32000 := by
    rcases h.code with ⟨_, e, _⟩ | ⟨_, _, e⟩
    · omega
    · have := wt_le e; omega
  by_cases t1 : t = 1
  · subst t1
    by_cases c1 : a2 = 0
    · simp [c1]
    · simp (disch := omega) [c1, wrap_i64', bindO_some, bindO_none, joinO_inl, joinO_inr, joinO_none, outO_some, outO_none, cond_ite, List.take_length, Nat.le_refl, if_true, Nat.mul_one, Int.mul_one, cond_true, cond_false, provisional_timer]
  by_cases t2 : t = 2
  · subst t2
    by_cases c1 : a2 = 0
    · simp [c1]
    · simp (disch := omega) [c1, wrap_i64', bindO_some, bindO_none, joinO_inl, joinO_inr, joinO_none, outO_some, outO_none, cond_ite, List.take_length, Nat.le_refl, if_true, Nat.mul_one, Int.mul_one, cond_true, cond_false, provisional_timer]
  · simp [t1, t2, err18]
theorem no_j {a1 a2 a3 : Int} {a4 : List Int} {a5 a6 : Bool} (h : ¬ MayP a1 a2 a3 a4 a5 a6) (n : Int) :
    provisional_Offer ((a1, (a2, (a3, (a4, (a5, a6))))), n) = some (err18 2) ∧ dialtoneref18_Offer ((a1, (a2, (a3, (a4, (a5, a6))))), n) = some (err18 2) ∧
    provisional_Ack ((a1, (a2, (a3, (a4, (a5, a6))))), n) = some (err18 2) ∧ dialtoneref18_Ack ((a1, (a2, (a3, (a4, (a5, a6))))), n) = some (err18 2) ∧
    provisional_Fire ((a1, (a2, (a3, (a4, (a5, a6))))), n) = some (err18 2) ∧ dialtoneref18_Fire ((a1, (a2, (a3, (a4, (a5, a6))))), n) = some (err18 2) := by
  unfold provisional_Offer dialtoneref18_Offer provisional_Ack dialtoneref18_Ack provisional_Fire dialtoneref18_Fire
  simp only [(mayF h).1, (mayF h).2, bindO_some, bindO_none, joinO_inl, joinO_inr, joinO_none, outO_some, outO_none, cond_ite, List.take_length, Nat.le_refl, if_true, Nat.mul_one, Int.mul_one, cond_true, cond_false, Bool.not_false]
  exact ⟨rfl, rfl, rfl, rfl, rfl, rfl⟩
end Go.Proofs.Ytonejiaiieiboaa
