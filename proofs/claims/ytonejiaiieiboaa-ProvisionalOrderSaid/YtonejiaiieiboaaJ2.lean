/- Chapter 18, plain: May. -/
import Derived.Test.YtonejiaiieiboaaJ1
set_option linter.unusedVariables false
set_option linter.unusedSimpArgs false
namespace Go.Proofs.Ytonejiaiieiboaa
open Go.RowKit

/-- A possible sender. -/
structure MayP (a1 a2 a3 : Int) (a4 : List Int) (a5 a6 : Bool) : Prop where
  s0 : 0 ≤ a1
  s1 : a1 ≤ 2147483647
  len : a4.length ≤ 16
  code : (a2 = 0 ∧ a3 = 0 ∧ a4 = []) ∨ (Pc a2 ∧ 1 ≤ a1 ∧ Wt a3)
  qu : QuOk a4 a5
  num : a1 + (a4.length - a5.toNat : Nat) ≤ 2147483647
  fail : a6 = true → a2 = 0 ∧ a5 = true
theorem may_eq (a1 a2 a3 : Int) (a4 : List Int) (a5 a6 : Bool) : provisional_May (a1, (a2, (a3, (a4, (a5, a6))))) =
  bif (decide (a1 < (0 : Int))) then
   some Bool.false
  else
   bif (decide (a1 > (2147483647 : Int))) then
    some Bool.false
   else
    bif (decide ((((List.length a4) : Nat) : Int) > (16 : Int))) then
     some Bool.false
    else
     joinO (bif (decide (a2 = (0 : Int))) then
       bif (decide (a3 ≠ (0 : Int))) then
        outO (some Bool.false)
       else
        bif (decide ((((List.length a4) : Nat) : Int) > (0 : Int))) then
         outO (some Bool.false)
        else
         some (Sum.inl ())
      else
       bindO (provisional_isProvisional a2) fun x7 =>
       bif (!x7) then
        outO (some Bool.false)
       else
        bif (decide (a1 < (1 : Int))) then
         outO (some Bool.false)
        else
         bindO (provisional_mayWait a3) fun x8 =>
         bif (!x8) then
          outO (some Bool.false)
         else
          some (Sum.inl ())) fun _ =>
     bif a6 then
      bif (decide (a2 ≠ (0 : Int))) then
       some Bool.false
      else
       bif (!a5) then
        some Bool.false
       else
        joinO (loopO (mBody a4 a5) ((0 : Int), (0 : Int))) fun v20 =>
        some (decide ((Go.IntKind.wrap .i64 (a1 + v20)) ≤ (2147483647 : Int)))
     else
      joinO (loopO (mBody a4 a5) ((0 : Int), (0 : Int))) fun v33 =>
      some (decide ((Go.IntKind.wrap .i64 (a1 + v33)) ≤ (2147483647 : Int))) := rfl
theorem mayR_eq (a1 a2 a3 : Int) (a4 : List Int) (a5 a6 : Bool) : dialtoneref18_May (a1, (a2, (a3, (a4, (a5, a6))))) =
  bif (decide (a1 < (0 : Int))) then
   some Bool.false
  else
   bif (decide (a1 > (2147483647 : Int))) then
    some Bool.false
   else
    bif (decide ((((List.length a4) : Nat) : Int) > (16 : Int))) then
     some Bool.false
    else
     bif (decide (a2 = (0 : Int))) then
      bif (decide (a3 ≠ (0 : Int))) then
       some Bool.false
      else
       bif (decide ((((List.length a4) : Nat) : Int) > (0 : Int))) then
        some Bool.false
       else
        bif (decide (a2 ≠ (0 : Int))) then
         bindO (dialtoneref12_From (a2, ((101 : Int), (199 : Int)))) fun x7 =>
         bif (!x7) then
          some Bool.false
         else
          bif (decide (a1 < (1 : Int))) then
           some Bool.false
          else
           bindO (dialtoneref18_wait a3) fun x8 =>
           bif (!x8) then
            some Bool.false
           else
            joinO (loopO (rBody a4 a5) ((0 : Int), (0 : Int))) fun v29 =>
            bif (decide ((Go.IntKind.wrap .i64 (a1 + v29)) ≤ (2147483647 : Int))) then
             bif (!a6) then
              some Bool.true
             else
              bif (decide (a2 = (0 : Int))) then
               some a5
              else
               some Bool.false
            else
             some Bool.false
        else
         joinO (loopO (rBody a4 a5) ((0 : Int), (0 : Int))) fun v51 =>
         bif (decide ((Go.IntKind.wrap .i64 (a1 + v51)) ≤ (2147483647 : Int))) then
          bif (!a6) then
           some Bool.true
          else
           bif (decide (a2 = (0 : Int))) then
            some a5
           else
            some Bool.false
         else
          some Bool.false
     else
      bif (decide (a2 ≠ (0 : Int))) then
       bindO (dialtoneref12_From (a2, ((101 : Int), (199 : Int)))) fun x53 =>
       bif (!x53) then
        some Bool.false
       else
        bif (decide (a1 < (1 : Int))) then
         some Bool.false
        else
         bindO (dialtoneref18_wait a3) fun x54 =>
         bif (!x54) then
          some Bool.false
         else
          joinO (loopO (rBody a4 a5) ((0 : Int), (0 : Int))) fun v75 =>
          bif (decide ((Go.IntKind.wrap .i64 (a1 + v75)) ≤ (2147483647 : Int))) then
           bif (!a6) then
            some Bool.true
           else
            bif (decide (a2 = (0 : Int))) then
             some a5
            else
             some Bool.false
          else
           some Bool.false
      else
       joinO (loopO (rBody a4 a5) ((0 : Int), (0 : Int))) fun v97 =>
       bif (decide ((Go.IntKind.wrap .i64 (a1 + v97)) ≤ (2147483647 : Int))) then
        bif (!a6) then
         some Bool.true
        else
         bif (decide (a2 = (0 : Int))) then
          some a5
         else
          some Bool.false
       else
        some Bool.false := rfl
theorem may_j (a1 a2 a3 : Int) (a4 : List Int) (a5 a6 : Bool) : (MayP a1 a2 a3 a4 a5 a6 ∧ provisional_May (a1, (a2, (a3, (a4, (a5, a6))))) = some true ∧ dialtoneref18_May (a1, (a2, (a3, (a4, (a5, a6))))) = some true) ∨ (¬ MayP a1 a2 a3 a4 a5 a6 ∧ provisional_May (a1, (a2, (a3, (a4, (a5, a6))))) = some false ∧ dialtoneref18_May (a1, (a2, (a3, (a4, (a5, a6))))) = some false) := by
  rw [may_eq, mayR_eq]
  simp only [bindO_some, bindO_none, joinO_inl, joinO_inr, joinO_none, outO_some, outO_none, cond_ite, List.take_length, Nat.le_refl, if_true, Nat.mul_one, Int.mul_one, cond_true, cond_false, from_j, prov_j, mayWait_j, wait_j]
  by_cases h1 : a1 < 0
  · right; simp only [if_pos h1]; exact ⟨fun h => by have := h.s0; omega, trivial, trivial⟩
  by_cases h2 : a1 > 2147483647
  · right; simp only [if_neg h1, if_pos h2]; exact ⟨fun h => by have := h.s1; omega, trivial, trivial⟩
  by_cases h3 : (a4.length : Int) > 16
  · right; simp only [if_neg h1, if_neg h2, if_pos h3]; exact ⟨fun h => by have := h.len; omega, trivial, trivial⟩
  simp only [if_neg h1, if_neg h2, if_neg h3]
  have hml := mQ a4 a5 (by omega)
  have hrl := rQ a4 a5 (by omega)
  have key : ∀ (k : (a2 = 0 ∧ a3 = 0 ∧ a4 = []) ∨ (Pc a2 ∧ 1 ≤ a1 ∧ Wt a3)), QuOk a4 a5 → (a1 + (a4.length - a5.toNat : Nat) ≤ 2147483647) → (a6 = true → a2 = 0 ∧ a5 = true) → MayP a1 a2 a3 a4 a5 a6 := fun k q n f => ⟨by omega, by omega, by omega, k, q, n, f⟩
  by_cases h4 : a2 = 0
  · subst h4
    have np : ¬ Pc 0 := by unfold Pc; omega
    by_cases h5 : a3 = 0
    · subst h5
      by_cases h6 : (a4.length : Int) > 0
      · right
        simp (disch := omega) only [bindO_some, bindO_none, joinO_inl, joinO_inr, joinO_none, outO_some, outO_none, cond_ite, List.take_length, Nat.le_refl, if_true, Nat.mul_one, Int.mul_one, cond_true, cond_false, if_pos, if_neg, if_false, h6]
        refine ⟨fun h => ?_, trivial, trivial⟩
        rcases h.code with ⟨_, _, e⟩ | ⟨e, _⟩
        · subst e; simp at h6
        · exact np e
      · have e4 : a4 = [] := List.eq_nil_of_length_eq_zero (by omega)
        simp (disch := omega) only [bindO_some, bindO_none, joinO_inl, joinO_inr, joinO_none, outO_some, outO_none, cond_ite, List.take_length, Nat.le_refl, if_true, Nat.mul_one, Int.mul_one, cond_true, cond_false, if_pos, if_neg, if_false, h6, decide_true, decide_false, ne_eq, not_true_eq_false]
        rcases hml with ⟨q, k⟩ | ⟨q, k⟩
        · rcases hrl with ⟨_, k'⟩ | ⟨q', _⟩
          · rw [k, k']
            have hn : (a4.length - a5.toNat : Nat) = 0 := by rw [e4]; cases a5 <;> rfl
            rw [hn] at key ⊢
            cases a5 <;> cases a6 <;> simp (disch := omega) only [bindO_some, bindO_none, joinO_inl, joinO_inr, joinO_none, outO_some, outO_none, cond_ite, List.take_length, Nat.le_refl, if_true, Nat.mul_one, Int.mul_one, cond_true, cond_false, if_pos, if_neg, if_false, Bool.not_true, Bool.not_false, wrap_i64']
            · left; refine ⟨key (.inl ⟨rfl, rfl, e4⟩) q (by omega) (by simp), ?_, trivial⟩; first | trivial | (simp; done) | (simp; omega)
            · right; refine ⟨fun h => by have := h.fail rfl; simp at this, trivial, trivial⟩
            · left; refine ⟨key (.inl ⟨rfl, rfl, e4⟩) q (by omega) (by simp), ?_, trivial⟩; first | trivial | (simp; done) | (simp; omega)
            · left; refine ⟨key (.inl ⟨rfl, rfl, e4⟩) q (by omega) (by simp), ?_, trivial⟩; first | trivial | (simp; done) | (simp; omega)
          · exact (q' q).elim
        · exfalso; apply q; subst e4; refine ⟨fun i hi => ?_, fun _ i hi => ?_⟩ <;> simp at hi
    · right
      simp (disch := omega) only [bindO_some, bindO_none, joinO_inl, joinO_inr, joinO_none, outO_some, outO_none, cond_ite, List.take_length, Nat.le_refl, if_true, Nat.mul_one, Int.mul_one, cond_true, cond_false, if_pos, if_neg, if_false, ne_eq, h5, not_false_eq_true]
      refine ⟨fun h => ?_, trivial, trivial⟩
      rcases h.code with ⟨_, e, _⟩ | ⟨e, _⟩
      · exact h5 e
      · exact np e
  · simp (disch := omega) only [bindO_some, bindO_none, joinO_inl, joinO_inr, joinO_none, outO_some, outO_none, cond_ite, List.take_length, Nat.le_refl, if_true, Nat.mul_one, Int.mul_one, cond_true, cond_false, if_pos, if_neg, if_false, ne_eq, h4, not_false_eq_true]
    by_cases h5 : Pc a2
    · have h5' : 101 ≤ a2 ∧ a2 ≤ 199 := h5
      simp only [decide_eq_true h5, decide_eq_true h5', Bool.not_true, bindO_some, bindO_none, joinO_inl, joinO_inr, joinO_none, outO_some, outO_none, cond_ite, List.take_length, Nat.le_refl, if_true, Nat.mul_one, Int.mul_one, cond_true, cond_false]
      by_cases h6 : a1 < 1
      · right
        simp only [if_pos h6, bindO_some, bindO_none, joinO_inl, joinO_inr, joinO_none, outO_some, outO_none, cond_ite, List.take_length, Nat.le_refl, if_true, Nat.mul_one, Int.mul_one, cond_true, cond_false]
        refine ⟨fun h => ?_, trivial, trivial⟩
        rcases h.code with ⟨e, _⟩ | ⟨_, e, _⟩
        · exact h4 e
        · omega
      · simp only [if_neg h6]
        by_cases h7 : Wt a3
        · simp only [decide_eq_true h7, Bool.not_true, bindO_some, bindO_none, joinO_inl, joinO_inr, joinO_none, outO_some, outO_none, cond_ite, List.take_length, Nat.le_refl, if_true, Nat.mul_one, Int.mul_one, cond_true, cond_false]
          rcases hml with ⟨q, k⟩ | ⟨q, k⟩
          · rcases hrl with ⟨_, k'⟩ | ⟨q', _⟩
            · rw [k, k']
              generalize hn : (a4.length - a5.toNat : Nat) = n at *
              have hn' : n ≤ 16 := by omega
              by_cases h8 : a1 + (n : Int) ≤ 2147483647
              · cases a6 <;> simp (disch := omega) only [bindO_some, bindO_none, joinO_inl, joinO_inr, joinO_none, outO_some, outO_none, cond_ite, List.take_length, Nat.le_refl, if_true, Nat.mul_one, Int.mul_one, cond_true, cond_false, if_pos, if_neg, if_false, Bool.not_true, Bool.not_false, wrap_i64', decide_eq_true h8]
                · left; exact ⟨key (.inr ⟨h5, by omega, h7⟩) q (by omega) (by simp), trivial, trivial⟩
                · right; exact ⟨fun h => h4 (h.fail rfl).1, trivial, trivial⟩
              · right
                have hf : ¬ MayP a1 a2 a3 a4 a5 a6 := fun h => by have := h.num; rw [hn] at this; omega
                cases a6 <;> simp (disch := omega) only [bindO_some, bindO_none, joinO_inl, joinO_inr, joinO_none, outO_some, outO_none, cond_ite, List.take_length, Nat.le_refl, if_true, Nat.mul_one, Int.mul_one, cond_true, cond_false, if_pos, if_neg, if_false, Bool.not_true, Bool.not_false, wrap_i64', decide_eq_false h8] <;> exact ⟨hf, trivial, trivial⟩
            · exact (q' q).elim
          · rcases hrl with ⟨q', _⟩ | ⟨_, k'⟩
            · exact (q q').elim
            · right
              rw [k, k']
              have hf : ¬ MayP a1 a2 a3 a4 a5 a6 := fun h => q h.qu
              cases a6 <;> simp (disch := omega) only [bindO_some, bindO_none, joinO_inl, joinO_inr, joinO_none, outO_some, outO_none, cond_ite, List.take_length, Nat.le_refl, if_true, Nat.mul_one, Int.mul_one, cond_true, cond_false, if_pos, if_neg, if_false] <;> exact ⟨hf, trivial, trivial⟩
        · right
          simp only [decide_eq_false h7, Bool.not_false, bindO_some, bindO_none, joinO_inl, joinO_inr, joinO_none, outO_some, outO_none, cond_ite, List.take_length, Nat.le_refl, if_true, Nat.mul_one, Int.mul_one, cond_true, cond_false]
          refine ⟨fun h => ?_, trivial, trivial⟩
          rcases h.code with ⟨e, _⟩ | ⟨_, _, e⟩
          · exact h4 e
          · exact h7 e
    · right
      have h5' : ¬ (101 ≤ a2 ∧ a2 ≤ 199) := h5
      simp only [decide_eq_false h5, decide_eq_false h5', Bool.not_false, bindO_some, bindO_none, joinO_inl, joinO_inr, joinO_none, outO_some, outO_none, cond_ite, List.take_length, Nat.le_refl, if_true, Nat.mul_one, Int.mul_one, cond_true, cond_false]
      refine ⟨fun h => ?_, trivial, trivial⟩
      rcases h.code with ⟨e, _⟩ | ⟨e, _⟩
      · exact h4 e
      · exact h5 e
end Go.Proofs.Ytonejiaiieiboaa
