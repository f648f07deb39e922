/- Chapter 23, plain: the law of steps. -/
import Derived.Test.YtheicchelhjcjaaJ7
import Derived.Test.YtheicchelhjcjaaZ4
set_option linter.unusedVariables false
set_option linter.unusedSimpArgs false
set_option maxRecDepth 100000
namespace Go.Proofs.Ytheicchelhjcjaa
open Go.RowKit

noncomputable def smB (a1 a6 : List Br) : Int → Option (Int ⊕ (Unit ⊕ Bool)) :=
(fun v11 =>
    bif (decide (v11 < (((List.length a1) : Nat) : Int))) then
     bif (decide (((0 : Int) ≤ v11) ∧ (v11 < (((List.length a1) : Nat) : Int)))) then 
      bindO a1[(Int.toNat v11)]? fun x12 =>
      bif (decide (((0 : Int) ≤ v11) ∧ (v11 < (((List.length a6) : Nat) : Int)))) then 
       bindO a6[(Int.toNat v11)]? fun x13 =>
       bif (!((decide (x12.1 = x13.1)) && ((decide (x12.2.1 = x13.2.1)) && ((decide (x12.2.2.1 = x13.2.2.1)) && (decide (x12.2.2.2 = x13.2.2.2)))))) then
        outO (outO (some Bool.false))
       else
        some (Sum.inl (Go.IntKind.wrap .i64 (v11 + (1 : Int))))
      else none
     else none
    else
     outO (some (Sum.inl ())))
theorem same_eq (a1 : List Br) (a2 : Int) (a3 a4 a5 : Bool) (a6 : List Br) (a7 : Int) (a8 a9 a10 : Bool) : dialtoneref23_Same ((a1, (a2, (a3, (a4, a5)))), (a6, (a7, (a8, (a9, a10))))) =

  joinO (bif (decide ((((List.length a1) : Nat) : Int) ≠ (((List.length a6) : Nat) : Int))) then
    outO (some Bool.false)
   else
    bif (decide (a2 ≠ a7)) then
     outO (some Bool.false)
    else
     bif (a3 != a8) then
      outO (some Bool.false)
     else
      bif (a4 != a9) then
       outO (some Bool.false)
      else
       bif (a5 != a10) then
        outO (some Bool.false)
       else
        some (Sum.inl ())) fun _ =>
  joinO (loopO (smB a1 a6) (0 : Int)) fun _ =>
  some Bool.true := rfl
noncomputable def saB (a1 a2 : List Ac) : Int → Option (Int ⊕ (Unit ⊕ Bool)) :=
(fun v3 =>
     bif (decide (v3 < (((List.length a1) : Nat) : Int))) then
      bif (decide (((0 : Int) ≤ v3) ∧ (v3 < (((List.length a1) : Nat) : Int)))) then 
       bindO a1[(Int.toNat v3)]? fun x4 =>
       bif (decide (((0 : Int) ≤ v3) ∧ (v3 < (((List.length a2) : Nat) : Int)))) then 
        bindO a2[(Int.toNat v3)]? fun x5 =>
        bif (!((decide (x4.1 = x5.1)) && ((decide (x4.2.1 = x5.2.1)) && (decide (x4.2.2 = x5.2.2))))) then
         outO (outO (some Bool.false))
        else
         some (Sum.inl (Go.IntKind.wrap .i64 (v3 + (1 : Int))))
       else none
      else none
     else
      outO (some (Sum.inl ())))
theorem sameActs_eq (a1 a2 : List Ac) : dialtoneref23_SameActs (a1, a2) =

  bif (decide ((((List.length a1) : Nat) : Int) ≠ (((List.length a2) : Nat) : Int))) then
   some Bool.false
  else
   joinO (loopO (saB a1 a2) (0 : Int)) fun _ =>
   some Bool.true := rfl
theorem same_refl (l : List Br) (a2 : Int) (a3 a4 a5 : Bool) (hl : l.length ≤ 10000000000000) : dialtoneref23_Same ((l, (a2, (a3, (a4, a5)))), (l, (a2, (a3, (a4, a5))))) = some true := by
  rw [same_eq, loopO_from (body := smB l l) (fun k => ((k : Nat) : Int)) l.length (x := (0 : Int)) (r := .inl ()) rfl (fun i hi => by
      unfold smB
      simp (disch := (first | omega | (simp only [List.length_append, List.length_cons, List.length_nil, List.nil_append, List.length_take, List.length_drop]; omega))) only [↓bindO_some, ↓bindO_none, ↓joinO_inl, ↓joinO_inr, ↓joinO_none, ↓outO_some, ↓outO_none, ↓cond_true, ↓cond_false, ↓cond_and, ↓cond_or, ↓cond_not, ↓cond_ite, ↓if_pos, ↓if_neg, ↓if_true, ↓if_false, List.take_length, Nat.le_refl, Bool.not_true, Bool.not_false, ↓get_bz d0, Int.toNat_natCast, wrap_i64', decide_true, Bool.and_self]
      rfl) (by unfold smB; simp (disch := (first | omega | (simp only [List.length_append, List.length_cons, List.length_nil, List.nil_append, List.length_take, List.length_drop]; omega))) only [↓bindO_some, ↓bindO_none, ↓joinO_inl, ↓joinO_inr, ↓joinO_none, ↓outO_some, ↓outO_none, ↓cond_true, ↓cond_false, ↓cond_and, ↓cond_or, ↓cond_not, ↓cond_ite, ↓if_pos, ↓if_neg, ↓if_true, ↓if_false, List.take_length, Nat.le_refl, Bool.not_true, Bool.not_false])]
  simp [joinO]
theorem sameActs_refl (l : List Ac) (hl : l.length ≤ 10000000000000) : dialtoneref23_SameActs (l, l) = some true := by
  rw [sameActs_eq, loopO_from (body := saB l l) (fun k => ((k : Nat) : Int)) l.length (x := (0 : Int)) (r := .inl ()) rfl (fun i hi => by
      unfold saB
      simp (disch := (first | omega | (simp only [List.length_append, List.length_cons, List.length_nil, List.nil_append, List.length_take, List.length_drop]; omega))) only [↓bindO_some, ↓bindO_none, ↓joinO_inl, ↓joinO_inr, ↓joinO_none, ↓outO_some, ↓outO_none, ↓cond_true, ↓cond_false, ↓cond_and, ↓cond_or, ↓cond_not, ↓cond_ite, ↓if_pos, ↓if_neg, ↓if_true, ↓if_false, List.take_length, Nat.le_refl, Bool.not_true, Bool.not_false, ↓get_bz ((0 : Int), ((0 : Int), (0 : Int))), Int.toNat_natCast, wrap_i64', decide_true, Bool.and_self]
      rfl) (by unfold saB; simp (disch := (first | omega | (simp only [List.length_append, List.length_cons, List.length_nil, List.nil_append, List.length_take, List.length_drop]; omega))) only [↓bindO_some, ↓bindO_none, ↓joinO_inl, ↓joinO_inr, ↓joinO_none, ↓outO_some, ↓outO_none, ↓cond_true, ↓cond_false, ↓cond_and, ↓cond_or, ↓cond_not, ↓cond_ite, ↓if_pos, ↓if_neg, ↓if_true, ↓if_false, List.take_length, Nat.le_refl, Bool.not_true, Bool.not_false])]
  simp [joinO]
theorem fin_len {l : List Br} {a2 : Int} {a3 a4 a5 : Bool} {i : Nat} {c : Int} (hl : l.length ≤ 16) : (FIN l a2 a3 a4 a5 i c).1.1.length = l.length ∧ (FIN l a2 a3 a4 a5 i c).2.length ≤ 40 := by
  have hf := fs_len l i c
  have h1 := ac_len pRg 2 (fs l i c) l.length
  have h2 := GO_len1 (fs l i c) a3 a4 a5
  have h3 := GO_len (fs l i c) a3 a4 a5
  have h4 := GO_len1 ((fs l i c).map fst1) a3 true a5
  have h5 := GO_len ((fs l i c).map fst1) a3 true a5
  rw [List.length_map] at h4 h5
  unfold FIN
  split
  · refine ⟨by simp [hf], ?_⟩
    rw [List.length_cons]; omega
  split
  · refine ⟨by show (GO _ _ _ _).1.length = _; omega, ?_⟩
    rw [List.length_cons]; omega
  split
  · refine ⟨by show (GO _ _ _ _).1.length = _; omega, ?_⟩
    rw [List.length_append]; omega
  · exact ⟨by show (GO _ _ _ _).1.length = _; omega, by show (GO _ _ _ _).2.2.length ≤ _; omega⟩
theorem stc_len {l : List Br} {a2 : Int} {a3 a4 a5 : Bool} {k b c : Int} (hl : l.length ≤ 16) : (STC l a2 a3 a4 a5 k b c).1.1.length = l.length ∧ (STC l a2 a3 a4 a5 k b c).2.length ≤ 40 := by
  unfold STC
  split
  · unfold PV
    split
    · refine ⟨by simp, ?_⟩
      show (if _ then _ else _ : List Ac).length ≤ 40
      split <;> simp
    split
    · exact ⟨by simp, by simp⟩
    · refine ⟨rfl, ?_⟩
      show (if _ then _ else _ : List Ac).length ≤ 40
      split <;> simp
  split
  · exact fin_len hl
  split
  · exact fin_len hl
  · have := ac_len pRg 2 l l.length
    exact ⟨by simp, by show (ac _ _ _ _).length ≤ 40; omega⟩
/-- What a step gives: both alike. -/
theorem step_j (l : List Br) (a2 : Int) (a3 a4 a5 : Bool) (k b c : Int) : ∃ (F : Fk) (A : List Ac) (e : Int), fork_Step ((l, (a2, (a3, (a4, a5)))), (k, (b, c))) = some (F, (A, e)) ∧ dialtoneref23_Step ((l, (a2, (a3, (a4, a5)))), (k, (b, c))) = some (F, (A, e)) ∧ F.1.length ≤ 16 ∧ A.length ≤ 40 ∧
    ((e = 0 ∧ CKO l a2 a3 a4 a5 k b c ∧ F = (STC l a2 a3 a4 a5 k b c).1 ∧ A = (STC l a2 a3 a4 a5 k b c).2) ∨ (e ≠ 0 ∧ F = ([], (0, (false, (false, false)))) ∧ A = [])) := by
  obtain ⟨e, h1, h2, h3⟩ := check_j l a2 a3 a4 a5 k b c
  by_cases h0 : e = 0
  · subst h0
    have h := h3 rfl
    have hs := stc_len (a2 := a2) (a3 := a3) (a4 := a4) (a5 := a5) (k := k) (b := b) (c := c) h.v.len
    have hv := h.v.len
    exact ⟨_, _, 0, stepP_j h h1, stepR_j h h2, by omega, hs.2, .inl ⟨rfl, h, rfl, rfl⟩⟩
  · refine ⟨([], (0, (false, (false, false)))), [], e, ?_, ?_, by simp, by simp, .inr ⟨h0, rfl, rfl⟩⟩
    · rw [pstep_eq, h1]
      simp only [bindO_some]
      rw [decide_eq_true h0]
      rfl
    · rw [rstep_eq, h2]
      simp only [bindO_some]
      rw [decide_eq_true h0]
      rfl
theorem ForkSteps_j (l : List Br) (a2 : Int) (a3 a4 a5 : Bool) (k b c : Int) (hl : l.length ≤ 10000000000000) : dialtonelaw23_ForkSteps ((l, (a2, (a3, (a4, a5)))), (k, (b, c))) = some true := by
  unfold dialtonelaw23_ForkSteps
  obtain ⟨⟨f1, f2, f3, f4, f5⟩, A, e, h1, h2, h3, h4, _⟩ := step_j l a2 a3 a4 a5 k b c
  rcases validR_j l a2 a3 a4 a5 with ⟨_, ev⟩ | ⟨_, ev⟩ <;>
  simp only [h1, h2, valid_eq, best_eq l a2 a3 a4 a5 hl, ev, brf_j l a2 a3 a4 a5 hl, bindO_some, same_refl f1 f2 f3 f4 f5 (Nat.le_trans h3 (by decide)), sameActs_refl A (Nat.le_trans h4 (by decide)), decide_true, cond_true, beq_self_eq_true]
end Go.Proofs.Ytheicchelhjcjaa
