/- Chapter 37, plain: Valid and Find. -/
import Derived.Test.YtbckoncbimljeaaJ1
set_option linter.unusedVariables false
set_option linter.unusedSimpArgs false
set_option maxRecDepth 100000
namespace Go.Proofs.Ytbckoncbimljeaa
open Go.RowKit

noncomputable def vpB (a1 : List Ra) : (Int × List (List UInt8)) → Option ((Int × List (List UInt8)) ⊕ (List (List UInt8) ⊕ Bool)) :=
(fun (v4, v5) =>
      bif (decide (v4 < (((List.length a1) : Nat) : Int))) then
       bif (decide (((0 : Int) ≤ v4) ∧ (v4 < (((List.length a1) : Nat) : Int)))) then 
        bindO a1[(Int.toNat v4)]? fun x6 =>
        bif (decide (Membership.mem v5 x6.1)) then
         outO (outO (some Bool.false))
        else
         bindO (rating_validRate (x6.1, (x6.2.1, (x6.2.2.1, (x6.2.2.2.1, x6.2.2.2.2))))) fun x7 =>
         bif (!x7) then
          outO (outO (some Bool.false))
         else
          some (Sum.inl ((Go.IntKind.wrap .i64 (v4 + (1 : Int))), (addK v5 x6.1)))
       else none
      else
       outO (some (Sum.inl v5)))
noncomputable def viB (a1 : List Ra) (v3 : Int) : Int → Option (Int ⊕ (Int ⊕ (Int ⊕ (Unit ⊕ Bool)))) :=
(fun v6 =>
         bif (decide (v6 < v3)) then
          bif (decide (((0 : Int) ≤ v6) ∧ (v6 < (((List.length a1) : Nat) : Int)))) then 
           bindO a1[(Int.toNat v6)]? fun x7 =>
           bif (decide (((0 : Int) ≤ v3) ∧ (v3 < (((List.length a1) : Nat) : Int)))) then 
            bindO a1[(Int.toNat v3)]? fun x8 =>
            bif (decide (x7.1 = x8.1)) then
             outO (outO (outO (outO (some Bool.false))))
            else
             some (Sum.inl (Go.IntKind.wrap .i64 (v6 + (1 : Int))))
           else none
          else none
         else
          outO (some (Sum.inl v6)))
noncomputable def vrB (a1 : List Ra) : Int → Option (Int ⊕ (Unit ⊕ Bool)) :=
(fun v3 =>
    bif (decide (v3 < (((List.length a1) : Nat) : Int))) then
     joinO (bif (decide (((0 : Int) ≤ v3) ∧ (v3 < (((List.length a1) : Nat) : Int)))) then 
       bindO a1[(Int.toNat v3)]? fun x4 =>
       bindO (dialtoneref37_Rate (x4.1, (x4.2.1, (x4.2.2.1, (x4.2.2.2.1, x4.2.2.2.2))))) fun x5 =>
       bif (!x5) then
        outO (outO (outO (some Bool.false)))
       else
        loopO (viB a1 v3) (0 : Int)
      else none) fun v10 =>
     some (Sum.inl (Go.IntKind.wrap .i64 (v3 + (1 : Int))))
    else
     outO (some (Sum.inl ())))
theorem validP_eq (a1 : List Ra) (a2 : Int) : rating_Valid (a1, a2) =

  bif (decide ((((List.length a1) : Nat) : Int) > (1000 : Int))) then
   some Bool.false
  else
   bindO (rating_within (a2, ((0 : Int), (3600 : Int)))) fun x3 =>
   bif (!x3) then
    some Bool.false
   else
    joinO (loopO (vpB a1) ((0 : Int), ([] : List (List UInt8)))) fun v9 =>
    some Bool.true := rfl
theorem validR_eq (a1 : List Ra) (a2 : Int) : dialtoneref37_Valid (a1, a2) =

  joinO (bif (decide ((((List.length a1) : Nat) : Int) > (1000 : Int))) then
    outO (some Bool.false)
   else
    bif (decide (a2 < (0 : Int))) then
     outO (some Bool.false)
    else
     bif (decide (a2 > (3600 : Int))) then
      outO (some Bool.false)
     else
      some (Sum.inl ())) fun _ =>
  joinO (loopO (vrB a1) (0 : Int)) fun _ =>
  some Bool.true := rfl
noncomputable def fpB (a1 : List Ra) (a3 : List UInt8) : (Int × Int) → Option ((Int × Int) ⊕ (Int ⊕ (Int × Bool))) :=
(fun (v5, v6) =>
     bif (decide (v5 < (((List.length a1) : Nat) : Int))) then
      bif (decide (((0 : Int) ≤ v5) ∧ (v5 < (((List.length a1) : Nat) : Int)))) then 
       bindO a1[(Int.toNat v5)]? fun x7 =>
       bindO (strings_HasPrefix (a3, x7.1)) fun x8 =>
       bif x8 then
        bif (decide (v6 < (0 : Int))) then
         some (Sum.inl ((Go.IntKind.wrap .i64 (v5 + (1 : Int))), v5))
        else
         bif (decide (((0 : Int) ≤ v6) ∧ (v6 < (((List.length a1) : Nat) : Int)))) then 
          bindO a1[(Int.toNat v6)]? fun x10 =>
          bif (decide ((((List.length x7.1) : Nat) : Int) > (((List.length x10.1) : Nat) : Int))) then
           some (Sum.inl ((Go.IntKind.wrap .i64 (v5 + (1 : Int))), v5))
          else
           some (Sum.inl ((Go.IntKind.wrap .i64 (v5 + (1 : Int))), v6))
         else none
       else
        some (Sum.inl ((Go.IntKind.wrap .i64 (v5 + (1 : Int))), v6))
      else none
     else
      outO (some (Sum.inl v6)))
noncomputable def fiB (a1 : List Ra) (a3 : List UInt8) (v5 : Int) : Int → Option (Int ⊕ (Int ⊕ (Int ⊕ (Unit ⊕ (Int × Bool))))) :=
(fun v6 =>
        bif (decide (v6 < (((List.length a1) : Nat) : Int))) then
         bif (decide (((0 : Int) ≤ v6) ∧ (v6 < (((List.length a1) : Nat) : Int)))) then 
          bindO a1[(Int.toNat v6)]? fun x7 =>
          bif (decide ((((List.length x7.1) : Nat) : Int) = v5)) then
           bif (decide (((0 : Int) ≤ v6) ∧ (v6 < (((List.length a1) : Nat) : Int)))) then 
            bindO a1[(Int.toNat v6)]? fun x8 =>
            bindO (dialtoneref37_Begins (a3, x8.1)) fun x9 =>
            bif x9 then
             outO (outO (outO (outO (some (v6, Bool.true)))))
            else
             some (Sum.inl (Go.IntKind.wrap .i64 (v6 + (1 : Int))))
           else none
          else
           some (Sum.inl (Go.IntKind.wrap .i64 (v6 + (1 : Int))))
         else none
        else
         outO (some (Sum.inl v6)))
noncomputable def frB (a1 : List Ra) (a3 : List UInt8) : Int → Option (Int ⊕ (Unit ⊕ (Int × Bool))) :=
(fun v5 =>
     bif (decide (v5 ≥ (0 : Int))) then
      joinO (loopO (fiB a1 a3 v5) (0 : Int)) fun v12 =>
      some (Sum.inl (Go.IntKind.wrap .i64 (v5 - (1 : Int))))
     else
      outO (some (Sum.inl ())))
theorem findP_eq (a1 : List Ra) (a2 : Int) (a3 : List UInt8) : rating_Find ((a1, a2), a3) =

  bindO (rating_Valid (a1, a2)) fun x4 =>
  bif (!x4) then
   some ((0 : Int), Bool.false)
  else
   joinO (loopO (fpB a1 a3) ((0 : Int), (-1 : Int))) fun v14 =>
   bif (decide (v14 < (0 : Int))) then
    some ((0 : Int), Bool.false)
   else
    some (v14, Bool.true) := rfl
theorem findR_eq (a1 : List Ra) (a2 : Int) (a3 : List UInt8) : dialtoneref37_Find ((a1, a2), a3) =

  bindO (dialtoneref37_Valid (a1, a2)) fun x4 =>
  bif (!x4) then
   some ((0 : Int), Bool.false)
  else
   joinO (loopO (frB a1 a3) (20 : Int)) fun _ =>
   some ((0 : Int), Bool.false) := rfl
noncomputable def fwB (a1 : List Ra) : Int → Option (Int ⊕ (Unit ⊕ Bool)) :=
(fun v3 =>
     bif (decide (v3 < (((List.length a1) : Nat) : Int))) then
      bif (decide (((0 : Int) ≤ v3) ∧ (v3 < (((List.length a1) : Nat) : Int)))) then 
       bindO a1[(Int.toNat v3)]? fun x4 =>
       bif (decide ((((List.length x4.2.2.2.2) : Nat) : Int) > (40 : Int))) then
        outO (outO (some Bool.false))
       else
        bif (decide (((0 : Int) ≤ v3) ∧ (v3 < (((List.length a1) : Nat) : Int)))) then 
         bindO a1[(Int.toNat v3)]? fun x5 =>
         bif (decide ((((List.length x5.1) : Nat) : Int) > (100 : Int))) then
          outO (outO (some Bool.false))
         else
          some (Sum.inl (Go.IntKind.wrap .i64 (v3 + (1 : Int))))
        else none
      else none
     else
      outO (some (Sum.inl ())))
theorem few_eq (a1 : List Ra) (a2 : Int) : dialtonelaw37_few (a1, a2) =

  bif (decide ((((List.length a1) : Nat) : Int) > (1100 : Int))) then
   some Bool.false
  else
   joinO (loopO (fwB a1) (0 : Int)) fun _ =>
   some Bool.true := rfl
theorem loop_first {β : Type} {body : Int → Option (Int ⊕ β)} (n : Nat) (p : Nat → Prop) (g : Nat → β) (r0 : β) (h1 : ∀ i : Nat, i < n → ¬ p i → body (i : Int) = some (.inl ((i + 1 : Nat) : Int))) (h2 : ∀ i : Nat, i < n → p i → body (i : Int) = some (.inr (g i))) (h3 : body (n : Int) = some (.inr r0)) :
    (∃ i, i < n ∧ p i ∧ (∀ j, j < i → ¬ p j) ∧ loopO body (0 : Int) = some (g i)) ∨ ((∀ i, i < n → ¬ p i) ∧ loopO body (0 : Int) = some r0) := by
  by_cases h : ∃ i, i < n ∧ p i
  · obtain ⟨i, ⟨k1, k2⟩, k3⟩ := least h
    exact .inl ⟨i, k1, k2, fun j hj hp => k3 j hj ⟨by omega, hp⟩, loopO_from (fun i => (i : Int)) i rfl (fun j hj => h1 j (by omega) fun hp => k3 j hj ⟨by omega, hp⟩) (h2 i k1 k2)⟩
  · exact .inr ⟨fun i hi hp => h ⟨i, hi, hp⟩, loopO_from (fun i => (i : Int)) n rfl (fun j hj => h1 j hj fun hp => h ⟨j, hj, hp⟩) h3⟩
theorem mem_addK {ks : List (List UInt8)} {k u : List UInt8} : u ∈ addK ks k ↔ u = k ∨ u ∈ ks := by
  unfold addK
  by_cases h : k ∈ ks
  · rw [if_pos h]
    exact ⟨.inr, fun h' => h'.elim (fun e => by rw [e]; exact h) id⟩
  · rw [if_neg h]
    simp [or_comm]
theorem Is.iff {o : Option Bool} {P Q : Prop} (h : Is o P) (k : P ↔ Q) : Is o Q := by
  rcases h with ⟨h, e⟩ | ⟨h, e⟩
  · exact .inl ⟨k.1 h, e⟩
  · exact .inr ⟨fun q => h (k.2 q), e⟩
theorem rate_b {β : Type} (x : Ra) {P : Prop} (f : Bool → Option β) (h : RV x) : bindO (rating_validRate (x.1, (x.2.1, (x.2.2.1, (x.2.2.2.1, x.2.2.2.2))))) f = f true := by
  rcases validRate_j x.1 x.2.1 x.2.2.1 x.2.2.2.1 x.2.2.2.2 with ⟨_, e⟩ | ⟨k, e⟩
  · rw [e]; rfl
  · exact (k h).elim
theorem rate_bf {β : Type} (x : Ra) (f : Bool → Option β) (h : ¬ RV x) : bindO (rating_validRate (x.1, (x.2.1, (x.2.2.1, (x.2.2.2.1, x.2.2.2.2))))) f = f false := by
  rcases validRate_j x.1 x.2.1 x.2.2.1 x.2.2.2.1 x.2.2.2.2 with ⟨k, e⟩ | ⟨_, e⟩
  · exact (h k).elim
  · rw [e]; rfl
def ks (l : List Ra) : Nat → List (List UInt8)
  | 0 => []
  | k + 1 => addK (ks l k) (l.getD k r0).1
theorem mem_ks {l : List Ra} {u : List UInt8} : ∀ {k : Nat}, u ∈ ks l k ↔ ∃ i, i < k ∧ (l.getD i r0).1 = u
  | 0 => by simp [ks]
  | k + 1 => by
    rw [ks, mem_addK, mem_ks]
    constructor
    · rintro (h | ⟨i, h1, h2⟩)
      · exact ⟨k, by omega, h.symm⟩
      · exact ⟨i, by omega, h2⟩
    · rintro ⟨i, h1, h2⟩
      by_cases e : i = k
      · subst e; exact .inl h2.symm
      · exact .inr ⟨i, by omega, h2⟩
def Rok (l : List Ra) (i : Nat) : Prop := RV (l.getD i r0) ∧ ∀ k, k < i → (l.getD k r0).1 ≠ (l.getD i r0).1
def TV (l : List Ra) (f : Int) : Prop := (l.length ≤ 1000 ∧ (0 ≤ f ∧ f ≤ 3600)) ∧ ∀ i, i < l.length → Rok l i
theorem vp_loop (l : List Ra) (hl : l.length ≤ 1000) : ((∀ i, i < l.length → Rok l i) ∧ ∃ v, loopO (vpB l) ((0 : Int), []) = some (.inl v)) ∨ (¬ (∀ i, i < l.length → Rok l i) ∧ loopO (vpB l) ((0 : Int), []) = some (.inr false)) := by
  have hs := loopO_search (body := vpB l) (fun i => ((i : Int), ks l i)) l.length (fun i => ¬ Rok l i) (r0 := .inl (ks l l.length)) (r1 := .inr false) (x := ((0 : Int), [])) rfl
    (fun i hi hb => by
      obtain ⟨h1, h2⟩ := Classical.not_not.1 hb
      obtain ⟨x, hx, hxb⟩ := get_at r0 hi
      have hm : ¬ x.1 ∈ ks l i := fun h => by
        obtain ⟨k, k1, k2⟩ := mem_ks.1 h
        exact h2 k k1 (by rw [hx]; exact k2)
      rw [hx] at h1
      have hn : ((i : Int) + 1) = ((i + 1 : Nat) : Int) := rfl
      have hk : ks l (i + 1) = addK (ks l i) x.1 := by rw [ks, hx]
      unfold vpB
      simp (disch := (first | omega | (simp only [List.length_append, List.length_cons, List.length_nil, List.nil_append, List.length_take, List.length_drop]; omega))) only [↓bindO_some, ↓bindO_none, ↓joinO_inl, ↓joinO_inr, ↓joinO_none, ↓outO_some, ↓outO_none, ↓cond_true, ↓cond_false, ↓cond_and, ↓cond_or, ↓cond_not, ↓cond_ite, ↓if_pos, ↓if_neg, ↓if_true, ↓if_false, List.take_length, Nat.le_refl, Bool.not_true, Bool.not_false, if_pos, if_neg, ↓hxb, hm, rate_b x (P := True) _ h1, wrap_i64', hn, hk, decide_false])
    (fun i hi hb => by
      obtain ⟨x, hx, hxb⟩ := get_at r0 hi
      unfold vpB
      by_cases hm : x.1 ∈ ks l i
      · simp (disch := (first | omega | (simp only [List.length_append, List.length_cons, List.length_nil, List.nil_append, List.length_take, List.length_drop]; omega))) only [↓bindO_some, ↓bindO_none, ↓joinO_inl, ↓joinO_inr, ↓joinO_none, ↓outO_some, ↓outO_none, ↓cond_true, ↓cond_false, ↓cond_and, ↓cond_or, ↓cond_not, ↓cond_ite, ↓if_pos, ↓if_neg, ↓if_true, ↓if_false, List.take_length, Nat.le_refl, Bool.not_true, Bool.not_false, if_pos, if_neg, ↓hxb, hm, decide_true]
      · have h1 : ¬ RV x := fun h => hb ⟨by rw [hx]; exact h, fun k hk e => hm (mem_ks.2 ⟨k, hk, by rw [hx] at e; exact e⟩)⟩
        simp (disch := (first | omega | (simp only [List.length_append, List.length_cons, List.length_nil, List.nil_append, List.length_take, List.length_drop]; omega))) only [↓bindO_some, ↓bindO_none, ↓joinO_inl, ↓joinO_inr, ↓joinO_none, ↓outO_some, ↓outO_none, ↓cond_true, ↓cond_false, ↓cond_and, ↓cond_or, ↓cond_not, ↓cond_ite, ↓if_pos, ↓if_neg, ↓if_true, ↓if_false, List.take_length, Nat.le_refl, Bool.not_true, Bool.not_false, if_pos, if_neg, ↓hxb, hm, rate_bf x _ h1, decide_false])
    (by unfold vpB; simp (disch := (first | omega | (simp only [List.length_append, List.length_cons, List.length_nil, List.nil_append, List.length_take, List.length_drop]; omega))) only [↓bindO_some, ↓bindO_none, ↓joinO_inl, ↓joinO_inr, ↓joinO_none, ↓outO_some, ↓outO_none, ↓cond_true, ↓cond_false, ↓cond_and, ↓cond_or, ↓cond_not, ↓cond_ite, ↓if_pos, ↓if_neg, ↓if_true, ↓if_false, List.take_length, Nat.le_refl, Bool.not_true, Bool.not_false, if_pos, if_neg])
  rcases hs with ⟨⟨i, hi, hb⟩, e⟩ | ⟨hn, e⟩
  · exact .inr ⟨fun h => hb (h i hi), e⟩
  · exact .inl ⟨fun i hi => Classical.byContradiction fun h => hn ⟨i, hi, h⟩, _, e⟩
theorem validP_j (l : List Ra) (f : Int) : Is (rating_Valid (l, f)) (TV l f) := by
  rw [validP_eq]
  by_cases h1 : l.length ≤ 1000
  · by_cases h2 : 0 ≤ f ∧ f ≤ 3600
    · simp (disch := (first | omega | (simp only [List.length_append, List.length_cons, List.length_nil, List.nil_append, List.length_take, List.length_drop]; omega))) only [↓bindO_some, ↓bindO_none, ↓joinO_inl, ↓joinO_inr, ↓joinO_none, ↓outO_some, ↓outO_none, ↓cond_true, ↓cond_false, ↓cond_and, ↓cond_or, ↓cond_not, ↓cond_ite, ↓if_pos, ↓if_neg, ↓if_true, ↓if_false, List.take_length, Nat.le_refl, Bool.not_true, Bool.not_false, if_pos, if_neg, within_b, h2, and_self, decide_true]
      rcases vp_loop l h1 with ⟨d, v, e⟩ | ⟨d, e⟩
      · rw [e]; exact Is.t ⟨⟨h1, h2⟩, d⟩
      · rw [e]; exact Is.f fun k => d k.2
    · simp (disch := (first | omega | (simp only [List.length_append, List.length_cons, List.length_nil, List.nil_append, List.length_take, List.length_drop]; omega))) only [↓bindO_some, ↓bindO_none, ↓joinO_inl, ↓joinO_inr, ↓joinO_none, ↓outO_some, ↓outO_none, ↓cond_true, ↓cond_false, ↓cond_and, ↓cond_or, ↓cond_not, ↓cond_ite, ↓if_pos, ↓if_neg, ↓if_true, ↓if_false, List.take_length, Nat.le_refl, Bool.not_true, Bool.not_false, if_pos, if_neg, within_b, h2, decide_false]
      exact Is.f fun k => h2 k.1.2
  · simp (disch := (first | omega | (simp only [List.length_append, List.length_cons, List.length_nil, List.nil_append, List.length_take, List.length_drop]; omega))) only [↓bindO_some, ↓bindO_none, ↓joinO_inl, ↓joinO_inr, ↓joinO_none, ↓outO_some, ↓outO_none, ↓cond_true, ↓cond_false, ↓cond_and, ↓cond_or, ↓cond_not, ↓cond_ite, ↓if_pos, ↓if_neg, ↓if_true, ↓if_false, List.take_length, Nat.le_refl, Bool.not_true, Bool.not_false, if_pos, if_neg]
    exact Is.f fun k => h1 k.1.1
theorem vi_loop (l : List Ra) {i : Nat} (hi : i < l.length) (hl : l.length ≤ 1000) : ((∀ k, k < i → (l.getD k r0).1 ≠ (l.getD i r0).1) ∧ loopO (viB l i) (0 : Int) = some (.inl (i : Int))) ∨ (¬ (∀ k, k < i → (l.getD k r0).1 ≠ (l.getD i r0).1) ∧ loopO (viB l i) (0 : Int) = some (.inr (.inr (.inr false)))) := by
  obtain ⟨y, hy, hyb⟩ := get_at r0 hi
  rcases loop_first (body := viB l i) i (fun k => (l.getD k r0).1 = (l.getD i r0).1) (fun _ => .inr (.inr (.inr false))) (.inl (i : Int))
    (fun k hk hb => by
      obtain ⟨x, hx, hxb⟩ := get_at r0 (show k < l.length by omega)
      rw [hx, hy] at hb
      have hn : ((k : Int) + 1) = ((k + 1 : Nat) : Int) := rfl
      unfold viB
      simp (disch := (first | omega | (simp only [List.length_append, List.length_cons, List.length_nil, List.nil_append, List.length_take, List.length_drop]; omega))) only [↓bindO_some, ↓bindO_none, ↓joinO_inl, ↓joinO_inr, ↓joinO_none, ↓outO_some, ↓outO_none, ↓cond_true, ↓cond_false, ↓cond_and, ↓cond_or, ↓cond_not, ↓cond_ite, ↓if_pos, ↓if_neg, ↓if_true, ↓if_false, List.take_length, Nat.le_refl, Bool.not_true, Bool.not_false, if_pos, if_neg, ↓hxb, ↓hyb, hb, wrap_i64', hn, decide_false])
    (fun k hk hb => by
      obtain ⟨x, hx, hxb⟩ := get_at r0 (show k < l.length by omega)
      rw [hx, hy] at hb
      unfold viB
      simp (disch := (first | omega | (simp only [List.length_append, List.length_cons, List.length_nil, List.nil_append, List.length_take, List.length_drop]; omega))) only [↓bindO_some, ↓bindO_none, ↓joinO_inl, ↓joinO_inr, ↓joinO_none, ↓outO_some, ↓outO_none, ↓cond_true, ↓cond_false, ↓cond_and, ↓cond_or, ↓cond_not, ↓cond_ite, ↓if_pos, ↓if_neg, ↓if_true, ↓if_false, List.take_length, Nat.le_refl, Bool.not_true, Bool.not_false, if_pos, if_neg, ↓hxb, ↓hyb, hb, decide_true])
    (by unfold viB; simp (disch := (first | omega | (simp only [List.length_append, List.length_cons, List.length_nil, List.nil_append, List.length_take, List.length_drop]; omega))) only [↓bindO_some, ↓bindO_none, ↓joinO_inl, ↓joinO_inr, ↓joinO_none, ↓outO_some, ↓outO_none, ↓cond_true, ↓cond_false, ↓cond_and, ↓cond_or, ↓cond_not, ↓cond_ite, ↓if_pos, ↓if_neg, ↓if_true, ↓if_false, List.take_length, Nat.le_refl, Bool.not_true, Bool.not_false, if_pos, if_neg]) with ⟨k, h1, h2, _, e⟩ | ⟨h, e⟩
  · exact .inr ⟨fun g => g k h1 h2, e⟩
  · exact .inl ⟨h, e⟩
theorem vr_loop (l : List Ra) (hl : l.length ≤ 1000) : ((∀ i, i < l.length → Rok l i) ∧ loopO (vrB l) (0 : Int) = some (.inl ())) ∨ (¬ (∀ i, i < l.length → Rok l i) ∧ loopO (vrB l) (0 : Int) = some (.inr false)) := by
  refine loop_all (body := vrB l) l.length (Rok l) (fun i hi hb => ?_) (fun i hi hb => ?_) ?_
  · obtain ⟨h1, h2⟩ := hb
    obtain ⟨x, hx, hxb⟩ := get_at r0 hi
    rw [hx] at h1
    have hn : ((i : Int) + 1) = ((i + 1 : Nat) : Int) := rfl
    rcases vi_loop l hi hl with ⟨_, e⟩ | ⟨k, _⟩
    · unfold vrB
      simp (disch := (first | omega | (simp only [List.length_append, List.length_cons, List.length_nil, List.nil_append, List.length_take, List.length_drop]; omega))) only [↓bindO_some, ↓bindO_none, ↓joinO_inl, ↓joinO_inr, ↓joinO_none, ↓outO_some, ↓outO_none, ↓cond_true, ↓cond_false, ↓cond_and, ↓cond_or, ↓cond_not, ↓cond_ite, ↓if_pos, ↓if_neg, ↓if_true, ↓if_false, List.take_length, Nat.le_refl, Bool.not_true, Bool.not_false, if_pos, if_neg, ↓hxb, rate_same, rate_b x (P := True) _ h1, e, wrap_i64', hn]
    · exact (k h2).elim
  · obtain ⟨x, hx, hxb⟩ := get_at r0 hi
    by_cases h1 : RV x
    · have h2 : ¬ ∀ k, k < i → (l.getD k r0).1 ≠ (l.getD i r0).1 := fun k => hb ⟨by rw [hx]; exact h1, k⟩
      rcases vi_loop l hi hl with ⟨k, _⟩ | ⟨_, e⟩
      · exact (h2 k).elim
      · unfold vrB
        simp (disch := (first | omega | (simp only [List.length_append, List.length_cons, List.length_nil, List.nil_append, List.length_take, List.length_drop]; omega))) only [↓bindO_some, ↓bindO_none, ↓joinO_inl, ↓joinO_inr, ↓joinO_none, ↓outO_some, ↓outO_none, ↓cond_true, ↓cond_false, ↓cond_and, ↓cond_or, ↓cond_not, ↓cond_ite, ↓if_pos, ↓if_neg, ↓if_true, ↓if_false, List.take_length, Nat.le_refl, Bool.not_true, Bool.not_false, if_pos, if_neg, ↓hxb, rate_same, rate_b x (P := True) _ h1, e]
    · unfold vrB
      simp (disch := (first | omega | (simp only [List.length_append, List.length_cons, List.length_nil, List.nil_append, List.length_take, List.length_drop]; omega))) only [↓bindO_some, ↓bindO_none, ↓joinO_inl, ↓joinO_inr, ↓joinO_none, ↓outO_some, ↓outO_none, ↓cond_true, ↓cond_false, ↓cond_and, ↓cond_or, ↓cond_not, ↓cond_ite, ↓if_pos, ↓if_neg, ↓if_true, ↓if_false, List.take_length, Nat.le_refl, Bool.not_true, Bool.not_false, if_pos, if_neg, ↓hxb, rate_same, rate_bf x _ h1]
  · unfold vrB
    simp (disch := (first | omega | (simp only [List.length_append, List.length_cons, List.length_nil, List.nil_append, List.length_take, List.length_drop]; omega))) only [↓bindO_some, ↓bindO_none, ↓joinO_inl, ↓joinO_inr, ↓joinO_none, ↓outO_some, ↓outO_none, ↓cond_true, ↓cond_false, ↓cond_and, ↓cond_or, ↓cond_not, ↓cond_ite, ↓if_pos, ↓if_neg, ↓if_true, ↓if_false, List.take_length, Nat.le_refl, Bool.not_true, Bool.not_false, if_pos, if_neg]
theorem validR_j (l : List Ra) (f : Int) : Is (dialtoneref37_Valid (l, f)) (TV l f) := by
  rw [validR_eq]
  refine Is.and _ ?_
  by_cases h1 : l.length ≤ 1000
  · by_cases h2 : 0 ≤ f
    · by_cases h3 : f ≤ 3600
      · refine .inl ⟨⟨h1, h2, h3⟩, (), by simp (disch := (first | omega | (simp only [List.length_append, List.length_cons, List.length_nil, List.nil_append, List.length_take, List.length_drop]; omega))) only [↓bindO_some, ↓bindO_none, ↓joinO_inl, ↓joinO_inr, ↓joinO_none, ↓outO_some, ↓outO_none, ↓cond_true, ↓cond_false, ↓cond_and, ↓cond_or, ↓cond_not, ↓cond_ite, ↓if_pos, ↓if_neg, ↓if_true, ↓if_false, List.take_length, Nat.le_refl, Bool.not_true, Bool.not_false, if_pos, if_neg], ?_⟩
        rcases vr_loop l h1 with ⟨d, e⟩ | ⟨d, e⟩
        · rw [e]; exact Is.t d
        · rw [e]; exact Is.f d
      · exact .inr ⟨fun k => h3 k.2.2, by simp (disch := (first | omega | (simp only [List.length_append, List.length_cons, List.length_nil, List.nil_append, List.length_take, List.length_drop]; omega))) only [↓bindO_some, ↓bindO_none, ↓joinO_inl, ↓joinO_inr, ↓joinO_none, ↓outO_some, ↓outO_none, ↓cond_true, ↓cond_false, ↓cond_and, ↓cond_or, ↓cond_not, ↓cond_ite, ↓if_pos, ↓if_neg, ↓if_true, ↓if_false, List.take_length, Nat.le_refl, Bool.not_true, Bool.not_false, if_pos, if_neg]⟩
    · exact .inr ⟨fun k => h2 k.2.1, by simp (disch := (first | omega | (simp only [List.length_append, List.length_cons, List.length_nil, List.nil_append, List.length_take, List.length_drop]; omega))) only [↓bindO_some, ↓bindO_none, ↓joinO_inl, ↓joinO_inr, ↓joinO_none, ↓outO_some, ↓outO_none, ↓cond_true, ↓cond_false, ↓cond_and, ↓cond_or, ↓cond_not, ↓cond_ite, ↓if_pos, ↓if_neg, ↓if_true, ↓if_false, List.take_length, Nat.le_refl, Bool.not_true, Bool.not_false, if_pos, if_neg]⟩
  · exact .inr ⟨fun k => h1 k.1, by simp (disch := (first | omega | (simp only [List.length_append, List.length_cons, List.length_nil, List.nil_append, List.length_take, List.length_drop]; omega))) only [↓bindO_some, ↓bindO_none, ↓joinO_inl, ↓joinO_inr, ↓joinO_none, ↓outO_some, ↓outO_none, ↓cond_true, ↓cond_false, ↓cond_and, ↓cond_or, ↓cond_not, ↓cond_ite, ↓if_pos, ↓if_neg, ↓if_true, ↓if_false, List.take_length, Nat.le_refl, Bool.not_true, Bool.not_false, if_pos, if_neg]⟩
theorem valid_same (l : List Ra) (f : Int) : dialtoneref37_Valid (l, f) = rating_Valid (l, f) := (validR_j l f).eq (validP_j l f)
/-- The number begins with the prefix. -/
abbrev Bg (num p : List UInt8) : Prop := p.length ≤ num.length ∧ num.take p.length = p
theorem begR_b {β : Type} (num p : List UInt8) (f : Bool → Option β) : bindO (dialtoneref37_Begins (num, p)) f = f (decide (Bg num p)) := by
  have e : dialtoneref37_Begins (num, p) = some (decide (Bg num p)) := by
    unfold dialtoneref37_Begins
    by_cases h : p.length ≤ num.length
    · simp (disch := omega) only [↓bindO_some, ↓bindO_none, ↓joinO_inl, ↓joinO_inr, ↓joinO_none, ↓outO_some, ↓outO_none, ↓cond_true, ↓cond_false, ↓cond_and, ↓cond_or, ↓cond_not, ↓cond_ite, ↓if_pos, ↓if_neg, ↓if_true, ↓if_false, List.take_length, Nat.le_refl, Bool.not_true, Bool.not_false, if_pos, if_neg, Int.toNat_natCast, Bg, h, true_and]
    · simp (disch := omega) only [↓bindO_some, ↓bindO_none, ↓joinO_inl, ↓joinO_inr, ↓joinO_none, ↓outO_some, ↓outO_none, ↓cond_true, ↓cond_false, ↓cond_and, ↓cond_or, ↓cond_not, ↓cond_ite, ↓if_pos, ↓if_neg, ↓if_true, ↓if_false, List.take_length, Nat.le_refl, Bool.not_true, Bool.not_false, if_pos, if_neg, Bg, h, false_and, decide_false]
  rw [e]; rfl
theorem begP_b {β : Type} (num p : List UInt8) (f : Bool → Option β) : bindO (strings_HasPrefix (num, p)) f = f (decide (Bg num p)) := by
  have e : strings_HasPrefix (num, p) = some (decide (Bg num p)) := by
    unfold strings_HasPrefix
    by_cases h : p.length ≤ num.length
    · simp (disch := omega) only [↓bindO_some, ↓bindO_none, ↓joinO_inl, ↓joinO_inr, ↓joinO_none, ↓outO_some, ↓outO_none, ↓cond_true, ↓cond_false, ↓cond_and, ↓cond_or, ↓cond_not, ↓cond_ite, ↓if_pos, ↓if_neg, ↓if_true, ↓if_false, List.take_length, Nat.le_refl, Bool.not_true, Bool.not_false, if_pos, if_neg, Int.toNat_natCast, Bg, h, true_and]
    · simp (disch := omega) only [↓bindO_some, ↓bindO_none, ↓joinO_inl, ↓joinO_inr, ↓joinO_none, ↓outO_some, ↓outO_none, ↓cond_true, ↓cond_false, ↓cond_and, ↓cond_or, ↓cond_not, ↓cond_ite, ↓if_pos, ↓if_neg, ↓if_true, ↓if_false, List.take_length, Nat.le_refl, Bool.not_true, Bool.not_false, if_pos, if_neg, Bg, h, false_and, decide_false]
  rw [e]; rfl
abbrev Mt (l : List Ra) (num : List UInt8) (i : Nat) : Prop := Bg num (l.getD i r0).1
def FB (l : List Ra) (num : List UInt8) (n : Nat) (x : Int) : Prop := (x = -1 ∧ ∀ j, j < n → ¬ Mt l num j) ∨ ∃ i : Nat, i < n ∧ x = (i : Int) ∧ Mt l num i ∧ ∀ j, j < n → Mt l num j → (l.getD j r0).1.length ≤ (l.getD i r0).1.length
theorem fp_loop (l : List Ra) (num : List UInt8) (hl : l.length ≤ 1000) : ∃ r, loopO (fpB l num) ((0 : Int), (-1 : Int)) = some r ∧ ∃ x, r = .inl x ∧ FB l num l.length x := by
  refine loopO_post (fun s => ∃ (k : Nat) (x : Int), s = ((k : Int), x) ∧ k ≤ l.length ∧ FB l num k x) _ (fun s => l.length - s.1.toNat) (fun s hs => ?_) ⟨0, -1, rfl, by omega, .inl ⟨rfl, fun j hj => by omega⟩⟩
  obtain ⟨k, x, rfl, hk, hF⟩ := hs
  by_cases ck : k < l.length
  · refine .inr ?_
    obtain ⟨y, hy, hyb⟩ := get_at r0 ck
    have hn : ((k : Int) + 1) = ((k + 1 : Nat) : Int) := rfl
    have hlt : l.length - (((k + 1 : Nat) : Int)).toNat < l.length - ((k : Nat) : Int).toNat := by rw [Int.toNat_natCast, Int.toNat_natCast]; omega
    by_cases hm : Bg num y.1
    · have hmk : Mt l num k := by unfold Mt; rw [hy]; exact hm
      rcases hF with ⟨rfl, hno⟩ | ⟨i, hi, rfl, hmi, hmax⟩
      · refine ⟨(((k + 1 : Nat) : Int), (k : Int)), ?_, ⟨k + 1, _, rfl, by omega, .inr ⟨k, by omega, rfl, hmk, fun j hj hmj => ?_⟩⟩, hlt⟩
        · unfold fpB
          simp (disch := (first | omega | (simp only [List.length_append, List.length_cons, List.length_nil, List.nil_append, List.length_take, List.length_drop]; omega))) only [↓bindO_some, ↓bindO_none, ↓joinO_inl, ↓joinO_inr, ↓joinO_none, ↓outO_some, ↓outO_none, ↓cond_true, ↓cond_false, ↓cond_and, ↓cond_or, ↓cond_not, ↓cond_ite, ↓if_pos, ↓if_neg, ↓if_true, ↓if_false, List.take_length, Nat.le_refl, Bool.not_true, Bool.not_false, if_pos, if_neg, ↓hyb, begP_b, hm, wrap_i64', hn, decide_true]
        · by_cases e : j = k
          · subst e; exact Nat.le_refl _
          · exact (hno j (by omega) hmj).elim
      · obtain ⟨z, hz, hzb⟩ := get_at r0 (show i < l.length by omega)
        by_cases hg : z.1.length < y.1.length
        · refine ⟨(((k + 1 : Nat) : Int), (k : Int)), ?_, ⟨k + 1, _, rfl, by omega, .inr ⟨k, by omega, rfl, hmk, fun j hj hmj => ?_⟩⟩, hlt⟩
          · unfold fpB
            simp (disch := (first | omega | (simp only [List.length_append, List.length_cons, List.length_nil, List.nil_append, List.length_take, List.length_drop]; omega))) only [↓bindO_some, ↓bindO_none, ↓joinO_inl, ↓joinO_inr, ↓joinO_none, ↓outO_some, ↓outO_none, ↓cond_true, ↓cond_false, ↓cond_and, ↓cond_or, ↓cond_not, ↓cond_ite, ↓if_pos, ↓if_neg, ↓if_true, ↓if_false, List.take_length, Nat.le_refl, Bool.not_true, Bool.not_false, if_pos, if_neg, ↓hyb, ↓hzb, begP_b, hm, wrap_i64', hn, decide_true]
          · by_cases e : j = k
            · subst e; exact Nat.le_refl _
            · have := hmax j (by omega) hmj
              rw [hz] at this
              rw [hy]; omega
        · refine ⟨(((k + 1 : Nat) : Int), (i : Int)), ?_, ⟨k + 1, _, rfl, by omega, .inr ⟨i, by omega, rfl, hmi, fun j hj hmj => ?_⟩⟩, hlt⟩
          · unfold fpB
            simp (disch := (first | omega | (simp only [List.length_append, List.length_cons, List.length_nil, List.nil_append, List.length_take, List.length_drop]; omega))) only [↓bindO_some, ↓bindO_none, ↓joinO_inl, ↓joinO_inr, ↓joinO_none, ↓outO_some, ↓outO_none, ↓cond_true, ↓cond_false, ↓cond_and, ↓cond_or, ↓cond_not, ↓cond_ite, ↓if_pos, ↓if_neg, ↓if_true, ↓if_false, List.take_length, Nat.le_refl, Bool.not_true, Bool.not_false, if_pos, if_neg, ↓hyb, ↓hzb, begP_b, hm, wrap_i64', hn, decide_true]
          · by_cases e : j = k
            · subst e; rw [hy, hz]; omega
            · exact hmax j (by omega) hmj
    · have hmk : ¬ Mt l num k := by unfold Mt; rw [hy]; exact hm
      refine ⟨(((k + 1 : Nat) : Int), x), ?_, ⟨k + 1, _, rfl, by omega, ?_⟩, hlt⟩
      · unfold fpB
        simp (disch := (first | omega | (simp only [List.length_append, List.length_cons, List.length_nil, List.nil_append, List.length_take, List.length_drop]; omega))) only [↓bindO_some, ↓bindO_none, ↓joinO_inl, ↓joinO_inr, ↓joinO_none, ↓outO_some, ↓outO_none, ↓cond_true, ↓cond_false, ↓cond_and, ↓cond_or, ↓cond_not, ↓cond_ite, ↓if_pos, ↓if_neg, ↓if_true, ↓if_false, List.take_length, Nat.le_refl, Bool.not_true, Bool.not_false, if_pos, if_neg, ↓hyb, begP_b, hm, wrap_i64', hn, decide_false]
      · rcases hF with ⟨rfl, hno⟩ | ⟨i, hi, rfl, hmi, hmax⟩
        · refine .inl ⟨rfl, fun j hj hmj => ?_⟩
          by_cases e : j = k
          · subst e; exact hmk hmj
          · exact hno j (by omega) hmj
        · refine .inr ⟨i, by omega, rfl, hmi, fun j hj hmj => ?_⟩
          by_cases e : j = k
          · subst e; exact (hmk hmj).elim
          · exact hmax j (by omega) hmj
  · obtain rfl : k = l.length := by omega
    refine .inl ⟨.inl x, ?_, x, rfl, hF⟩
    unfold fpB
    simp (disch := (first | omega | (simp only [List.length_append, List.length_cons, List.length_nil, List.nil_append, List.length_take, List.length_drop]; omega))) only [↓bindO_some, ↓bindO_none, ↓joinO_inl, ↓joinO_inr, ↓joinO_none, ↓outO_some, ↓outO_none, ↓cond_true, ↓cond_false, ↓cond_and, ↓cond_or, ↓cond_not, ↓cond_ite, ↓if_pos, ↓if_neg, ↓if_true, ↓if_false, List.take_length, Nat.le_refl, Bool.not_true, Bool.not_false, if_pos, if_neg]
/-- What Find answers of a valid tariff. -/
def FX (l : List Ra) (num : List UInt8) (r : Int × Bool) : Prop := (r = (0, false) ∧ ∀ j, j < l.length → ¬ Mt l num j) ∨ ∃ i : Nat, i < l.length ∧ r = ((i : Int), true) ∧ Mt l num i ∧ ∀ j, j < l.length → Mt l num j → (l.getD j r0).1.length ≤ (l.getD i r0).1.length
theorem FX.uniq {l : List Ra} {num : List UInt8} {f : Int} (hv : TV l f) {r r' : Int × Bool} (h : FX l num r) (h' : FX l num r') : r = r' := by
  rcases h with ⟨rfl, h⟩ | ⟨i, hi, rfl, hm, hx⟩ <;> rcases h' with ⟨rfl, h'⟩ | ⟨i', hi', rfl, hm', hx'⟩
  · rfl
  · exact (h i' hi' hm').elim
  · exact (h' i hi hm).elim
  · have e1 := hx i' hi' hm'
    have e2 := hx' i hi hm
    have e3 : (l.getD i r0).1 = (l.getD i' r0).1 := by
      rw [← hm.2, ← hm'.2, show (l.getD i r0).1.length = (l.getD i' r0).1.length from by omega]
    have : i = i' := by
      rcases Nat.lt_trichotomy i i' with k | k | k
      · exact ((hv.2 i' hi').2 i k e3).elim
      · exact k
      · exact ((hv.2 i hi).2 i' k e3.symm).elim
    rw [this]
theorem findP_j {l : List Ra} {f : Int} (num : List UInt8) (hv : TV l f) : ∃ r, rating_Find ((l, f), num) = some r ∧ FX l num r := by
  rw [findP_eq]
  have e : rating_Valid (l, f) = some true := by
    rcases validP_j l f with ⟨_, e⟩ | ⟨k, _⟩
    · exact e
    · exact (k hv).elim
  obtain ⟨r, hr, x, rfl, hF⟩ := fp_loop l num hv.1.1
  simp only [e, ↓bindO_some, ↓bindO_none, ↓joinO_inl, ↓joinO_inr, ↓joinO_none, ↓outO_some, ↓outO_none, ↓cond_true, ↓cond_false, ↓cond_and, ↓cond_or, ↓cond_not, ↓cond_ite, ↓if_pos, ↓if_neg, ↓if_true, ↓if_false, List.take_length, Nat.le_refl, Bool.not_true, Bool.not_false, hr]
  rcases hF with ⟨rfl, h⟩ | ⟨i, hi, rfl, hm, hx⟩
  · exact ⟨(0, false), by simp (disch := omega) only [↓bindO_some, ↓bindO_none, ↓joinO_inl, ↓joinO_inr, ↓joinO_none, ↓outO_some, ↓outO_none, ↓cond_true, ↓cond_false, ↓cond_and, ↓cond_or, ↓cond_not, ↓cond_ite, ↓if_pos, ↓if_neg, ↓if_true, ↓if_false, List.take_length, Nat.le_refl, Bool.not_true, Bool.not_false, if_pos], .inl ⟨rfl, h⟩⟩
  · exact ⟨((i : Int), true), by simp (disch := omega) only [↓bindO_some, ↓bindO_none, ↓joinO_inl, ↓joinO_inr, ↓joinO_none, ↓outO_some, ↓outO_none, ↓cond_true, ↓cond_false, ↓cond_and, ↓cond_or, ↓cond_not, ↓cond_ite, ↓if_pos, ↓if_neg, ↓if_true, ↓if_false, List.take_length, Nat.le_refl, Bool.not_true, Bool.not_false, if_neg], .inr ⟨i, hi, rfl, hm, hx⟩⟩
theorem find_bad {l : List Ra} {f : Int} (num : List UInt8) (hv : ¬ TV l f) : rating_Find ((l, f), num) = some (0, false) ∧ dialtoneref37_Find ((l, f), num) = some (0, false) := by
  have e : rating_Valid (l, f) = some false := by
    rcases validP_j l f with ⟨k, _⟩ | ⟨_, e⟩
    · exact (hv k).elim
    · exact e
  rw [findP_eq, findR_eq, valid_same, e]
  exact ⟨rfl, rfl⟩
theorem fi_loop (l : List Ra) (num : List UInt8) (v : Int) (hl : l.length ≤ 1000) : (∃ i : Nat, i < l.length ∧ (((l.getD i r0).1.length : Int) = v ∧ Mt l num i) ∧ loopO (fiB l num v) (0 : Int) = some (.inr (.inr (.inr ((i : Int), true))))) ∨ ((∀ i, i < l.length → ¬ (((l.getD i r0).1.length : Int) = v ∧ Mt l num i)) ∧ loopO (fiB l num v) (0 : Int) = some (.inl (l.length : Int))) := by
  rcases loop_first (body := fiB l num v) l.length (fun k => ((l.getD k r0).1.length : Int) = v ∧ Mt l num k) (fun i => .inr (.inr (.inr ((i : Int), true)))) (.inl (l.length : Int))
    (fun k hk hb => by
      obtain ⟨x, hx, hxb⟩ := get_at r0 hk
      unfold Mt at hb
      rw [hx] at hb
      have hn : ((k : Int) + 1) = ((k + 1 : Nat) : Int) := rfl
      unfold fiB
      by_cases h1 : (x.1.length : Int) = v
      · have h2 : ¬ Bg num x.1 := fun k => hb ⟨h1, k⟩
        simp (disch := (first | omega | (simp only [List.length_append, List.length_cons, List.length_nil, List.nil_append, List.length_take, List.length_drop]; omega))) only [↓bindO_some, ↓bindO_none, ↓joinO_inl, ↓joinO_inr, ↓joinO_none, ↓outO_some, ↓outO_none, ↓cond_true, ↓cond_false, ↓cond_and, ↓cond_or, ↓cond_not, ↓cond_ite, ↓if_pos, ↓if_neg, ↓if_true, ↓if_false, List.take_length, Nat.le_refl, Bool.not_true, Bool.not_false, if_pos, if_neg, ↓hxb, begR_b, h2, wrap_i64', hn, decide_false]
      · simp (disch := (first | omega | (simp only [List.length_append, List.length_cons, List.length_nil, List.nil_append, List.length_take, List.length_drop]; omega))) only [↓bindO_some, ↓bindO_none, ↓joinO_inl, ↓joinO_inr, ↓joinO_none, ↓outO_some, ↓outO_none, ↓cond_true, ↓cond_false, ↓cond_and, ↓cond_or, ↓cond_not, ↓cond_ite, ↓if_pos, ↓if_neg, ↓if_true, ↓if_false, List.take_length, Nat.le_refl, Bool.not_true, Bool.not_false, if_pos, if_neg, ↓hxb, wrap_i64', hn])
    (fun k hk hb => by
      obtain ⟨x, hx, hxb⟩ := get_at r0 hk
      unfold Mt at hb
      rw [hx] at hb
      obtain ⟨h1, h2⟩ := hb
      unfold fiB
      simp (disch := (first | omega | (simp only [List.length_append, List.length_cons, List.length_nil, List.nil_append, List.length_take, List.length_drop]; omega))) only [↓bindO_some, ↓bindO_none, ↓joinO_inl, ↓joinO_inr, ↓joinO_none, ↓outO_some, ↓outO_none, ↓cond_true, ↓cond_false, ↓cond_and, ↓cond_or, ↓cond_not, ↓cond_ite, ↓if_pos, ↓if_neg, ↓if_true, ↓if_false, List.take_length, Nat.le_refl, Bool.not_true, Bool.not_false, if_pos, if_neg, ↓hxb, begR_b, h2, decide_true])
    (by unfold fiB; simp (disch := (first | omega | (simp only [List.length_append, List.length_cons, List.length_nil, List.nil_append, List.length_take, List.length_drop]; omega))) only [↓bindO_some, ↓bindO_none, ↓joinO_inl, ↓joinO_inr, ↓joinO_none, ↓outO_some, ↓outO_none, ↓cond_true, ↓cond_false, ↓cond_and, ↓cond_or, ↓cond_not, ↓cond_ite, ↓if_pos, ↓if_neg, ↓if_true, ↓if_false, List.take_length, Nat.le_refl, Bool.not_true, Bool.not_false, if_pos, if_neg]) with ⟨k, h1, h2, _, e⟩ | ⟨h, e⟩
  · exact .inl ⟨k, h1, h2, e⟩
  · exact .inr ⟨h, e⟩
theorem findR_j {l : List Ra} {f : Int} (num : List UInt8) (hv : TV l f) : ∃ r, dialtoneref37_Find ((l, f), num) = some r ∧ FX l num r := by
  rw [findR_eq]
  have e : dialtoneref37_Valid (l, f) = some true := by
    rcases validR_j l f with ⟨_, e⟩ | ⟨k, _⟩
    · exact e
    · exact (k hv).elim
  simp only [e, ↓bindO_some, ↓bindO_none, ↓joinO_inl, ↓joinO_inr, ↓joinO_none, ↓outO_some, ↓outO_none, ↓cond_true, ↓cond_false, ↓cond_and, ↓cond_or, ↓cond_not, ↓cond_ite, ↓if_pos, ↓if_neg, ↓if_true, ↓if_false, List.take_length, Nat.le_refl, Bool.not_true, Bool.not_false]
  refine loopO_postG (I := fun v => -1 ≤ v ∧ v ≤ 20 ∧ ∀ j, j < l.length → Mt l num j → ((l.getD j r0).1.length : Int) ≤ v) (fun v => (v + 1).toNat) (fun o => ∃ r, o = some r ∧ FX l num r) (fun v hI => ?_) ⟨by decide, by decide, fun j hj _ => ?_⟩
  · obtain ⟨h1, h2, h3⟩ := hI
    unfold frB
    by_cases c : 0 ≤ v
    · rcases fi_loop l num v hv.1.1 with ⟨i, hi, ⟨k1, k2⟩, e⟩ | ⟨hno, e⟩
      · simp (disch := omega) only [↓bindO_some, ↓bindO_none, ↓joinO_inl, ↓joinO_inr, ↓joinO_none, ↓outO_some, ↓outO_none, ↓cond_true, ↓cond_false, ↓cond_and, ↓cond_or, ↓cond_not, ↓cond_ite, ↓if_pos, ↓if_neg, ↓if_true, ↓if_false, List.take_length, Nat.le_refl, Bool.not_true, Bool.not_false, if_pos, e]
        exact PostS.stop ⟨_, rfl, .inr ⟨i, hi, rfl, k2, fun j hj hm => by have := h3 j hj hm; omega⟩⟩
      · simp (disch := omega) only [↓bindO_some, ↓bindO_none, ↓joinO_inl, ↓joinO_inr, ↓joinO_none, ↓outO_some, ↓outO_none, ↓cond_true, ↓cond_false, ↓cond_and, ↓cond_or, ↓cond_not, ↓cond_ite, ↓if_pos, ↓if_neg, ↓if_true, ↓if_false, List.take_length, Nat.le_refl, Bool.not_true, Bool.not_false, if_pos, e, wrap_i64']
        refine PostS.next ⟨by omega, by omega, fun j hj hm => ?_⟩ (by omega)
        have k1 := h3 j hj hm
        have k2 := hno j hj
        have k3 : ¬ (((l.getD j r0).1.length : Int) = v) := fun k => k2 ⟨k, hm⟩
        omega
    · simp (disch := omega) only [↓bindO_some, ↓bindO_none, ↓joinO_inl, ↓joinO_inr, ↓joinO_none, ↓outO_some, ↓outO_none, ↓cond_true, ↓cond_false, ↓cond_and, ↓cond_or, ↓cond_not, ↓cond_ite, ↓if_pos, ↓if_neg, ↓if_true, ↓if_false, List.take_length, Nat.le_refl, Bool.not_true, Bool.not_false, if_neg]
      exact PostS.stop ⟨_, rfl, .inl ⟨rfl, fun j hj hm => by have := h3 j hj hm; omega⟩⟩
  · have := (hv.2 j hj).1.1.1
    omega
theorem find_same (l : List Ra) (f : Int) (num : List UInt8) : ∃ r, rating_Find ((l, f), num) = some r ∧ dialtoneref37_Find ((l, f), num) = some r ∧ (TV l f → FX l num r) ∧ (¬ TV l f → r = (0, false)) := by
  by_cases h : TV l f
  · obtain ⟨r, e1, k1⟩ := findP_j num h
    obtain ⟨r', e2, k2⟩ := findR_j num h
    rw [k2.uniq h k1] at e2
    exact ⟨r, e1, e2, fun _ => k1, fun k => (k h).elim⟩
  · obtain ⟨e1, e2⟩ := find_bad num h
    exact ⟨_, e1, e2, fun k => (h k).elim, fun _ => rfl⟩
theorem few_j (l : List Ra) (f : Int) : ∃ b, dialtonelaw37_few (l, f) = some b := by
  rw [few_eq]
  by_cases h : l.length ≤ 1100
  · simp (disch := (first | omega | (simp only [List.length_append, List.length_cons, List.length_nil, List.nil_append, List.length_take, List.length_drop]; omega))) only [↓bindO_some, ↓bindO_none, ↓joinO_inl, ↓joinO_inr, ↓joinO_none, ↓outO_some, ↓outO_none, ↓cond_true, ↓cond_false, ↓cond_and, ↓cond_or, ↓cond_not, ↓cond_ite, ↓if_pos, ↓if_neg, ↓if_true, ↓if_false, List.take_length, Nat.le_refl, Bool.not_true, Bool.not_false, if_neg]
    rcases loop_all (body := fwB l) l.length (fun i => (l.getD i r0).2.2.2.2.length ≤ 40 ∧ (l.getD i r0).1.length ≤ 100)
      (fun i hi hb => by
        obtain ⟨x, hx, hxb⟩ := get_at r0 hi
        rw [hx] at hb
        have hn : ((i : Int) + 1) = ((i + 1 : Nat) : Int) := rfl
        unfold fwB
        simp (disch := (first | omega | (simp only [List.length_append, List.length_cons, List.length_nil, List.nil_append, List.length_take, List.length_drop]; omega))) only [↓bindO_some, ↓bindO_none, ↓joinO_inl, ↓joinO_inr, ↓joinO_none, ↓outO_some, ↓outO_none, ↓cond_true, ↓cond_false, ↓cond_and, ↓cond_or, ↓cond_not, ↓cond_ite, ↓if_pos, ↓if_neg, ↓if_true, ↓if_false, List.take_length, Nat.le_refl, Bool.not_true, Bool.not_false, if_pos, if_neg, ↓hxb, wrap_i64', hn])
      (fun i hi hb => by
        obtain ⟨x, hx, hxb⟩ := get_at r0 hi
        rw [hx] at hb
        unfold fwB
        by_cases h1 : x.2.2.2.2.length ≤ 40
        · simp (disch := (first | omega | (simp only [List.length_append, List.length_cons, List.length_nil, List.nil_append, List.length_take, List.length_drop]; omega))) only [↓bindO_some, ↓bindO_none, ↓joinO_inl, ↓joinO_inr, ↓joinO_none, ↓outO_some, ↓outO_none, ↓cond_true, ↓cond_false, ↓cond_and, ↓cond_or, ↓cond_not, ↓cond_ite, ↓if_pos, ↓if_neg, ↓if_true, ↓if_false, List.take_length, Nat.le_refl, Bool.not_true, Bool.not_false, if_pos, if_neg, ↓hxb]
        · simp (disch := (first | omega | (simp only [List.length_append, List.length_cons, List.length_nil, List.nil_append, List.length_take, List.length_drop]; omega))) only [↓bindO_some, ↓bindO_none, ↓joinO_inl, ↓joinO_inr, ↓joinO_none, ↓outO_some, ↓outO_none, ↓cond_true, ↓cond_false, ↓cond_and, ↓cond_or, ↓cond_not, ↓cond_ite, ↓if_pos, ↓if_neg, ↓if_true, ↓if_false, List.take_length, Nat.le_refl, Bool.not_true, Bool.not_false, if_pos, if_neg, ↓hxb])
      (by unfold fwB; simp (disch := (first | omega | (simp only [List.length_append, List.length_cons, List.length_nil, List.nil_append, List.length_take, List.length_drop]; omega))) only [↓bindO_some, ↓bindO_none, ↓joinO_inl, ↓joinO_inr, ↓joinO_none, ↓outO_some, ↓outO_none, ↓cond_true, ↓cond_false, ↓cond_and, ↓cond_or, ↓cond_not, ↓cond_ite, ↓if_pos, ↓if_neg, ↓if_true, ↓if_false, List.take_length, Nat.le_refl, Bool.not_true, Bool.not_false, if_pos, if_neg]) with ⟨_, e⟩ | ⟨_, e⟩
    · rw [e]; exact ⟨_, rfl⟩
    · rw [e]; exact ⟨_, rfl⟩
  · simp (disch := (first | omega | (simp only [List.length_append, List.length_cons, List.length_nil, List.nil_append, List.length_take, List.length_drop]; omega))) only [↓bindO_some, ↓bindO_none, ↓joinO_inl, ↓joinO_inr, ↓joinO_none, ↓outO_some, ↓outO_none, ↓cond_true, ↓cond_false, ↓cond_and, ↓cond_or, ↓cond_not, ↓cond_ite, ↓if_pos, ↓if_neg, ↓if_true, ↓if_false, List.take_length, Nat.le_refl, Bool.not_true, Bool.not_false, if_pos]
    exact ⟨_, rfl⟩
end Go.Proofs.Ytbckoncbimljeaa
