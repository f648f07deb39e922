/- Chapter 37, plain: valid rates and tariffs. -/
import Derived.Test.YtbckoncbimljeaaR7
set_option linter.unusedVariables false
set_option linter.unusedSimpArgs false
set_option maxRecDepth 100000
namespace Go.Proofs.Ytbckoncbimljeaa
open Go.RowKit

theorem get_bz {α β : Type} {l : List α} {v : Int} (d : α) (f : α → Option β) (h : 0 ≤ v ∧ v < (l.length : Int)) : bindO l[Int.toNat v]? f = f (l.getD v.toNat d) := by rw [get_D' d (by omega)]; rfl
theorem get_at {α : Type} {l : List α} {i : Nat} (d : α) (h : i < l.length) : ∃ x, l.getD i d = x ∧ ∀ {β : Type} (f : α → Option β), bindO l[Int.toNat (i : Int)]? f = f x := ⟨_, rfl, fun f => get_bz d f (by omega)⟩
/-- What is so is said. -/
def Is (o : Option Bool) (P : Prop) : Prop := (P ∧ o = some true) ∨ (¬ P ∧ o = some false)
theorem Is.t {P : Prop} (h : P) : Is (some true) P := .inl ⟨h, rfl⟩
theorem Is.f {P : Prop} (h : ¬ P) : Is (some false) P := .inr ⟨h, rfl⟩
theorem Is.d {P Q : Prop} [Decidable Q] (h : Q ↔ P) : Is (some (decide Q)) P := by
  by_cases k : Q
  · exact .inl ⟨h.1 k, by rw [decide_eq_true k]⟩
  · exact .inr ⟨fun p => k (h.2 p), by rw [decide_eq_false k]⟩
theorem Is.eq {o o' : Option Bool} {P : Prop} (h : Is o P) (k : Is o' P) : o = o' := by
  rcases h with ⟨h, e⟩ | ⟨h, e⟩ <;> rcases k with ⟨k, e'⟩ | ⟨k, e'⟩
  · rw [e, e']
  · exact (k h).elim
  · exact (h k).elim
  · rw [e, e']
/-- One more condition, as the program asks it. -/
theorem Is.and {γ : Type} {k : γ → Option Bool} {P Q : Prop} (x : Option (γ ⊕ Bool)) (h : (P ∧ ∃ g, x = some (.inl g) ∧ Is (k g) Q) ∨ (¬ P ∧ x = some (.inr false))) : Is (joinO x k) (P ∧ Q) := by
  rcases h with ⟨h, g, e, hp⟩ | ⟨h, e⟩
  · rw [e]
    show Is (k g) _
    rcases hp with ⟨q, e'⟩ | ⟨q, e'⟩
    · exact .inl ⟨⟨h, q⟩, e'⟩
    · exact .inr ⟨fun k => q k.2, e'⟩
  · rw [e]
    exact .inr ⟨fun q => h q.1, rfl⟩
theorem within_b {β : Type} (a b c : Int) (f : Bool → Option β) : bindO (rating_within (a, (b, c))) f = f (decide (b ≤ a ∧ a ≤ c)) := by
  have e : rating_within (a, (b, c)) = bif decide (a ≥ b) then some (decide (a ≤ c)) else some false := rfl
  rw [e, cond_ite]
  by_cases h : b ≤ a
  · rw [if_pos (show a ≥ b from h)]
    simp [h, bindO_some]
  · rw [if_neg (show ¬ a ≥ b from h)]
    simp [h, bindO_some]
theorem money_b {β : Type} (a : Int) (f : Bool → Option β) : bindO (dialtoneref37_money a) f = f (decide (0 ≤ a ∧ a ≤ 1000000000)) := by
  have e : dialtoneref37_money a = bif decide (a ≥ 0) then some (decide (a ≤ 1000000000)) else some false := rfl
  rw [e, cond_ite]
  by_cases h : 0 ≤ a
  · rw [if_pos (show a ≥ 0 from h)]
    simp [h, bindO_some]
  · rw [if_neg (show ¬ a ≥ 0 from h)]
    simp [h, bindO_some]
abbrev BdOk (d f t : Int) : Prop := (1 ≤ d ∧ d ≤ 127) ∧ 0 ≤ f ∧ f < t ∧ t ≤ 1440
theorem bandP_j (d f t : Int) : rating_validBand (d, (f, t)) = some (decide (BdOk d f t)) := by
  unfold rating_validBand
  by_cases h1 : 1 ≤ d <;> by_cases h2 : d ≤ 127 <;> by_cases h3 : 0 ≤ f <;> by_cases h4 : f < t <;> simp [h1, h2, h3, h4, BdOk]
theorem bandR_j (d f t : Int) : dialtoneref37_Band (d, (f, t)) = some (decide (BdOk d f t)) := by
  unfold dialtoneref37_Band
  by_cases h1 : 1 ≤ d <;> by_cases h2 : d ≤ 127 <;> by_cases h3 : 0 ≤ f <;> by_cases h4 : f < t <;> simp [h1, h2, h3, h4, BdOk]
abbrev MnOk (a : Int) : Prop := 0 ≤ a ∧ a ≤ 1000000000
abbrev Pok (p : Pr1) : Prop := BdOk p.1.1 p.1.2.1 p.1.2.2 ∧ MnOk p.2.1 ∧ MnOk p.2.2
theorem bandR_b {β : Type} (d f t : Int) (k : Bool → Option β) : bindO (dialtoneref37_Band (d, (f, t))) k = k (decide (BdOk d f t)) := by rw [bandR_j]; rfl
theorem priceP_b {β : Type} (p : Pr1) (k : Bool → Option β) : bindO (rating_validPrice (p.1.1, (p.1.2.1, (p.1.2.2, (p.2.1, p.2.2))))) k = k (decide (Pok p)) := by
  obtain ⟨⟨d, f, t⟩, m, n⟩ := p
  have e : rating_validPrice (d, (f, (t, (m, n)))) = some (decide (Pok ((d, (f, t)), (m, n)))) := by
    unfold rating_validPrice
    simp only [bandP_j, bindO_some]
    by_cases h : BdOk d f t <;> by_cases h1 : 0 ≤ m <;> by_cases h2 : m ≤ 1000000000 <;> by_cases h3 : 0 ≤ n <;> simp [h, h1, h2, h3, Pok, MnOk]
  show bindO (rating_validPrice (d, (f, (t, (m, n))))) k = _
  rw [e]; rfl
abbrev p0 : Pr1 := ((0, (0, 0)), (0, 0))
abbrev r0 : Ra := ([], (0, (0, (0, []))))
noncomputable def dgB (a1 : List UInt8) : Int → Option (Int ⊕ (Unit ⊕ Bool)) :=
(fun v8 =>
    bif (decide (v8 < (((List.length a1) : Nat) : Int))) then
     bif (decide (((0 : Int) ≤ v8) ∧ (v8 < (((List.length a1) : Nat) : Int)))) then 
      bif (decide ((((UInt8.toNat (List.getD a1 (Int.toNat v8) (0 : UInt8))) : Nat) : Int) < (48 : Int))) then
       outO (outO (some Bool.false))
      else
       bif (decide (((0 : Int) ≤ v8) ∧ (v8 < (((List.length a1) : Nat) : Int)))) then 
        bif (decide ((((UInt8.toNat (List.getD a1 (Int.toNat v8) (0 : UInt8))) : Nat) : Int) > (57 : Int))) then
         outO (outO (some Bool.false))
        else
         some (Sum.inl (Go.IntKind.wrap .i64 (v8 + (1 : Int))))
       else none
     else none
    else
     outO (some (Sum.inl ())))
noncomputable def ppB (a5 : List Pr1) : Int → Option (Int ⊕ (Unit ⊕ Bool)) :=
(fun v10 =>
      bif (decide (v10 < (((List.length a5) : Nat) : Int))) then
       bif (decide (((0 : Int) ≤ v10) ∧ (v10 < (((List.length a5) : Nat) : Int)))) then 
        bindO a5[(Int.toNat v10)]? fun x11 =>
        bindO (rating_validPrice (x11.1.1, (x11.1.2.1, (x11.1.2.2, (x11.2.1, x11.2.2))))) fun x12 =>
        bif (!x12) then
         outO (outO (some Bool.false))
        else
         some (Sum.inl (Go.IntKind.wrap .i64 (v10 + (1 : Int))))
       else none
      else
       outO (some (Sum.inl ())))
noncomputable def prB (a5 : List Pr1) : Int → Option (Int ⊕ (Unit ⊕ Bool)) :=
(fun v9 =>
      bif (decide (v9 < (((List.length a5) : Nat) : Int))) then
       bif (decide (((0 : Int) ≤ v9) ∧ (v9 < (((List.length a5) : Nat) : Int)))) then 
        bindO a5[(Int.toNat v9)]? fun x10 =>
        bindO (dialtoneref37_Band (x10.1.1, (x10.1.2.1, x10.1.2.2))) fun x11 =>
        bif (!x11) then
         outO (outO (some Bool.false))
        else
         bindO (dialtoneref37_money x10.2.1) fun x12 =>
         bif (!x12) then
          outO (outO (some Bool.false))
         else
          bindO (dialtoneref37_money x10.2.2) fun x13 =>
          bif (!x13) then
           outO (outO (some Bool.false))
          else
           some (Sum.inl (Go.IntKind.wrap .i64 (v9 + (1 : Int))))
       else none
      else
       outO (some (Sum.inl ())))
theorem validRate_eq (a1 : List UInt8) (a2 a3 a4 : Int) (a5 : List Pr1) : rating_validRate (a1, (a2, (a3, (a4, a5)))) =

  joinO (bif (decide ((((List.length a1) : Nat) : Int) > (20 : Int))) then
    outO (some Bool.false)
   else
    bif (decide (a2 < (0 : Int))) then
     outO (some Bool.false)
    else
     bif (decide (a2 > (1000000000 : Int))) then
      outO (some Bool.false)
     else
      bindO (rating_within (a3, ((1 : Int), (3600 : Int)))) fun x6 =>
      bif (!x6) then
       outO (some Bool.false)
      else
       bindO (rating_within (a4, ((1 : Int), (3600 : Int)))) fun x7 =>
       bif (!x7) then
        outO (some Bool.false)
       else
        some (Sum.inl ())) fun _ =>
  joinO (loopO (dgB a1) (0 : Int)) fun _ =>
  bif (decide ((((List.length a5) : Nat) : Int) < (1 : Int))) then
   some Bool.false
  else
   bif (decide ((((List.length a5) : Nat) : Int) > (20 : Int))) then
    some Bool.false
   else
    joinO (loopO (ppB a5) (0 : Int)) fun _ =>
    bindO (some (Go.IntKind.wrap .i64 ((((List.length a5) : Nat) : Int) - (1 : Int)))) fun x14 =>
    bif (decide (((0 : Int) ≤ x14) ∧ (x14 < (((List.length a5) : Nat) : Int)))) then 
     bindO a5[(Int.toNat x14)]? fun x15 =>
     some ((decide (x15.1.1 = (127 : Int))) && ((decide (x15.1.2.1 = (0 : Int))) && (decide (x15.1.2.2 = (1440 : Int)))))
    else none := rfl
theorem rate_eq (a1 : List UInt8) (a2 a3 a4 : Int) (a5 : List Pr1) : dialtoneref37_Rate (a1, (a2, (a3, (a4, a5)))) =

  joinO (bif (decide ((((List.length a1) : Nat) : Int) > (20 : Int))) then
    outO (some Bool.false)
   else
    bindO (dialtoneref37_money a2) fun x6 =>
    bif (!x6) then
     outO (some Bool.false)
    else
     bif (decide (a3 < (1 : Int))) then
      outO (some Bool.false)
     else
      bif (decide (a3 > (3600 : Int))) then
       outO (some Bool.false)
      else
       bif (decide (a4 < (1 : Int))) then
        outO (some Bool.false)
       else
        bif (decide (a4 > (3600 : Int))) then
         outO (some Bool.false)
        else
         some (Sum.inl ())) fun _ =>
  joinO (loopO (dgB a1) (0 : Int)) fun _ =>
  bif (decide ((((List.length a5) : Nat) : Int) < (1 : Int))) then
   some Bool.false
  else
   bif (decide ((((List.length a5) : Nat) : Int) > (20 : Int))) then
    some Bool.false
   else
    joinO (loopO (prB a5) (0 : Int)) fun _ =>
    bindO (some (Go.IntKind.wrap .i64 ((((List.length a5) : Nat) : Int) - (1 : Int)))) fun x15 =>
    bif (decide (((0 : Int) ≤ x15) ∧ (x15 < (((List.length a5) : Nat) : Int)))) then 
     bindO a5[(Int.toNat x15)]? fun x16 =>
     bif (decide (x16.1.1 = (127 : Int))) then
      bif (decide (x16.1.2.1 = (0 : Int))) then
       some (decide (x16.1.2.2 = (1440 : Int)))
      else
       some Bool.false
     else
      some Bool.false
    else none := rfl
theorem loop_all {body : Int → Option (Int ⊕ (Unit ⊕ Bool))} (n : Nat) (ok : Nat → Prop) (h1 : ∀ i : Nat, i < n → ok i → body (i : Int) = some (.inl ((i + 1 : Nat) : Int))) (h2 : ∀ i : Nat, i < n → ¬ ok i → body (i : Int) = some (.inr (.inr false))) (h3 : body (n : Int) = some (.inr (.inl ()))) :
    ((∀ i, i < n → ok i) ∧ loopO body (0 : Int) = some (.inl ())) ∨ (¬ (∀ i, i < n → ok i) ∧ loopO body (0 : Int) = some (.inr false)) := by
  have hs := loopO_search (body := body) (fun i => (i : Int)) n (fun i => ¬ ok i) (r0 := .inl ()) (r1 := .inr false) (x := 0) rfl (fun i hi hb => h1 i hi (Classical.not_not.1 hb)) h2 h3
  rcases hs with ⟨⟨i, hi, hb⟩, e⟩ | ⟨hn, e⟩
  · exact .inr ⟨fun h => hb (h i hi), e⟩
  · exact .inl ⟨fun i hi => Classical.byContradiction fun h => hn ⟨i, hi, h⟩, e⟩
abbrev DgC (c : UInt8) : Prop := 48 ≤ c.toNat ∧ c.toNat ≤ 57
def Dg (s : List UInt8) : Prop := ∀ i, i < s.length → DgC (s.getD i 0)
theorem dg_loop (a1 : List UInt8) (hl : a1.length ≤ 1000) : (Dg a1 ∧ loopO (dgB a1) 0 = some (.inl ())) ∨ (¬ Dg a1 ∧ loopO (dgB a1) 0 = some (.inr false)) := by
  refine loop_all (body := dgB a1) a1.length (fun i => DgC (a1.getD i 0)) (fun i hi hb' => ?_) (fun i hi hb => ?_) ?_
  · have hn : ((i : Int) + 1) = ((i + 1 : Nat) : Int) := rfl
    unfold dgB
    simp (disch := (first | omega | (simp only [List.length_append, List.length_cons, List.length_nil, List.nil_append, List.length_take, List.length_drop]; omega))) only [↓bindO_some, ↓bindO_none, ↓joinO_inl, ↓joinO_inr, ↓joinO_none, ↓outO_some, ↓outO_none, ↓cond_true, ↓cond_false, ↓cond_and, ↓cond_or, ↓cond_not, ↓cond_ite, ↓if_pos, ↓if_neg, ↓if_true, ↓if_false, List.take_length, Nat.le_refl, Bool.not_true, Bool.not_false, if_pos, if_neg, Int.toNat_natCast, wrap_i64', hn]
  · unfold dgB
    by_cases h : (a1.getD i 0).toNat < 48
    · simp (disch := (first | omega | (simp only [List.length_append, List.length_cons, List.length_nil, List.nil_append, List.length_take, List.length_drop]; omega))) only [↓bindO_some, ↓bindO_none, ↓joinO_inl, ↓joinO_inr, ↓joinO_none, ↓outO_some, ↓outO_none, ↓cond_true, ↓cond_false, ↓cond_and, ↓cond_or, ↓cond_not, ↓cond_ite, ↓if_pos, ↓if_neg, ↓if_true, ↓if_false, List.take_length, Nat.le_refl, Bool.not_true, Bool.not_false, if_pos, if_neg, Int.toNat_natCast]
    · have h2 : (a1.getD i 0).toNat > 57 := by unfold DgC at hb; omega
      simp (disch := (first | omega | (simp only [List.length_append, List.length_cons, List.length_nil, List.nil_append, List.length_take, List.length_drop]; omega))) only [↓bindO_some, ↓bindO_none, ↓joinO_inl, ↓joinO_inr, ↓joinO_none, ↓outO_some, ↓outO_none, ↓cond_true, ↓cond_false, ↓cond_and, ↓cond_or, ↓cond_not, ↓cond_ite, ↓if_pos, ↓if_neg, ↓if_true, ↓if_false, List.take_length, Nat.le_refl, Bool.not_true, Bool.not_false, if_pos, if_neg, Int.toNat_natCast]
  · unfold dgB
    simp (disch := (first | omega | (simp only [List.length_append, List.length_cons, List.length_nil, List.nil_append, List.length_take, List.length_drop]; omega))) only [↓bindO_some, ↓bindO_none, ↓joinO_inl, ↓joinO_inr, ↓joinO_none, ↓outO_some, ↓outO_none, ↓cond_true, ↓cond_false, ↓cond_and, ↓cond_or, ↓cond_not, ↓cond_ite, ↓if_pos, ↓if_neg, ↓if_true, ↓if_false, List.take_length, Nat.le_refl, Bool.not_true, Bool.not_false, if_pos, if_neg, Int.toNat_natCast]
def Pks (l : List Pr1) : Prop := ∀ i, i < l.length → Pok (l.getD i p0)
theorem pp_loop (l : List Pr1) (hl : l.length ≤ 1000) : (Pks l ∧ loopO (ppB l) 0 = some (.inl ())) ∨ (¬ Pks l ∧ loopO (ppB l) 0 = some (.inr false)) := by
  refine loop_all (body := ppB l) l.length (fun i => Pok (l.getD i p0)) (fun i hi hb' => ?_) (fun i hi hb => ?_) ?_
  · obtain ⟨x, hx, hxb⟩ := get_at p0 hi
    rw [hx] at hb'
    have hn : ((i : Int) + 1) = ((i + 1 : Nat) : Int) := rfl
    unfold ppB
    simp (disch := (first | omega | (simp only [List.length_append, List.length_cons, List.length_nil, List.nil_append, List.length_take, List.length_drop]; omega))) only [↓bindO_some, ↓bindO_none, ↓joinO_inl, ↓joinO_inr, ↓joinO_none, ↓outO_some, ↓outO_none, ↓cond_true, ↓cond_false, ↓cond_and, ↓cond_or, ↓cond_not, ↓cond_ite, ↓if_pos, ↓if_neg, ↓if_true, ↓if_false, List.take_length, Nat.le_refl, Bool.not_true, Bool.not_false, if_pos, if_neg, ↓hxb, priceP_b, wrap_i64', hn, hb', decide_true]
  · obtain ⟨x, hx, hxb⟩ := get_at p0 hi
    rw [hx] at hb
    unfold ppB
    simp (disch := (first | omega | (simp only [List.length_append, List.length_cons, List.length_nil, List.nil_append, List.length_take, List.length_drop]; omega))) only [↓bindO_some, ↓bindO_none, ↓joinO_inl, ↓joinO_inr, ↓joinO_none, ↓outO_some, ↓outO_none, ↓cond_true, ↓cond_false, ↓cond_and, ↓cond_or, ↓cond_not, ↓cond_ite, ↓if_pos, ↓if_neg, ↓if_true, ↓if_false, List.take_length, Nat.le_refl, Bool.not_true, Bool.not_false, if_pos, if_neg, ↓hxb, priceP_b, hb, decide_false]
  · unfold ppB
    simp (disch := (first | omega | (simp only [List.length_append, List.length_cons, List.length_nil, List.nil_append, List.length_take, List.length_drop]; omega))) only [↓bindO_some, ↓bindO_none, ↓joinO_inl, ↓joinO_inr, ↓joinO_none, ↓outO_some, ↓outO_none, ↓cond_true, ↓cond_false, ↓cond_and, ↓cond_or, ↓cond_not, ↓cond_ite, ↓if_pos, ↓if_neg, ↓if_true, ↓if_false, List.take_length, Nat.le_refl, Bool.not_true, Bool.not_false, if_pos, if_neg]
theorem pr_loop (l : List Pr1) (hl : l.length ≤ 1000) : (Pks l ∧ loopO (prB l) 0 = some (.inl ())) ∨ (¬ Pks l ∧ loopO (prB l) 0 = some (.inr false)) := by
  refine loop_all (body := prB l) l.length (fun i => Pok (l.getD i p0)) (fun i hi hb' => ?_) (fun i hi hb => ?_) ?_
  · obtain ⟨x, hx, hxb⟩ := get_at p0 hi
    rw [hx] at hb'
    have hn : ((i : Int) + 1) = ((i + 1 : Nat) : Int) := rfl
    unfold prB
    simp (disch := (first | omega | (simp only [List.length_append, List.length_cons, List.length_nil, List.nil_append, List.length_take, List.length_drop]; omega))) only [↓bindO_some, ↓bindO_none, ↓joinO_inl, ↓joinO_inr, ↓joinO_none, ↓outO_some, ↓outO_none, ↓cond_true, ↓cond_false, ↓cond_and, ↓cond_or, ↓cond_not, ↓cond_ite, ↓if_pos, ↓if_neg, ↓if_true, ↓if_false, List.take_length, Nat.le_refl, Bool.not_true, Bool.not_false, if_pos, if_neg, ↓hxb, bandR_b, money_b, wrap_i64', hn, hb'.1, hb'.2.1, hb'.2.2, and_self, decide_true]
  · obtain ⟨x, hx, hxb⟩ := get_at p0 hi
    rw [hx] at hb
    unfold prB
    by_cases h1 : BdOk x.1.1 x.1.2.1 x.1.2.2
    · by_cases h2 : MnOk x.2.1
      · have h3 : ¬ MnOk x.2.2 := fun h => hb ⟨h1, h2, h⟩
        simp (disch := (first | omega | (simp only [List.length_append, List.length_cons, List.length_nil, List.nil_append, List.length_take, List.length_drop]; omega))) only [↓bindO_some, ↓bindO_none, ↓joinO_inl, ↓joinO_inr, ↓joinO_none, ↓outO_some, ↓outO_none, ↓cond_true, ↓cond_false, ↓cond_and, ↓cond_or, ↓cond_not, ↓cond_ite, ↓if_pos, ↓if_neg, ↓if_true, ↓if_false, List.take_length, Nat.le_refl, Bool.not_true, Bool.not_false, if_pos, if_neg, ↓hxb, bandR_b, money_b, h1, h2, h3, and_self, decide_true, decide_false]
      · simp (disch := (first | omega | (simp only [List.length_append, List.length_cons, List.length_nil, List.nil_append, List.length_take, List.length_drop]; omega))) only [↓bindO_some, ↓bindO_none, ↓joinO_inl, ↓joinO_inr, ↓joinO_none, ↓outO_some, ↓outO_none, ↓cond_true, ↓cond_false, ↓cond_and, ↓cond_or, ↓cond_not, ↓cond_ite, ↓if_pos, ↓if_neg, ↓if_true, ↓if_false, List.take_length, Nat.le_refl, Bool.not_true, Bool.not_false, if_pos, if_neg, ↓hxb, bandR_b, money_b, h1, h2, and_self, decide_true, decide_false]
    · simp (disch := (first | omega | (simp only [List.length_append, List.length_cons, List.length_nil, List.nil_append, List.length_take, List.length_drop]; omega))) only [↓bindO_some, ↓bindO_none, ↓joinO_inl, ↓joinO_inr, ↓joinO_none, ↓outO_some, ↓outO_none, ↓cond_true, ↓cond_false, ↓cond_and, ↓cond_or, ↓cond_not, ↓cond_ite, ↓if_pos, ↓if_neg, ↓if_true, ↓if_false, List.take_length, Nat.le_refl, Bool.not_true, Bool.not_false, if_pos, if_neg, ↓hxb, bandR_b, money_b, h1, decide_false]
  · unfold prB
    simp (disch := (first | omega | (simp only [List.length_append, List.length_cons, List.length_nil, List.nil_append, List.length_take, List.length_drop]; omega))) only [↓bindO_some, ↓bindO_none, ↓joinO_inl, ↓joinO_inr, ↓joinO_none, ↓outO_some, ↓outO_none, ↓cond_true, ↓cond_false, ↓cond_and, ↓cond_or, ↓cond_not, ↓cond_ite, ↓if_pos, ↓if_neg, ↓if_true, ↓if_false, List.take_length, Nat.le_refl, Bool.not_true, Bool.not_false, if_pos, if_neg]
abbrev Lst (p : Pr1) : Prop := p.1.1 = 127 ∧ p.1.2.1 = 0 ∧ p.1.2.2 = 1440
abbrev RVa (a1 : List UInt8) (a2 a3 a4 : Int) : Prop := a1.length ≤ 20 ∧ MnOk a2 ∧ (1 ≤ a3 ∧ a3 ≤ 3600) ∧ (1 ≤ a4 ∧ a4 ≤ 3600)
abbrev RVl (l : List Pr1) : Prop := (1 ≤ l.length ∧ l.length ≤ 20) ∧ Pks l ∧ Lst (l.getD (l.length - 1) p0)
def RV (r : Ra) : Prop := RVa r.1 r.2.1 r.2.2.1 r.2.2.2.1 ∧ Dg r.1 ∧ RVl r.2.2.2.2
theorem validRate_j (a1 : List UInt8) (a2 a3 a4 : Int) (a5 : List Pr1) : Is (rating_validRate (a1, (a2, (a3, (a4, a5))))) (RV (a1, (a2, (a3, (a4, a5))))) := by
  rw [validRate_eq]
  refine Is.and _ ?_
  by_cases h : RVa a1 a2 a3 a4
  · obtain ⟨h1, h2, h3, h4⟩ := h
    refine .inl ⟨⟨h1, h2, h3, h4⟩, (), ?_, ?_⟩
    · simp (disch := (first | omega | (simp only [List.length_append, List.length_cons, List.length_nil, List.nil_append, List.length_take, List.length_drop]; omega))) only [↓bindO_some, ↓bindO_none, ↓joinO_inl, ↓joinO_inr, ↓joinO_none, ↓outO_some, ↓outO_none, ↓cond_true, ↓cond_false, ↓cond_and, ↓cond_or, ↓cond_not, ↓cond_ite, ↓if_pos, ↓if_neg, ↓if_true, ↓if_false, List.take_length, Nat.le_refl, Bool.not_true, Bool.not_false, if_pos, if_neg, within_b, h3, h4, and_self, decide_true]
    · refine Is.and _ ?_
      rcases dg_loop a1 (by omega) with ⟨d, e⟩ | ⟨d, e⟩
      · refine .inl ⟨d, (), e, ?_⟩
        by_cases hl : 1 ≤ a5.length ∧ a5.length ≤ 20
        · simp (disch := (first | omega | (simp only [List.length_append, List.length_cons, List.length_nil, List.nil_append, List.length_take, List.length_drop]; omega))) only [↓bindO_some, ↓bindO_none, ↓joinO_inl, ↓joinO_inr, ↓joinO_none, ↓outO_some, ↓outO_none, ↓cond_true, ↓cond_false, ↓cond_and, ↓cond_or, ↓cond_not, ↓cond_ite, ↓if_pos, ↓if_neg, ↓if_true, ↓if_false, List.take_length, Nat.le_refl, Bool.not_true, Bool.not_false, if_pos, if_neg]
          rcases pp_loop a5 (by omega) with ⟨d, e⟩ | ⟨d, e⟩
          · simp only [e, ↓bindO_some, ↓bindO_none, ↓joinO_inl, ↓joinO_inr, ↓joinO_none, ↓outO_some, ↓outO_none, ↓cond_true, ↓cond_false, ↓cond_and, ↓cond_or, ↓cond_not, ↓cond_ite, ↓if_pos, ↓if_neg, ↓if_true, ↓if_false, List.take_length, Nat.le_refl, Bool.not_true, Bool.not_false]
            obtain ⟨x, hx, hxb⟩ := get_at p0 (show a5.length - 1 < a5.length by omega)
            have hi : ((a5.length : Int) - 1) = ((a5.length - 1 : Nat) : Int) := by omega
            simp (disch := (first | omega | (simp only [List.length_append, List.length_cons, List.length_nil, List.nil_append, List.length_take, List.length_drop]; omega))) only [↓bindO_some, ↓bindO_none, ↓joinO_inl, ↓joinO_inr, ↓joinO_none, ↓outO_some, ↓outO_none, ↓cond_true, ↓cond_false, ↓cond_and, ↓cond_or, ↓cond_not, ↓cond_ite, ↓if_pos, ↓if_neg, ↓if_true, ↓if_false, List.take_length, Nat.le_refl, Bool.not_true, Bool.not_false, wrap_i64', hi, if_pos, ↓hxb, and_dec]
            refine Is.d ?_
            show _ ↔ (_ ∧ _ ∧ Lst (a5.getD (a5.length - 1) p0))
            rw [hx]
            exact ⟨fun k => ⟨hl, d, k⟩, fun k => k.2.2⟩
          · simp only [e, ↓bindO_some, ↓bindO_none, ↓joinO_inl, ↓joinO_inr, ↓joinO_none, ↓outO_some, ↓outO_none, ↓cond_true, ↓cond_false, ↓cond_and, ↓cond_or, ↓cond_not, ↓cond_ite, ↓if_pos, ↓if_neg, ↓if_true, ↓if_false, List.take_length, Nat.le_refl, Bool.not_true, Bool.not_false]
            exact Is.f fun k => d k.2.1
        · have : Is (some false) (RVl a5) := Is.f fun k => hl k.1
          rcases Nat.lt_or_ge a5.length 1 with k | k
          · simp (disch := (first | omega | (simp only [List.length_append, List.length_cons, List.length_nil, List.nil_append, List.length_take, List.length_drop]; omega))) only [↓bindO_some, ↓bindO_none, ↓joinO_inl, ↓joinO_inr, ↓joinO_none, ↓outO_some, ↓outO_none, ↓cond_true, ↓cond_false, ↓cond_and, ↓cond_or, ↓cond_not, ↓cond_ite, ↓if_pos, ↓if_neg, ↓if_true, ↓if_false, List.take_length, Nat.le_refl, Bool.not_true, Bool.not_false, if_pos, if_neg]; exact this
          · simp (disch := (first | omega | (simp only [List.length_append, List.length_cons, List.length_nil, List.nil_append, List.length_take, List.length_drop]; omega))) only [↓bindO_some, ↓bindO_none, ↓joinO_inl, ↓joinO_inr, ↓joinO_none, ↓outO_some, ↓outO_none, ↓cond_true, ↓cond_false, ↓cond_and, ↓cond_or, ↓cond_not, ↓cond_ite, ↓if_pos, ↓if_neg, ↓if_true, ↓if_false, List.take_length, Nat.le_refl, Bool.not_true, Bool.not_false, if_pos, if_neg]; exact this
      · exact .inr ⟨d, e⟩
  · refine .inr ⟨h, ?_⟩
    by_cases h1 : a1.length ≤ 20
    · by_cases h2 : 0 ≤ a2
      · by_cases h3 : a2 ≤ 1000000000
        · by_cases h4 : 1 ≤ a3 ∧ a3 ≤ 3600
          · have h5 : ¬ (1 ≤ a4 ∧ a4 ≤ 3600) := fun k => h ⟨h1, ⟨h2, h3⟩, h4, k⟩
            simp (disch := (first | omega | (simp only [List.length_append, List.length_cons, List.length_nil, List.nil_append, List.length_take, List.length_drop]; omega))) only [↓bindO_some, ↓bindO_none, ↓joinO_inl, ↓joinO_inr, ↓joinO_none, ↓outO_some, ↓outO_none, ↓cond_true, ↓cond_false, ↓cond_and, ↓cond_or, ↓cond_not, ↓cond_ite, ↓if_pos, ↓if_neg, ↓if_true, ↓if_false, List.take_length, Nat.le_refl, Bool.not_true, Bool.not_false, if_pos, if_neg, within_b, h4, h5, and_self, decide_true, decide_false]
          · simp (disch := (first | omega | (simp only [List.length_append, List.length_cons, List.length_nil, List.nil_append, List.length_take, List.length_drop]; omega))) only [↓bindO_some, ↓bindO_none, ↓joinO_inl, ↓joinO_inr, ↓joinO_none, ↓outO_some, ↓outO_none, ↓cond_true, ↓cond_false, ↓cond_and, ↓cond_or, ↓cond_not, ↓cond_ite, ↓if_pos, ↓if_neg, ↓if_true, ↓if_false, List.take_length, Nat.le_refl, Bool.not_true, Bool.not_false, if_pos, if_neg, within_b, h4, decide_false]
        · simp (disch := (first | omega | (simp only [List.length_append, List.length_cons, List.length_nil, List.nil_append, List.length_take, List.length_drop]; omega))) only [↓bindO_some, ↓bindO_none, ↓joinO_inl, ↓joinO_inr, ↓joinO_none, ↓outO_some, ↓outO_none, ↓cond_true, ↓cond_false, ↓cond_and, ↓cond_or, ↓cond_not, ↓cond_ite, ↓if_pos, ↓if_neg, ↓if_true, ↓if_false, List.take_length, Nat.le_refl, Bool.not_true, Bool.not_false, if_pos, if_neg]
      · simp (disch := (first | omega | (simp only [List.length_append, List.length_cons, List.length_nil, List.nil_append, List.length_take, List.length_drop]; omega))) only [↓bindO_some, ↓bindO_none, ↓joinO_inl, ↓joinO_inr, ↓joinO_none, ↓outO_some, ↓outO_none, ↓cond_true, ↓cond_false, ↓cond_and, ↓cond_or, ↓cond_not, ↓cond_ite, ↓if_pos, ↓if_neg, ↓if_true, ↓if_false, List.take_length, Nat.le_refl, Bool.not_true, Bool.not_false, if_pos, if_neg]
    · simp (disch := (first | omega | (simp only [List.length_append, List.length_cons, List.length_nil, List.nil_append, List.length_take, List.length_drop]; omega))) only [↓bindO_some, ↓bindO_none, ↓joinO_inl, ↓joinO_inr, ↓joinO_none, ↓outO_some, ↓outO_none, ↓cond_true, ↓cond_false, ↓cond_and, ↓cond_or, ↓cond_not, ↓cond_ite, ↓if_pos, ↓if_neg, ↓if_true, ↓if_false, List.take_length, Nat.le_refl, Bool.not_true, Bool.not_false, if_pos, if_neg]
theorem rateR_j (a1 : List UInt8) (a2 a3 a4 : Int) (a5 : List Pr1) : Is (dialtoneref37_Rate (a1, (a2, (a3, (a4, a5))))) (RV (a1, (a2, (a3, (a4, a5))))) := by
  rw [rate_eq]
  refine Is.and _ ?_
  by_cases h : RVa a1 a2 a3 a4
  · obtain ⟨h1, h2, h3, h4⟩ := h
    refine .inl ⟨⟨h1, h2, h3, h4⟩, (), ?_, ?_⟩
    · simp (disch := (first | omega | (simp only [List.length_append, List.length_cons, List.length_nil, List.nil_append, List.length_take, List.length_drop]; omega))) only [↓bindO_some, ↓bindO_none, ↓joinO_inl, ↓joinO_inr, ↓joinO_none, ↓outO_some, ↓outO_none, ↓cond_true, ↓cond_false, ↓cond_and, ↓cond_or, ↓cond_not, ↓cond_ite, ↓if_pos, ↓if_neg, ↓if_true, ↓if_false, List.take_length, Nat.le_refl, Bool.not_true, Bool.not_false, if_pos, if_neg, money_b, h2, and_self, decide_true]
    · refine Is.and _ ?_
      rcases dg_loop a1 (by omega) with ⟨d, e⟩ | ⟨d, e⟩
      · refine .inl ⟨d, (), e, ?_⟩
        by_cases hl : 1 ≤ a5.length ∧ a5.length ≤ 20
        · simp (disch := (first | omega | (simp only [List.length_append, List.length_cons, List.length_nil, List.nil_append, List.length_take, List.length_drop]; omega))) only [↓bindO_some, ↓bindO_none, ↓joinO_inl, ↓joinO_inr, ↓joinO_none, ↓outO_some, ↓outO_none, ↓cond_true, ↓cond_false, ↓cond_and, ↓cond_or, ↓cond_not, ↓cond_ite, ↓if_pos, ↓if_neg, ↓if_true, ↓if_false, List.take_length, Nat.le_refl, Bool.not_true, Bool.not_false, if_pos, if_neg]
          rcases pr_loop a5 (by omega) with ⟨d, e⟩ | ⟨d, e⟩
          · simp only [e, ↓bindO_some, ↓bindO_none, ↓joinO_inl, ↓joinO_inr, ↓joinO_none, ↓outO_some, ↓outO_none, ↓cond_true, ↓cond_false, ↓cond_and, ↓cond_or, ↓cond_not, ↓cond_ite, ↓if_pos, ↓if_neg, ↓if_true, ↓if_false, List.take_length, Nat.le_refl, Bool.not_true, Bool.not_false]
            obtain ⟨x, hx, hxb⟩ := get_at p0 (show a5.length - 1 < a5.length by omega)
            have hi : ((a5.length : Int) - 1) = ((a5.length - 1 : Nat) : Int) := by omega
            simp (disch := (first | omega | (simp only [List.length_append, List.length_cons, List.length_nil, List.nil_append, List.length_take, List.length_drop]; omega))) only [↓bindO_some, ↓bindO_none, ↓joinO_inl, ↓joinO_inr, ↓joinO_none, ↓outO_some, ↓outO_none, ↓cond_true, ↓cond_false, ↓cond_and, ↓cond_or, ↓cond_not, ↓cond_ite, ↓if_pos, ↓if_neg, ↓if_true, ↓if_false, List.take_length, Nat.le_refl, Bool.not_true, Bool.not_false, wrap_i64', hi, if_pos, ↓hxb]
            have key : Is (some (decide (Lst x))) (RVl a5) := by
              refine Is.d ?_
              show _ ↔ (_ ∧ _ ∧ Lst (a5.getD (a5.length - 1) p0))
              rw [hx]
              exact ⟨fun k => ⟨hl, d, k⟩, fun k => k.2.2⟩
            by_cases k1 : x.1.1 = 127
            · by_cases k2 : x.1.2.1 = 0
              · simpa [k1, k2, Lst] using key
              · simpa [k1, k2, Lst] using key
            · simpa [k1, Lst] using key
          · simp only [e, ↓bindO_some, ↓bindO_none, ↓joinO_inl, ↓joinO_inr, ↓joinO_none, ↓outO_some, ↓outO_none, ↓cond_true, ↓cond_false, ↓cond_and, ↓cond_or, ↓cond_not, ↓cond_ite, ↓if_pos, ↓if_neg, ↓if_true, ↓if_false, List.take_length, Nat.le_refl, Bool.not_true, Bool.not_false]
            exact Is.f fun k => d k.2.1
        · have : Is (some false) (RVl a5) := Is.f fun k => hl k.1
          rcases Nat.lt_or_ge a5.length 1 with k | k
          · simp (disch := (first | omega | (simp only [List.length_append, List.length_cons, List.length_nil, List.nil_append, List.length_take, List.length_drop]; omega))) only [↓bindO_some, ↓bindO_none, ↓joinO_inl, ↓joinO_inr, ↓joinO_none, ↓outO_some, ↓outO_none, ↓cond_true, ↓cond_false, ↓cond_and, ↓cond_or, ↓cond_not, ↓cond_ite, ↓if_pos, ↓if_neg, ↓if_true, ↓if_false, List.take_length, Nat.le_refl, Bool.not_true, Bool.not_false, if_pos, if_neg]; exact this
          · simp (disch := (first | omega | (simp only [List.length_append, List.length_cons, List.length_nil, List.nil_append, List.length_take, List.length_drop]; omega))) only [↓bindO_some, ↓bindO_none, ↓joinO_inl, ↓joinO_inr, ↓joinO_none, ↓outO_some, ↓outO_none, ↓cond_true, ↓cond_false, ↓cond_and, ↓cond_or, ↓cond_not, ↓cond_ite, ↓if_pos, ↓if_neg, ↓if_true, ↓if_false, List.take_length, Nat.le_refl, Bool.not_true, Bool.not_false, if_pos, if_neg]; exact this
      · exact .inr ⟨d, e⟩
  · refine .inr ⟨h, ?_⟩
    by_cases h1 : a1.length ≤ 20
    · by_cases h2 : MnOk a2
      · by_cases h3 : 1 ≤ a3
        · by_cases h4 : a3 ≤ 3600
          · by_cases h5 : 1 ≤ a4
            · have h6 : ¬ a4 ≤ 3600 := fun k => h ⟨h1, h2, ⟨h3, h4⟩, ⟨h5, k⟩⟩
              simp (disch := (first | omega | (simp only [List.length_append, List.length_cons, List.length_nil, List.nil_append, List.length_take, List.length_drop]; omega))) only [↓bindO_some, ↓bindO_none, ↓joinO_inl, ↓joinO_inr, ↓joinO_none, ↓outO_some, ↓outO_none, ↓cond_true, ↓cond_false, ↓cond_and, ↓cond_or, ↓cond_not, ↓cond_ite, ↓if_pos, ↓if_neg, ↓if_true, ↓if_false, List.take_length, Nat.le_refl, Bool.not_true, Bool.not_false, if_pos, if_neg, money_b, h2, and_self, decide_true]
            · simp (disch := (first | omega | (simp only [List.length_append, List.length_cons, List.length_nil, List.nil_append, List.length_take, List.length_drop]; omega))) only [↓bindO_some, ↓bindO_none, ↓joinO_inl, ↓joinO_inr, ↓joinO_none, ↓outO_some, ↓outO_none, ↓cond_true, ↓cond_false, ↓cond_and, ↓cond_or, ↓cond_not, ↓cond_ite, ↓if_pos, ↓if_neg, ↓if_true, ↓if_false, List.take_length, Nat.le_refl, Bool.not_true, Bool.not_false, if_pos, if_neg, money_b, h2, and_self, decide_true]
          · simp (disch := (first | omega | (simp only [List.length_append, List.length_cons, List.length_nil, List.nil_append, List.length_take, List.length_drop]; omega))) only [↓bindO_some, ↓bindO_none, ↓joinO_inl, ↓joinO_inr, ↓joinO_none, ↓outO_some, ↓outO_none, ↓cond_true, ↓cond_false, ↓cond_and, ↓cond_or, ↓cond_not, ↓cond_ite, ↓if_pos, ↓if_neg, ↓if_true, ↓if_false, List.take_length, Nat.le_refl, Bool.not_true, Bool.not_false, if_pos, if_neg, money_b, h2, and_self, decide_true]
        · simp (disch := (first | omega | (simp only [List.length_append, List.length_cons, List.length_nil, List.nil_append, List.length_take, List.length_drop]; omega))) only [↓bindO_some, ↓bindO_none, ↓joinO_inl, ↓joinO_inr, ↓joinO_none, ↓outO_some, ↓outO_none, ↓cond_true, ↓cond_false, ↓cond_and, ↓cond_or, ↓cond_not, ↓cond_ite, ↓if_pos, ↓if_neg, ↓if_true, ↓if_false, List.take_length, Nat.le_refl, Bool.not_true, Bool.not_false, if_pos, if_neg, money_b, h2, and_self, decide_true]
      · simp (disch := (first | omega | (simp only [List.length_append, List.length_cons, List.length_nil, List.nil_append, List.length_take, List.length_drop]; omega))) only [↓bindO_some, ↓bindO_none, ↓joinO_inl, ↓joinO_inr, ↓joinO_none, ↓outO_some, ↓outO_none, ↓cond_true, ↓cond_false, ↓cond_and, ↓cond_or, ↓cond_not, ↓cond_ite, ↓if_pos, ↓if_neg, ↓if_true, ↓if_false, List.take_length, Nat.le_refl, Bool.not_true, Bool.not_false, if_pos, if_neg, money_b, h2, decide_false]
    · simp (disch := (first | omega | (simp only [List.length_append, List.length_cons, List.length_nil, List.nil_append, List.length_take, List.length_drop]; omega))) only [↓bindO_some, ↓bindO_none, ↓joinO_inl, ↓joinO_inr, ↓joinO_none, ↓outO_some, ↓outO_none, ↓cond_true, ↓cond_false, ↓cond_and, ↓cond_or, ↓cond_not, ↓cond_ite, ↓if_pos, ↓if_neg, ↓if_true, ↓if_false, List.take_length, Nat.le_refl, Bool.not_true, Bool.not_false, if_pos, if_neg]
theorem rate_same (a1 : List UInt8) (a2 a3 a4 : Int) (a5 : List Pr1) : dialtoneref37_Rate (a1, (a2, (a3, (a4, a5)))) = rating_validRate (a1, (a2, (a3, (a4, a5)))) := (rateR_j a1 a2 a3 a4 a5).eq (validRate_j a1 a2 a3 a4 a5)
end Go.Proofs.Ytbckoncbimljeaa
