import Derived.Test.YtlaccfegaoaakaaZ1p
import Derived.Test.YtlaccfegaoaakaaY1p
set_option linter.unusedVariables false
set_option linter.unusedSimpArgs false
set_option maxRecDepth 100000
namespace Go.Proofs.Ytlaccfegaoaakaa
open Go.RowKit
abbrev Tx := List UInt8
abbrev Ct := Tx × (Int × Int)
noncomputable def fkB {γ : Type} (x16 : Ct) (x20 : List Ct) : Int → Option (Int ⊕ (Unit ⊕ (Int ⊕ γ))) :=
(fun v21 =>
 bif (decide (v21 < (((List.length x20) : Nat) : Int))) then
 bif (decide (((0 : Int) ≤ v21) ∧ (v21 < (((List.length x20) : Nat) : Int)))) then 
 bindO x20[(Int.toNat v21)]? fun x22 =>
 bif (decide (x22.1 = x16.1)) then
 outO (outO (some (Sum.inl v21)))
 else
 some (Sum.inl (Go.IntKind.wrap .i64 (v21 + (1 : Int))))
 else none
 else
 outO (some (Sum.inl ())))
noncomputable def fcB (a5 : List Ct) : Int → Option (Int ⊕ (Unit ⊕ Bool)) :=
(fun v15 =>
 bif (decide (v15 < (((List.length a5) : Nat) : Int))) then
 bif (decide (((0 : Int) ≤ v15) ∧ (v15 < (((List.length a5) : Nat) : Int)))) then 
 bindO a5[(Int.toNat v15)]? fun x16 =>
 joinO (bindO (registrar_within ((((List.length x16.1) : Nat) : Int), ((1 : Int), (1000 : Int)))) fun x17 =>
 bif (!x17) then
 outO (outO (outO (some Bool.false)))
 else
 bindO (registrar_within (x16.2.1, ((0 : Int), (1000 : Int)))) fun x18 =>
 bif (!x18) then
 outO (outO (outO (some Bool.false)))
 else
 bindO (registrar_within (x16.2.2, ((-1 : Int), (2147483647 : Int)))) fun x19 =>
 bif (!x19) then
 outO (outO (outO (some Bool.false)))
 else
 some (Sum.inl ())) fun _ =>
 bif (decide (((0 : Int) ≤ v15) ∧ (v15 ≤ (((List.length a5) : Nat) : Int)))) then 
 bindO (some (List.take (Int.toNat v15) a5)) fun x20 =>
 joinO (joinO (loopO (fkB x16 x20) (0 : Int)) fun _ =>
 some (Sum.inl (-1 : Int))) fun v24 =>
 bif (decide (v24 ≥ (0 : Int))) then
 outO (outO (some Bool.false))
 else
 some (Sum.inl (Go.IntKind.wrap .i64 (v15 + (1 : Int))))
 else none
 else none
 else
 outO (some (Sum.inl ())))
noncomputable def fpB {γ : Type} (a9 : List Tx) : Int → Option (Int ⊕ (Unit ⊕ (Int ⊕ γ))) :=
(fun v26 =>
 bif (decide (v26 < (((List.length a9) : Nat) : Int))) then
 bif (decide (((0 : Int) ≤ v26) ∧ (v26 < (((List.length a9) : Nat) : Int)))) then 
 bindO a9[(Int.toNat v26)]? fun x27 =>
 bindO (registrar_within ((((List.length x27) : Nat) : Int), ((1 : Int), (1000 : Int)))) fun x28 =>
 bif (!x28) then
 outO (outO (some (Sum.inl v26)))
 else
 some (Sum.inl (Go.IntKind.wrap .i64 (v26 + (1 : Int))))
 else none
 else
 outO (some (Sum.inl ())))
theorem formedP_eq (a1 a2 : Tx) (a3 : Int) (a4 : Bool) (a5 : List Ct) (a6 : Int) (a7 : Tx) (a8 : Int) (a9 : List Tx) : registrar_Formed (a1, (a2, (a3, (a4, (a5, (a6, (a7, (a8, a9)))))))) =

  joinO (bindO (registrar_within ((((List.length a1) : Nat) : Int), ((1 : Int), (255 : Int)))) fun x10 =>
   bif (!x10) then
    outO (some Bool.false)
   else
    bindO (registrar_within ((((List.length a2) : Nat) : Int), ((1 : Int), (255 : Int)))) fun x11 =>
    bif (!x11) then
     outO (some Bool.false)
    else
     bindO (registrar_within (a3, ((0 : Int), (2147483647 : Int)))) fun x12 =>
     bif (!x12) then
      outO (some Bool.false)
     else
      some (Sum.inl ())) fun _ =>
  joinO (bindO (registrar_within (a6, ((-1 : Int), (2147483647 : Int)))) fun x13 =>
   bif (!x13) then
    outO (some Bool.false)
   else
    bif (decide ((((List.length a5) : Nat) : Int) > (20 : Int))) then
     outO (some Bool.false)
    else
     bif (decide ((((List.length a9) : Nat) : Int) > (10 : Int))) then
      outO (some Bool.false)
     else
      some (Sum.inl ())) fun _ =>
  joinO (bif a4 then
    bif (decide ((((List.length a5) : Nat) : Int) > (0 : Int))) then
     outO (some Bool.false)
    else
     bif (decide (a6 ≠ (0 : Int))) then
      outO (some Bool.false)
     else
      some (Sum.inl ())
   else
    some (Sum.inl ())) fun _ =>
  bif (decide ((((List.length a7) : Nat) : Int) > (255 : Int))) then
   some Bool.false
  else
   bindO (registrar_within (a8, ((0 : Int), (2147483647 : Int)))) fun x14 =>
   bif (!x14) then
    some Bool.false
   else
    joinO (bif (decide (a8 ≠ (0 : Int))) then
      bif (decide (a7 = ([] : List UInt8))) then
       outO (some Bool.false)
      else
       bif (decide ((((List.length a5) : Nat) : Int) > (1 : Int))) then
        outO (some Bool.false)
       else
        some (Sum.inl ())
     else
      some (Sum.inl ())) fun _ =>
    joinO (loopO (fcB a5) (0 : Int)) fun _ =>
    joinO (joinO (loopO (fpB a9) (0 : Int)) fun _ =>
     some (Sum.inl (-1 : Int))) fun v30 =>
    some (!(decide (v30 ≥ (0 : Int)))) := rfl
noncomputable def rkB {γ : Type} (a5 : List Ct) (x11 : Ct) (v10 : Int) : Int → Option (Int ⊕ (Int ⊕ (γ ⊕ (Unit ⊕ Bool)))) :=
(fun v15 =>
 bif (decide (v15 < v10)) then
 bif (decide (((0 : Int) ≤ v15) ∧ (v15 < (((List.length a5) : Nat) : Int)))) then 
 bindO a5[(Int.toNat v15)]? fun x16 =>
 bif (decide (x16.1 = x11.1)) then
 outO (outO (outO (outO (some Bool.false))))
 else
 some (Sum.inl (Go.IntKind.wrap .i64 (v15 + (1 : Int))))
 else none
 else
 outO (some (Sum.inl v15)))
noncomputable def rcB (a5 : List Ct) : Int → Option (Int ⊕ (Unit ⊕ Bool)) :=
(fun v10 =>
 bif (decide (v10 < (((List.length a5) : Nat) : Int))) then
 joinO (bif (decide (((0 : Int) ≤ v10) ∧ (v10 < (((List.length a5) : Nat) : Int)))) then 
 bindO a5[(Int.toNat v10)]? fun x11 =>
 joinO (bindO (dialtoneref22_within ((((List.length x11.1) : Nat) : Int), ((1 : Int), (1000 : Int)))) fun x12 =>
 bif (!x12) then
 outO (outO (outO (outO (some Bool.false))))
 else
 bindO (dialtoneref22_within (x11.2.1, ((0 : Int), (1000 : Int)))) fun x13 =>
 bif (!x13) then
 outO (outO (outO (outO (some Bool.false))))
 else
 bindO (dialtoneref22_within (x11.2.2, ((-1 : Int), (2147483647 : Int)))) fun x14 =>
 bif (!x14) then
 outO (outO (outO (outO (some Bool.false))))
 else
 some (Sum.inl ())) fun _ =>
 loopO (rkB a5 x11 v10) (0 : Int)
 else none) fun v18 =>
 some (Sum.inl (Go.IntKind.wrap .i64 (v10 + (1 : Int))))
 else
 outO (some (Sum.inl ())))
theorem contacts_eq (a1 a2 : Tx) (a3 : Int) (a4 : Bool) (a5 : List Ct) (a6 : Int) (a7 : Tx) (a8 : Int) (a9 : List Tx) : dialtoneref22_contacts (a1, (a2, (a3, (a4, (a5, (a6, (a7, (a8, a9)))))))) =

  joinO (bif (decide ((((List.length a5) : Nat) : Int) > (20 : Int))) then
    outO (some Bool.false)
   else
    bif a4 then
     bif (decide ((((List.length a5) : Nat) : Int) ≠ (0 : Int))) then
      outO (some Bool.false)
     else
      bif (decide (a6 ≠ (0 : Int))) then
       outO (some Bool.false)
      else
       some (Sum.inl ())
    else
     some (Sum.inl ())) fun _ =>
  joinO (loopO (rcB a5) (0 : Int)) fun _ =>
  some Bool.true := rfl
noncomputable def rpB (a9 : List Tx) : Int → Option (Int ⊕ (Unit ⊕ Bool)) :=
(fun v16 =>
 bif (decide (v16 < (((List.length a9) : Nat) : Int))) then
 bif (decide (((0 : Int) ≤ v16) ∧ (v16 < (((List.length a9) : Nat) : Int)))) then 
 bindO a9[(Int.toNat v16)]? fun x17 =>
 bindO (dialtoneref22_within ((((List.length x17) : Nat) : Int), ((1 : Int), (1000 : Int)))) fun x18 =>
 bif (!x18) then
 outO (outO (some Bool.false))
 else
 some (Sum.inl (Go.IntKind.wrap .i64 (v16 + (1 : Int))))
 else none
 else
 outO (some (Sum.inl ())))
theorem formedR_eq (a1 a2 : Tx) (a3 : Int) (a4 : Bool) (a5 : List Ct) (a6 : Int) (a7 : Tx) (a8 : Int) (a9 : List Tx) : dialtoneref22_Formed (a1, (a2, (a3, (a4, (a5, (a6, (a7, (a8, a9)))))))) =

  joinO (bindO (dialtoneref22_within ((((List.length a1) : Nat) : Int), ((1 : Int), (255 : Int)))) fun x10 =>
   bif (!x10) then
    outO (some Bool.false)
   else
    bindO (dialtoneref22_within ((((List.length a2) : Nat) : Int), ((1 : Int), (255 : Int)))) fun x11 =>
    bif (!x11) then
     outO (some Bool.false)
    else
     bindO (dialtoneref22_within (a3, ((0 : Int), (2147483647 : Int)))) fun x12 =>
     bif (!x12) then
      outO (some Bool.false)
     else
      bindO (dialtoneref22_within (a6, ((-1 : Int), (2147483647 : Int)))) fun x13 =>
      bif (!x13) then
       outO (some Bool.false)
      else
       some (Sum.inl ())) fun _ =>
  joinO (bindO (dialtoneref22_contacts (a1, (a2, (a3, (a4, (a5, (a6, (a7, (a8, a9))))))))) fun x14 =>
   bif (!x14) then
    outO (some Bool.false)
   else
    bif (decide ((((List.length a7) : Nat) : Int) > (255 : Int))) then
     outO (some Bool.false)
    else
     bindO (dialtoneref22_within (a8, ((0 : Int), (2147483647 : Int)))) fun x15 =>
     bif (!x15) then
      outO (some Bool.false)
     else
      some (Sum.inl ())) fun _ =>
  joinO (bif (decide (a8 ≠ (0 : Int))) then
    bif (decide ((((List.length a7) : Nat) : Int) = (0 : Int))) then
     outO (some Bool.false)
    else
     bif (decide ((((List.length a5) : Nat) : Int) > (1 : Int))) then
      outO (some Bool.false)
     else
      bif (decide ((((List.length a9) : Nat) : Int) > (10 : Int))) then
       outO (some Bool.false)
      else
       some (Sum.inl ())
   else
    bif (decide ((((List.length a9) : Nat) : Int) > (10 : Int))) then
     outO (some Bool.false)
    else
     some (Sum.inl ())) fun _ =>
  joinO (loopO (rpB a9) (0 : Int)) fun _ =>
  some Bool.true := rfl
noncomputable def fwB (a5 : List Ct) : Int → Option (Int ⊕ (Unit ⊕ Bool)) :=
(fun v10 =>
 bif (decide (v10 < (((List.length a5) : Nat) : Int))) then
 bif (decide (((0 : Int) ≤ v10) ∧ (v10 < (((List.length a5) : Nat) : Int)))) then 
 bindO a5[(Int.toNat v10)]? fun x11 =>
 bif (decide ((((List.length x11.1) : Nat) : Int) > (2000 : Int))) then
 outO (outO (some Bool.false))
 else
 some (Sum.inl (Go.IntKind.wrap .i64 (v10 + (1 : Int))))
 else none
 else
 outO (some (Sum.inl ())))
noncomputable def fwB2 (a9 : List Tx) : Int → Option (Int ⊕ (Unit ⊕ Bool)) :=
(fun v13 =>
 bif (decide (v13 < (((List.length a9) : Nat) : Int))) then
 bif (decide (((0 : Int) ≤ v13) ∧ (v13 < (((List.length a9) : Nat) : Int)))) then 
 bindO a9[(Int.toNat v13)]? fun x14 =>
 bif (decide ((((List.length x14) : Nat) : Int) > (2000 : Int))) then
 outO (outO (some Bool.false))
 else
 some (Sum.inl (Go.IntKind.wrap .i64 (v13 + (1 : Int))))
 else none
 else
 outO (some (Sum.inl ())))
theorem few_eq (a1 a2 : Tx) (a3 : Int) (a4 : Bool) (a5 : List Ct) (a6 : Int) (a7 : Tx) (a8 : Int) (a9 : List Tx) : dialtonelaw22_few (a1, (a2, (a3, (a4, (a5, (a6, (a7, (a8, a9)))))))) =

  joinO (bif (decide ((((List.length a5) : Nat) : Int) > (30 : Int))) then
    outO (some Bool.false)
   else
    bif (decide ((((List.length a9) : Nat) : Int) > (30 : Int))) then
     outO (some Bool.false)
    else
     bif (decide ((((List.length a1) : Nat) : Int) > (2000 : Int))) then
      outO (some Bool.false)
     else
      bif (decide ((((List.length a2) : Nat) : Int) > (2000 : Int))) then
       outO (some Bool.false)
      else
       bif (decide ((((List.length a7) : Nat) : Int) > (2000 : Int))) then
        outO (some Bool.false)
       else
        some (Sum.inl ())) fun _ =>
  joinO (loopO (fwB a5) (0 : Int)) fun _ =>
  joinO (loopO (fwB2 a9) (0 : Int)) fun _ =>
  some Bool.true := rfl
theorem get_bz {α β : Type} {l : List α} {v : Int} (d : α) (f : α → Option β) (h : 0 ≤ v ∧ v < (l.length : Int)) : bindO l[Int.toNat v]? f = f (l.getD v.toNat d) := by rw [get_D' d (by omega)]; rfl
theorem get_at {α : Type} {l : List α} {i : Nat} (d : α) (h : i < l.length) : ∃ x, l.getD i d = x ∧ ∀ {β : Type} (f : α → Option β), bindO l[Int.toNat (i : Int)]? f = f x := ⟨_, rfl, fun f => get_bz d f (by omega)⟩
def Is (o : Option Bool) (P : Prop) : Prop := (P ∧ o = some true) ∨ (¬ P ∧ o = some false)
theorem Is.t {P : Prop} (h : P) : Is (some true) P := .inl ⟨h, rfl⟩
theorem Is.f {P : Prop} (h : ¬ P) : Is (some false) P := .inr ⟨h, rfl⟩
theorem Is.and {γ : Type} {k : γ → Option Bool} {P Q : Prop} (x : Option (γ ⊕ Bool)) (h : (P ∧ ∃ g, x = some (.inl g) ∧ Is (k g) Q) ∨ (¬ P ∧ x = some (.inr false))) : Is (joinO x k) (P ∧ Q) := by
  rcases h with ⟨h, g, e, hp⟩ | ⟨h, e⟩
  · rw [e]
    show Is (k g) _
    rcases hp with ⟨q, e'⟩ | ⟨q, e'⟩
    · exact .inl ⟨⟨h, q⟩, e'⟩
    · exact .inr ⟨fun k => q k.2, e'⟩
  · rw [e]
    exact .inr ⟨fun q => h q.1, rfl⟩
theorem Is.some {o : Option Bool} {P : Prop} (h : Is o P) : ∃ b, o = Option.some b := by
  rcases h with ⟨_, e⟩ | ⟨_, e⟩ <;> exact ⟨_, e⟩
theorem within_b {β : Type} (a b c : Int) (f : Bool → Option β) : bindO (registrar_within (a, (b, c))) f = f (decide (b ≤ a ∧ a ≤ c)) := by
  have e : registrar_within (a, (b, c)) = bif decide (a ≥ b) then some (decide (a ≤ c)) else some false := rfl
  rw [e, cond_ite]
  by_cases h : b ≤ a
  · rw [if_pos (show a ≥ b from h)]
    simp [h, bindO_some]
  · rw [if_neg (show ¬ a ≥ b from h)]
    simp [h, bindO_some]
theorem withinR_b {β : Type} (a b c : Int) (f : Bool → Option β) : bindO (dialtoneref22_within (a, (b, c))) f = f (decide (b ≤ a ∧ a ≤ c)) := within_b a b c f
theorem loop_all {body : Int → Option (Int ⊕ (Unit ⊕ Bool))} (n : Nat) (ok : Nat → Prop) (h1 : ∀ i : Nat, i < n → ok i → body (i : Int) = some (.inl ((i + 1 : Nat) : Int))) (h2 : ∀ i : Nat, i < n → ¬ ok i → body (i : Int) = some (.inr (.inr false))) (h3 : body (n : Int) = some (.inr (.inl ()))) :
    ((∀ i, i < n → ok i) ∧ loopO body (0 : Int) = some (.inl ())) ∨ (¬ (∀ i, i < n → ok i) ∧ loopO body (0 : Int) = some (.inr false)) := by
  have hs := loopO_search (body := body) (fun i => (i : Int)) n (fun i => ¬ ok i) (r0 := .inl ()) (r1 := .inr false) (x := 0) rfl (fun i hi hb => h1 i hi (Classical.not_not.1 hb)) h2 h3
  rcases hs with ⟨⟨i, hi, hb⟩, e⟩ | ⟨hn, e⟩
  · exact .inr ⟨fun h => hb (h i hi), e⟩
  · exact .inl ⟨fun i hi => Classical.byContradiction fun h => hn ⟨i, hi, h⟩, e⟩
theorem loop_first {β : Type} {body : Int → Option (Int ⊕ β)} (n : Nat) (p : Nat → Prop) (g : Nat → β) (r0 : β) (h1 : ∀ i : Nat, i < n → ¬ p i → body (i : Int) = some (.inl ((i + 1 : Nat) : Int))) (h2 : ∀ i : Nat, i < n → p i → body (i : Int) = some (.inr (g i))) (h3 : body (n : Int) = some (.inr r0)) :
    (∃ i, i < n ∧ p i ∧ (∀ j, j < i → ¬ p j) ∧ loopO body (0 : Int) = some (g i)) ∨ ((∀ i, i < n → ¬ p i) ∧ loopO body (0 : Int) = some r0) := by
  by_cases h : ∃ i, i < n ∧ p i
  · obtain ⟨i, ⟨k1, k2⟩, k3⟩ := least h
    exact .inl ⟨i, k1, k2, fun j hj hp => k3 j hj ⟨by omega, hp⟩, loopO_from (fun i => (i : Int)) i rfl (fun j hj => h1 j (by omega) fun hp => k3 j hj ⟨by omega, hp⟩) (h2 i k1 k2)⟩
  · exact .inr ⟨fun i hi hp => h ⟨i, hi, hp⟩, loopO_from (fun i => (i : Int)) n rfl (fun j hj => h1 j hj fun hp => h ⟨j, hj, hp⟩) h3⟩
abbrev c0 : Ct := ([], (0, 0))
abbrev NO (n : Int) : Prop := -1 ≤ n ∧ n ≤ 2147483647
abbrev NN (n : Int) : Prop := 0 ≤ n ∧ n ≤ 2147483647
abbrev Ln (n : Nat) (b : Int) : Prop := 1 ≤ (n : Int) ∧ (n : Int) ≤ b
abbrev CW (x : Ct) : Prop := Ln x.1.length 1000 ∧ (0 ≤ x.2.1 ∧ x.2.1 ≤ 1000) ∧ NO x.2.2
def COK (l : List Ct) (i : Nat) : Prop := CW (l.getD i c0) ∧ ∀ k, k < i → (l.getD k c0).1 ≠ (l.getD i c0).1
abbrev POK (l : List Tx) (i : Nat) : Prop := Ln (l.getD i []).length 1000
theorem fk_j {γ : Type} (l : List Ct) {i : Nat} (hi : i < l.length) (hl : l.length ≤ 1000) :
    (¬ (∀ k, k < i → (l.getD k c0).1 ≠ (l.getD i c0).1) ∧ ∃ k : Nat, loopO (fkB (γ := γ) (l.getD i c0) (l.take i)) (0 : Int) = some (.inr (.inl (k : Int)))) ∨ ((∀ k, k < i → (l.getD k c0).1 ≠ (l.getD i c0).1) ∧ loopO (fkB (γ := γ) (l.getD i c0) (l.take i)) (0 : Int) = some (.inl ())) := by
  have ht : (l.take i).length = i := by rw [List.length_take]; omega
  have hg : ∀ k, k < i → (l.take i).getD k c0 = l.getD k c0 := fun k hk => by
    rw [List.getD_eq_getElem?_getD, List.getD_eq_getElem?_getD, List.getElem?_take, if_pos hk]
  rcases loop_first (body := fkB (γ := γ) (l.getD i c0) (l.take i)) i (fun k => (l.getD k c0).1 = (l.getD i c0).1) (fun k => .inr (.inl (k : Int))) (.inl ())
    (fun k hk hb => by
      obtain ⟨x, hx, hxb⟩ := get_at c0 (show k < (l.take i).length by omega)
      rw [hg k hk] at hx
      rw [hx] at hb
      have hn : ((k : Int) + 1) = ((k + 1 : Nat) : Int) := rfl
      unfold fkB
      simp (disch := (first | omega | (simp only [List.length_append, List.length_cons, List.length_nil, List.nil_append, List.length_take, List.length_drop]; omega))) only [↓bindO_some, ↓bindO_none, ↓joinO_inl, ↓joinO_inr, ↓joinO_none, ↓outO_some, ↓outO_none, ↓cond_true, ↓cond_false, ↓cond_and, ↓cond_or, ↓cond_not, ↓cond_ite, ↓if_pos, ↓if_neg, ↓if_true, ↓if_false, List.take_length, Nat.le_refl, Bool.not_true, Bool.not_false, if_pos, if_neg, ↓hxb, wrap_i64', hn, ht, hb, decide_false])
    (fun k hk hb => by
      obtain ⟨x, hx, hxb⟩ := get_at c0 (show k < (l.take i).length by omega)
      rw [hg k hk] at hx
      rw [hx] at hb
      unfold fkB
      simp (disch := (first | omega | (simp only [List.length_append, List.length_cons, List.length_nil, List.nil_append, List.length_take, List.length_drop]; omega))) only [↓bindO_some, ↓bindO_none, ↓joinO_inl, ↓joinO_inr, ↓joinO_none, ↓outO_some, ↓outO_none, ↓cond_true, ↓cond_false, ↓cond_and, ↓cond_or, ↓cond_not, ↓cond_ite, ↓if_pos, ↓if_neg, ↓if_true, ↓if_false, List.take_length, Nat.le_refl, Bool.not_true, Bool.not_false, if_pos, if_neg, ↓hxb, ht, hb, decide_true])
    (by unfold fkB; simp (disch := (first | omega | (simp only [List.length_append, List.length_cons, List.length_nil, List.nil_append, List.length_take, List.length_drop]; omega))) only [↓bindO_some, ↓bindO_none, ↓joinO_inl, ↓joinO_inr, ↓joinO_none, ↓outO_some, ↓outO_none, ↓cond_true, ↓cond_false, ↓cond_and, ↓cond_or, ↓cond_not, ↓cond_ite, ↓if_pos, ↓if_neg, ↓if_true, ↓if_false, List.take_length, Nat.le_refl, Bool.not_true, Bool.not_false, if_neg, ht]) with ⟨k, k1, k2, _, e⟩ | ⟨h, e⟩
  · exact .inl ⟨fun g => g k k1 k2, k, e⟩
  · exact .inr ⟨h, e⟩
theorem fc_j (l : List Ct) (hl : l.length ≤ 1000) : ((∀ i, i < l.length → COK l i) ∧ loopO (fcB l) (0 : Int) = some (.inl ())) ∨ (¬ (∀ i, i < l.length → COK l i) ∧ loopO (fcB l) (0 : Int) = some (.inr false)) := by
  refine loop_all (body := fcB l) l.length (COK l) (fun i hi hb => ?_) (fun i hi hb => ?_) ?_
  · obtain ⟨x, hx, hxb⟩ := get_at c0 hi
    obtain ⟨h1, h2⟩ := hb
    have hn : ((i : Int) + 1) = ((i + 1 : Nat) : Int) := rfl
    rcases fk_j (γ := Int ⊕ (Unit ⊕ Bool)) l hi hl with ⟨k, _⟩ | ⟨_, e⟩
    · exact (k h2).elim
    · rw [hx] at h1 e
      unfold fcB
      simp (disch := (first | omega | (simp only [List.length_append, List.length_cons, List.length_nil, List.nil_append, List.length_take, List.length_drop]; omega))) only [↓bindO_some, ↓bindO_none, ↓joinO_inl, ↓joinO_inr, ↓joinO_none, ↓outO_some, ↓outO_none, ↓cond_true, ↓cond_false, ↓cond_and, ↓cond_or, ↓cond_not, ↓cond_ite, ↓if_pos, ↓if_neg, ↓if_true, ↓if_false, List.take_length, Nat.le_refl, Bool.not_true, Bool.not_false, if_pos, if_neg, ↓hxb, ↓within_b, h1.1, h1.2.1, h1.2.2, and_self, decide_true, Int.toNat_natCast, e, wrap_i64', hn]
  · obtain ⟨x, hx, hxb⟩ := get_at c0 hi
    by_cases h1 : CW x
    · have h2 : ¬ ∀ k, k < i → (l.getD k c0).1 ≠ (l.getD i c0).1 := fun k => hb ⟨by rw [hx]; exact h1, k⟩
      rcases fk_j (γ := Int ⊕ (Unit ⊕ Bool)) l hi hl with ⟨_, k, e⟩ | ⟨k, _⟩
      · rw [hx] at e
        unfold fcB
        simp (disch := (first | omega | (simp only [List.length_append, List.length_cons, List.length_nil, List.nil_append, List.length_take, List.length_drop]; omega))) only [↓bindO_some, ↓bindO_none, ↓joinO_inl, ↓joinO_inr, ↓joinO_none, ↓outO_some, ↓outO_none, ↓cond_true, ↓cond_false, ↓cond_and, ↓cond_or, ↓cond_not, ↓cond_ite, ↓if_pos, ↓if_neg, ↓if_true, ↓if_false, List.take_length, Nat.le_refl, Bool.not_true, Bool.not_false, if_pos, if_neg, ↓hxb, ↓within_b, h1.1, h1.2.1, h1.2.2, and_self, decide_true, Int.toNat_natCast, e]
      · exact (h2 k).elim
    · unfold fcB
      by_cases k1 : Ln x.1.length 1000
      · by_cases k2 : 0 ≤ x.2.1 ∧ x.2.1 ≤ 1000
        · have k3 : ¬ NO x.2.2 := fun k => h1 ⟨k1, k2, k⟩
          simp (disch := (first | omega | (simp only [List.length_append, List.length_cons, List.length_nil, List.nil_append, List.length_take, List.length_drop]; omega))) only [↓bindO_some, ↓bindO_none, ↓joinO_inl, ↓joinO_inr, ↓joinO_none, ↓outO_some, ↓outO_none, ↓cond_true, ↓cond_false, ↓cond_and, ↓cond_or, ↓cond_not, ↓cond_ite, ↓if_pos, ↓if_neg, ↓if_true, ↓if_false, List.take_length, Nat.le_refl, Bool.not_true, Bool.not_false, if_pos, if_neg, ↓hxb, ↓within_b, k1, k2, k3, and_self, decide_true, decide_false]
        · simp (disch := (first | omega | (simp only [List.length_append, List.length_cons, List.length_nil, List.nil_append, List.length_take, List.length_drop]; omega))) only [↓bindO_some, ↓bindO_none, ↓joinO_inl, ↓joinO_inr, ↓joinO_none, ↓outO_some, ↓outO_none, ↓cond_true, ↓cond_false, ↓cond_and, ↓cond_or, ↓cond_not, ↓cond_ite, ↓if_pos, ↓if_neg, ↓if_true, ↓if_false, List.take_length, Nat.le_refl, Bool.not_true, Bool.not_false, if_pos, if_neg, ↓hxb, ↓within_b, k1, k2, and_self, decide_true, decide_false]
      · simp (disch := (first | omega | (simp only [List.length_append, List.length_cons, List.length_nil, List.nil_append, List.length_take, List.length_drop]; omega))) only [↓bindO_some, ↓bindO_none, ↓joinO_inl, ↓joinO_inr, ↓joinO_none, ↓outO_some, ↓outO_none, ↓cond_true, ↓cond_false, ↓cond_and, ↓cond_or, ↓cond_not, ↓cond_ite, ↓if_pos, ↓if_neg, ↓if_true, ↓if_false, List.take_length, Nat.le_refl, Bool.not_true, Bool.not_false, if_pos, if_neg, ↓hxb, ↓within_b, k1, decide_false]
  · unfold fcB
    simp (disch := (first | omega | (simp only [List.length_append, List.length_cons, List.length_nil, List.nil_append, List.length_take, List.length_drop]; omega))) only [↓bindO_some, ↓bindO_none, ↓joinO_inl, ↓joinO_inr, ↓joinO_none, ↓outO_some, ↓outO_none, ↓cond_true, ↓cond_false, ↓cond_and, ↓cond_or, ↓cond_not, ↓cond_ite, ↓if_pos, ↓if_neg, ↓if_true, ↓if_false, List.take_length, Nat.le_refl, Bool.not_true, Bool.not_false, if_neg]
theorem rk_j {γ : Type} (l : List Ct) {i : Nat} (hi : i < l.length) (hl : l.length ≤ 1000) :
    (¬ (∀ k, k < i → (l.getD k c0).1 ≠ (l.getD i c0).1) ∧ loopO (rkB (γ := γ) l (l.getD i c0) (i : Int)) (0 : Int) = some (.inr (.inr (.inr false)))) ∨ ((∀ k, k < i → (l.getD k c0).1 ≠ (l.getD i c0).1) ∧ loopO (rkB (γ := γ) l (l.getD i c0) (i : Int)) (0 : Int) = some (.inl (i : Int))) := by
  rcases loop_first (body := rkB (γ := γ) l (l.getD i c0) (i : Int)) i (fun k => (l.getD k c0).1 = (l.getD i c0).1) (fun _ => .inr (.inr (.inr false))) (.inl (i : Int))
    (fun k hk hb => by
      obtain ⟨x, hx, hxb⟩ := get_at c0 (show k < l.length by omega)
      rw [hx] at hb
      have hn : ((k : Int) + 1) = ((k + 1 : Nat) : Int) := rfl
      unfold rkB
      simp (disch := (first | omega | (simp only [List.length_append, List.length_cons, List.length_nil, List.nil_append, List.length_take, List.length_drop]; omega))) only [↓bindO_some, ↓bindO_none, ↓joinO_inl, ↓joinO_inr, ↓joinO_none, ↓outO_some, ↓outO_none, ↓cond_true, ↓cond_false, ↓cond_and, ↓cond_or, ↓cond_not, ↓cond_ite, ↓if_pos, ↓if_neg, ↓if_true, ↓if_false, List.take_length, Nat.le_refl, Bool.not_true, Bool.not_false, if_pos, if_neg, ↓hxb, wrap_i64', hn, hb, decide_false])
    (fun k hk hb => by
      obtain ⟨x, hx, hxb⟩ := get_at c0 (show k < l.length by omega)
      rw [hx] at hb
      unfold rkB
      simp (disch := (first | omega | (simp only [List.length_append, List.length_cons, List.length_nil, List.nil_append, List.length_take, List.length_drop]; omega))) only [↓bindO_some, ↓bindO_none, ↓joinO_inl, ↓joinO_inr, ↓joinO_none, ↓outO_some, ↓outO_none, ↓cond_true, ↓cond_false, ↓cond_and, ↓cond_or, ↓cond_not, ↓cond_ite, ↓if_pos, ↓if_neg, ↓if_true, ↓if_false, List.take_length, Nat.le_refl, Bool.not_true, Bool.not_false, if_pos, if_neg, ↓hxb, hb, decide_true])
    (by unfold rkB; simp (disch := (first | omega | (simp only [List.length_append, List.length_cons, List.length_nil, List.nil_append, List.length_take, List.length_drop]; omega))) only [↓bindO_some, ↓bindO_none, ↓joinO_inl, ↓joinO_inr, ↓joinO_none, ↓outO_some, ↓outO_none, ↓cond_true, ↓cond_false, ↓cond_and, ↓cond_or, ↓cond_not, ↓cond_ite, ↓if_pos, ↓if_neg, ↓if_true, ↓if_false, List.take_length, Nat.le_refl, Bool.not_true, Bool.not_false, if_neg]) with ⟨k, k1, k2, _, e⟩ | ⟨h, e⟩
  · exact .inl ⟨fun g => g k k1 k2, e⟩
  · exact .inr ⟨h, e⟩
theorem rc_j (l : List Ct) (hl : l.length ≤ 1000) : ((∀ i, i < l.length → COK l i) ∧ loopO (rcB l) (0 : Int) = some (.inl ())) ∨ (¬ (∀ i, i < l.length → COK l i) ∧ loopO (rcB l) (0 : Int) = some (.inr false)) := by
  refine loop_all (body := rcB l) l.length (COK l) (fun i hi hb => ?_) (fun i hi hb => ?_) ?_
  · obtain ⟨x, hx, hxb⟩ := get_at c0 hi
    obtain ⟨h1, h2⟩ := hb
    have hn : ((i : Int) + 1) = ((i + 1 : Nat) : Int) := rfl
    rcases rk_j (γ := Int) l hi hl with ⟨k, _⟩ | ⟨_, e⟩
    · exact (k h2).elim
    · rw [hx] at h1 e
      unfold rcB
      simp (disch := (first | omega | (simp only [List.length_append, List.length_cons, List.length_nil, List.nil_append, List.length_take, List.length_drop]; omega))) only [↓bindO_some, ↓bindO_none, ↓joinO_inl, ↓joinO_inr, ↓joinO_none, ↓outO_some, ↓outO_none, ↓cond_true, ↓cond_false, ↓cond_and, ↓cond_or, ↓cond_not, ↓cond_ite, ↓if_pos, ↓if_neg, ↓if_true, ↓if_false, List.take_length, Nat.le_refl, Bool.not_true, Bool.not_false, if_pos, if_neg, ↓hxb, ↓withinR_b, h1.1, h1.2.1, h1.2.2, and_self, decide_true, e, wrap_i64', hn]
  · obtain ⟨x, hx, hxb⟩ := get_at c0 hi
    by_cases h1 : CW x
    · have h2 : ¬ ∀ k, k < i → (l.getD k c0).1 ≠ (l.getD i c0).1 := fun k => hb ⟨by rw [hx]; exact h1, k⟩
      rcases rk_j (γ := Int) l hi hl with ⟨_, e⟩ | ⟨k, _⟩
      · rw [hx] at e
        unfold rcB
        simp (disch := (first | omega | (simp only [List.length_append, List.length_cons, List.length_nil, List.nil_append, List.length_take, List.length_drop]; omega))) only [↓bindO_some, ↓bindO_none, ↓joinO_inl, ↓joinO_inr, ↓joinO_none, ↓outO_some, ↓outO_none, ↓cond_true, ↓cond_false, ↓cond_and, ↓cond_or, ↓cond_not, ↓cond_ite, ↓if_pos, ↓if_neg, ↓if_true, ↓if_false, List.take_length, Nat.le_refl, Bool.not_true, Bool.not_false, if_pos, if_neg, ↓hxb, ↓withinR_b, h1.1, h1.2.1, h1.2.2, and_self, decide_true, e]
      · exact (h2 k).elim
    · unfold rcB
      by_cases k1 : Ln x.1.length 1000
      · by_cases k2 : 0 ≤ x.2.1 ∧ x.2.1 ≤ 1000
        · have k3 : ¬ NO x.2.2 := fun k => h1 ⟨k1, k2, k⟩
          simp (disch := (first | omega | (simp only [List.length_append, List.length_cons, List.length_nil, List.nil_append, List.length_take, List.length_drop]; omega))) only [↓bindO_some, ↓bindO_none, ↓joinO_inl, ↓joinO_inr, ↓joinO_none, ↓outO_some, ↓outO_none, ↓cond_true, ↓cond_false, ↓cond_and, ↓cond_or, ↓cond_not, ↓cond_ite, ↓if_pos, ↓if_neg, ↓if_true, ↓if_false, List.take_length, Nat.le_refl, Bool.not_true, Bool.not_false, if_pos, if_neg, ↓hxb, ↓withinR_b, k1, k2, k3, and_self, decide_true, decide_false]
        · simp (disch := (first | omega | (simp only [List.length_append, List.length_cons, List.length_nil, List.nil_append, List.length_take, List.length_drop]; omega))) only [↓bindO_some, ↓bindO_none, ↓joinO_inl, ↓joinO_inr, ↓joinO_none, ↓outO_some, ↓outO_none, ↓cond_true, ↓cond_false, ↓cond_and, ↓cond_or, ↓cond_not, ↓cond_ite, ↓if_pos, ↓if_neg, ↓if_true, ↓if_false, List.take_length, Nat.le_refl, Bool.not_true, Bool.not_false, if_pos, if_neg, ↓hxb, ↓withinR_b, k1, k2, and_self, decide_true, decide_false]
      · simp (disch := (first | omega | (simp only [List.length_append, List.length_cons, List.length_nil, List.nil_append, List.length_take, List.length_drop]; omega))) only [↓bindO_some, ↓bindO_none, ↓joinO_inl, ↓joinO_inr, ↓joinO_none, ↓outO_some, ↓outO_none, ↓cond_true, ↓cond_false, ↓cond_and, ↓cond_or, ↓cond_not, ↓cond_ite, ↓if_pos, ↓if_neg, ↓if_true, ↓if_false, List.take_length, Nat.le_refl, Bool.not_true, Bool.not_false, if_pos, if_neg, ↓hxb, ↓withinR_b, k1, decide_false]
  · unfold rcB
    simp (disch := (first | omega | (simp only [List.length_append, List.length_cons, List.length_nil, List.nil_append, List.length_take, List.length_drop]; omega))) only [↓bindO_some, ↓bindO_none, ↓joinO_inl, ↓joinO_inr, ↓joinO_none, ↓outO_some, ↓outO_none, ↓cond_true, ↓cond_false, ↓cond_and, ↓cond_or, ↓cond_not, ↓cond_ite, ↓if_pos, ↓if_neg, ↓if_true, ↓if_false, List.take_length, Nat.le_refl, Bool.not_true, Bool.not_false, if_neg]
theorem fp_j {γ : Type} (l : List Tx) (hl : l.length ≤ 1000) : ((∀ i, i < l.length → POK l i) ∧ loopO (fpB (γ := γ) l) (0 : Int) = some (.inl ())) ∨ (¬ (∀ i, i < l.length → POK l i) ∧ ∃ k : Nat, loopO (fpB (γ := γ) l) (0 : Int) = some (.inr (.inl (k : Int)))) := by
  rcases loop_first (body := fpB (γ := γ) l) l.length (fun k => ¬ POK l k) (fun k => .inr (.inl (k : Int))) (.inl ())
    (fun k hk hb => by
      obtain ⟨x, hx, hxb⟩ := get_at ([] : Tx) hk
      have hb : Ln (l.getD k []).length 1000 := Classical.not_not.1 hb
      rw [hx] at hb
      have hn : ((k : Int) + 1) = ((k + 1 : Nat) : Int) := rfl
      unfold fpB
      simp (disch := (first | omega | (simp only [List.length_append, List.length_cons, List.length_nil, List.nil_append, List.length_take, List.length_drop]; omega))) only [↓bindO_some, ↓bindO_none, ↓joinO_inl, ↓joinO_inr, ↓joinO_none, ↓outO_some, ↓outO_none, ↓cond_true, ↓cond_false, ↓cond_and, ↓cond_or, ↓cond_not, ↓cond_ite, ↓if_pos, ↓if_neg, ↓if_true, ↓if_false, List.take_length, Nat.le_refl, Bool.not_true, Bool.not_false, if_pos, if_neg, ↓hxb, ↓within_b, wrap_i64', hn, hb, and_self, decide_true])
    (fun k hk hb => by
      obtain ⟨x, hx, hxb⟩ := get_at ([] : Tx) hk
      have hb : ¬ Ln (l.getD k []).length 1000 := hb
      rw [hx] at hb
      unfold fpB
      simp (disch := (first | omega | (simp only [List.length_append, List.length_cons, List.length_nil, List.nil_append, List.length_take, List.length_drop]; omega))) only [↓bindO_some, ↓bindO_none, ↓joinO_inl, ↓joinO_inr, ↓joinO_none, ↓outO_some, ↓outO_none, ↓cond_true, ↓cond_false, ↓cond_and, ↓cond_or, ↓cond_not, ↓cond_ite, ↓if_pos, ↓if_neg, ↓if_true, ↓if_false, List.take_length, Nat.le_refl, Bool.not_true, Bool.not_false, if_pos, if_neg, ↓hxb, ↓within_b, hb, decide_false])
    (by unfold fpB; simp (disch := (first | omega | (simp only [List.length_append, List.length_cons, List.length_nil, List.nil_append, List.length_take, List.length_drop]; omega))) only [↓bindO_some, ↓bindO_none, ↓joinO_inl, ↓joinO_inr, ↓joinO_none, ↓outO_some, ↓outO_none, ↓cond_true, ↓cond_false, ↓cond_and, ↓cond_or, ↓cond_not, ↓cond_ite, ↓if_pos, ↓if_neg, ↓if_true, ↓if_false, List.take_length, Nat.le_refl, Bool.not_true, Bool.not_false, if_neg]) with ⟨k, k1, k2, _, e⟩ | ⟨h, e⟩
  · exact .inr ⟨fun g => k2 (g k k1), k, e⟩
  · exact .inl ⟨fun i hi => Classical.not_not.1 (h i hi), e⟩
theorem rp_j (l : List Tx) (hl : l.length ≤ 1000) : ((∀ i, i < l.length → POK l i) ∧ loopO (rpB l) (0 : Int) = some (.inl ())) ∨ (¬ (∀ i, i < l.length → POK l i) ∧ loopO (rpB l) (0 : Int) = some (.inr false)) := by
  refine loop_all (body := rpB l) l.length (POK l) (fun i hi hb => ?_) (fun i hi hb => ?_) ?_
  · obtain ⟨x, hx, hxb⟩ := get_at ([] : Tx) hi
    have hb : Ln (l.getD i []).length 1000 := hb
    rw [hx] at hb
    have hn : ((i : Int) + 1) = ((i + 1 : Nat) : Int) := rfl
    unfold rpB
    simp (disch := (first | omega | (simp only [List.length_append, List.length_cons, List.length_nil, List.nil_append, List.length_take, List.length_drop]; omega))) only [↓bindO_some, ↓bindO_none, ↓joinO_inl, ↓joinO_inr, ↓joinO_none, ↓outO_some, ↓outO_none, ↓cond_true, ↓cond_false, ↓cond_and, ↓cond_or, ↓cond_not, ↓cond_ite, ↓if_pos, ↓if_neg, ↓if_true, ↓if_false, List.take_length, Nat.le_refl, Bool.not_true, Bool.not_false, if_pos, if_neg, ↓hxb, ↓withinR_b, hb, and_self, decide_true, wrap_i64', hn]
  · obtain ⟨x, hx, hxb⟩ := get_at ([] : Tx) hi
    have hb : ¬ Ln (l.getD i []).length 1000 := hb
    rw [hx] at hb
    unfold rpB
    simp (disch := (first | omega | (simp only [List.length_append, List.length_cons, List.length_nil, List.nil_append, List.length_take, List.length_drop]; omega))) only [↓bindO_some, ↓bindO_none, ↓joinO_inl, ↓joinO_inr, ↓joinO_none, ↓outO_some, ↓outO_none, ↓cond_true, ↓cond_false, ↓cond_and, ↓cond_or, ↓cond_not, ↓cond_ite, ↓if_pos, ↓if_neg, ↓if_true, ↓if_false, List.take_length, Nat.le_refl, Bool.not_true, Bool.not_false, if_pos, if_neg, ↓hxb, ↓withinR_b, hb, decide_false]
  · unfold rpB
    simp (disch := (first | omega | (simp only [List.length_append, List.length_cons, List.length_nil, List.nil_append, List.length_take, List.length_drop]; omega))) only [↓bindO_some, ↓bindO_none, ↓joinO_inl, ↓joinO_inr, ↓joinO_none, ↓outO_some, ↓outO_none, ↓cond_true, ↓cond_false, ↓cond_and, ↓cond_or, ↓cond_not, ↓cond_ite, ↓if_pos, ↓if_neg, ↓if_true, ↓if_false, List.take_length, Nat.le_refl, Bool.not_true, Bool.not_false, if_neg]
abbrev F1 (a1 a2 : Tx) (a3 : Int) : Prop := Ln a1.length 255 ∧ Ln a2.length 255 ∧ NN a3
abbrev F3 (a4 : Bool) (a5 : List Ct) (a6 : Int) : Prop := a4 = true → a5.length = 0 ∧ a6 = 0
abbrev F5 (a5 : List Ct) (a7 : Tx) (a8 : Int) : Prop := a8 ≠ 0 → a7 ≠ [] ∧ a5.length ≤ 1
def FM (a1 a2 : Tx) (a3 : Int) (a4 : Bool) (a5 : List Ct) (a6 : Int) (a7 : Tx) (a8 : Int) (a9 : List Tx) : Prop :=
  F1 a1 a2 a3 ∧ (NO a6 ∧ a5.length ≤ 20 ∧ a9.length ≤ 10) ∧ F3 a4 a5 a6 ∧ a7.length ≤ 255 ∧ NN a8 ∧ F5 a5 a7 a8 ∧ (∀ i, i < a5.length → COK a5 i) ∧ (∀ i, i < a9.length → POK a9 i)
theorem formedP_j (a1 a2 : Tx) (a3 : Int) (a4 : Bool) (a5 : List Ct) (a6 : Int) (a7 : Tx) (a8 : Int) (a9 : List Tx) : Is (registrar_Formed (a1, (a2, (a3, (a4, (a5, (a6, (a7, (a8, a9))))))))) (FM a1 a2 a3 a4 a5 a6 a7 a8 a9) := by
  rw [formedP_eq]
  refine Is.and _ ?_
  by_cases h1 : F1 a1 a2 a3
  · refine .inl ⟨h1, (), by simp only [↓bindO_some, ↓bindO_none, ↓joinO_inl, ↓joinO_inr, ↓joinO_none, ↓outO_some, ↓outO_none, ↓cond_true, ↓cond_false, ↓cond_and, ↓cond_or, ↓cond_not, ↓cond_ite, ↓if_pos, ↓if_neg, ↓if_true, ↓if_false, List.take_length, Nat.le_refl, Bool.not_true, Bool.not_false, ↓within_b, h1.1, h1.2.1, h1.2.2, and_self, decide_true], ?_⟩
    refine Is.and _ ?_
    by_cases h2 : NO a6 ∧ a5.length ≤ 20 ∧ a9.length ≤ 10
    · refine .inl ⟨h2, (), by simp (disch := (first | omega | (simp only [List.length_append, List.length_cons, List.length_nil, List.nil_append, List.length_take, List.length_drop]; omega))) only [↓bindO_some, ↓bindO_none, ↓joinO_inl, ↓joinO_inr, ↓joinO_none, ↓outO_some, ↓outO_none, ↓cond_true, ↓cond_false, ↓cond_and, ↓cond_or, ↓cond_not, ↓cond_ite, ↓if_pos, ↓if_neg, ↓if_true, ↓if_false, List.take_length, Nat.le_refl, Bool.not_true, Bool.not_false, ↓within_b, h2.1, and_self, decide_true, if_neg], ?_⟩
      refine Is.and _ ?_
      by_cases h3 : F3 a4 a5 a6
      · refine .inl ⟨h3, (), ?_, ?_⟩
        · cases a4 with
          | false => rfl
          | true =>
            obtain ⟨k1, k2⟩ := h3 rfl
            simp (disch := (first | omega | (simp only [List.length_append, List.length_cons, List.length_nil, List.nil_append, List.length_take, List.length_drop]; omega))) only [↓bindO_some, ↓bindO_none, ↓joinO_inl, ↓joinO_inr, ↓joinO_none, ↓outO_some, ↓outO_none, ↓cond_true, ↓cond_false, ↓cond_and, ↓cond_or, ↓cond_not, ↓cond_ite, ↓if_pos, ↓if_neg, ↓if_true, ↓if_false, List.take_length, Nat.le_refl, Bool.not_true, Bool.not_false, if_neg, k1, k2, ne_eq, not_true, decide_false]
        · by_cases h4 : a7.length ≤ 255
          · by_cases h5 : NN a8
            · simp (disch := (first | omega | (simp only [List.length_append, List.length_cons, List.length_nil, List.nil_append, List.length_take, List.length_drop]; omega))) only [↓bindO_some, ↓bindO_none, ↓joinO_inl, ↓joinO_inr, ↓joinO_none, ↓outO_some, ↓outO_none, ↓cond_true, ↓cond_false, ↓cond_and, ↓cond_or, ↓cond_not, ↓cond_ite, ↓if_pos, ↓if_neg, ↓if_true, ↓if_false, List.take_length, Nat.le_refl, Bool.not_true, Bool.not_false, ↓within_b, h5, and_self, decide_true, if_neg]
              have e : (a7.length ≤ 255 ∧ NN a8 ∧ F5 a5 a7 a8 ∧ (∀ i, i < a5.length → COK a5 i) ∧ (∀ i, i < a9.length → POK a9 i)) = (F5 a5 a7 a8 ∧ (∀ i, i < a5.length → COK a5 i) ∧ (∀ i, i < a9.length → POK a9 i)) := propext ⟨fun h => h.2.2, fun h => ⟨h4, h5, h⟩⟩
              rw [e]
              refine Is.and _ ?_
              by_cases h6 : F5 a5 a7 a8
              · refine .inl ⟨h6, (), ?_, ?_⟩
                · by_cases k : a8 = 0
                  · simp only [↓bindO_some, ↓bindO_none, ↓joinO_inl, ↓joinO_inr, ↓joinO_none, ↓outO_some, ↓outO_none, ↓cond_true, ↓cond_false, ↓cond_and, ↓cond_or, ↓cond_not, ↓cond_ite, ↓if_pos, ↓if_neg, ↓if_true, ↓if_false, List.take_length, Nat.le_refl, Bool.not_true, Bool.not_false, k, ne_eq, not_true, decide_false]
                  · obtain ⟨k1, k2⟩ := h6 k
                    simp (disch := (first | omega | (simp only [List.length_append, List.length_cons, List.length_nil, List.nil_append, List.length_take, List.length_drop]; omega))) only [↓bindO_some, ↓bindO_none, ↓joinO_inl, ↓joinO_inr, ↓joinO_none, ↓outO_some, ↓outO_none, ↓cond_true, ↓cond_false, ↓cond_and, ↓cond_or, ↓cond_not, ↓cond_ite, ↓if_pos, ↓if_neg, ↓if_true, ↓if_false, List.take_length, Nat.le_refl, Bool.not_true, Bool.not_false, k, k1, ne_eq, not_false_iff, decide_true, decide_false, if_neg, if_true, if_false]
                · refine Is.and _ ?_
                  rcases fc_j a5 (by omega) with ⟨h7, e7⟩ | ⟨h7, e7⟩
                  · refine .inl ⟨h7, (), e7, ?_⟩
                    rcases fp_j (γ := Bool) a9 (by omega) with ⟨h8, e8⟩ | ⟨h8, k, e8⟩
                    · rw [e8]; exact Is.t h8
                    · rw [e8]
                      have k0 : (k : Int) ≥ 0 := by omega
                      simp only [↓bindO_some, ↓bindO_none, ↓joinO_inl, ↓joinO_inr, ↓joinO_none, ↓outO_some, ↓outO_none, ↓cond_true, ↓cond_false, ↓cond_and, ↓cond_or, ↓cond_not, ↓cond_ite, ↓if_pos, ↓if_neg, ↓if_true, ↓if_false, List.take_length, Nat.le_refl, Bool.not_true, Bool.not_false, k0, decide_true]
                      exact Is.f h8
                  · exact .inr ⟨h7, e7⟩
              · refine .inr ⟨h6, ?_⟩
                have k : a8 ≠ 0 := fun k => h6 fun g => (g k).elim
                by_cases k1 : a7 = []
                · simp only [↓bindO_some, ↓bindO_none, ↓joinO_inl, ↓joinO_inr, ↓joinO_none, ↓outO_some, ↓outO_none, ↓cond_true, ↓cond_false, ↓cond_and, ↓cond_or, ↓cond_not, ↓cond_ite, ↓if_pos, ↓if_neg, ↓if_true, ↓if_false, List.take_length, Nat.le_refl, Bool.not_true, Bool.not_false, k, k1, ne_eq, not_false_iff, decide_true]
                · have k2 : ¬ a5.length ≤ 1 := fun k2 => h6 fun _ => ⟨k1, k2⟩
                  simp (disch := (first | omega | (simp only [List.length_append, List.length_cons, List.length_nil, List.nil_append, List.length_take, List.length_drop]; omega))) only [↓bindO_some, ↓bindO_none, ↓joinO_inl, ↓joinO_inr, ↓joinO_none, ↓outO_some, ↓outO_none, ↓cond_true, ↓cond_false, ↓cond_and, ↓cond_or, ↓cond_not, ↓cond_ite, ↓if_pos, ↓if_neg, ↓if_true, ↓if_false, List.take_length, Nat.le_refl, Bool.not_true, Bool.not_false, k, k1, ne_eq, not_false_iff, decide_true, decide_false, if_pos, if_true, if_false]
            · simp (disch := (first | omega | (simp only [List.length_append, List.length_cons, List.length_nil, List.nil_append, List.length_take, List.length_drop]; omega))) only [↓bindO_some, ↓bindO_none, ↓joinO_inl, ↓joinO_inr, ↓joinO_none, ↓outO_some, ↓outO_none, ↓cond_true, ↓cond_false, ↓cond_and, ↓cond_or, ↓cond_not, ↓cond_ite, ↓if_pos, ↓if_neg, ↓if_true, ↓if_false, List.take_length, Nat.le_refl, Bool.not_true, Bool.not_false, ↓within_b, h5, decide_false, if_neg]
              exact Is.f fun k => absurd k.2.1 (by simp [h5])
          · simp (disch := (first | omega | (simp only [List.length_append, List.length_cons, List.length_nil, List.nil_append, List.length_take, List.length_drop]; omega))) only [↓bindO_some, ↓bindO_none, ↓joinO_inl, ↓joinO_inr, ↓joinO_none, ↓outO_some, ↓outO_none, ↓cond_true, ↓cond_false, ↓cond_and, ↓cond_or, ↓cond_not, ↓cond_ite, ↓if_pos, ↓if_neg, ↓if_true, ↓if_false, List.take_length, Nat.le_refl, Bool.not_true, Bool.not_false, if_pos]
            exact Is.f fun k => h4 k.1
      · refine .inr ⟨h3, ?_⟩
        cases a4 with
        | false => exact (h3 fun g => by cases g).elim
        | true =>
          by_cases k1 : a5.length = 0
          · have k2 : a6 ≠ 0 := fun k2 => h3 fun _ => ⟨k1, k2⟩
            simp (disch := (first | omega | (simp only [List.length_append, List.length_cons, List.length_nil, List.nil_append, List.length_take, List.length_drop]; omega))) only [↓bindO_some, ↓bindO_none, ↓joinO_inl, ↓joinO_inr, ↓joinO_none, ↓outO_some, ↓outO_none, ↓cond_true, ↓cond_false, ↓cond_and, ↓cond_or, ↓cond_not, ↓cond_ite, ↓if_pos, ↓if_neg, ↓if_true, ↓if_false, List.take_length, Nat.le_refl, Bool.not_true, Bool.not_false, if_neg, if_pos, k1, k2, ne_eq, not_false_iff, decide_true, if_true]
          · simp (disch := (first | omega | (simp only [List.length_append, List.length_cons, List.length_nil, List.nil_append, List.length_take, List.length_drop]; omega))) only [↓bindO_some, ↓bindO_none, ↓joinO_inl, ↓joinO_inr, ↓joinO_none, ↓outO_some, ↓outO_none, ↓cond_true, ↓cond_false, ↓cond_and, ↓cond_or, ↓cond_not, ↓cond_ite, ↓if_pos, ↓if_neg, ↓if_true, ↓if_false, List.take_length, Nat.le_refl, Bool.not_true, Bool.not_false, if_pos]
    · refine .inr ⟨h2, ?_⟩
      by_cases k1 : NO a6
      · by_cases k2 : a5.length ≤ 20
        · have k3 : ¬ a9.length ≤ 10 := fun k => h2 ⟨k1, k2, k⟩
          simp (disch := (first | omega | (simp only [List.length_append, List.length_cons, List.length_nil, List.nil_append, List.length_take, List.length_drop]; omega))) only [↓bindO_some, ↓bindO_none, ↓joinO_inl, ↓joinO_inr, ↓joinO_none, ↓outO_some, ↓outO_none, ↓cond_true, ↓cond_false, ↓cond_and, ↓cond_or, ↓cond_not, ↓cond_ite, ↓if_pos, ↓if_neg, ↓if_true, ↓if_false, List.take_length, Nat.le_refl, Bool.not_true, Bool.not_false, ↓within_b, k1, and_self, decide_true, if_neg, if_pos]
        · simp (disch := (first | omega | (simp only [List.length_append, List.length_cons, List.length_nil, List.nil_append, List.length_take, List.length_drop]; omega))) only [↓bindO_some, ↓bindO_none, ↓joinO_inl, ↓joinO_inr, ↓joinO_none, ↓outO_some, ↓outO_none, ↓cond_true, ↓cond_false, ↓cond_and, ↓cond_or, ↓cond_not, ↓cond_ite, ↓if_pos, ↓if_neg, ↓if_true, ↓if_false, List.take_length, Nat.le_refl, Bool.not_true, Bool.not_false, ↓within_b, k1, and_self, decide_true, if_pos]
      · simp (disch := (first | omega | (simp only [List.length_append, List.length_cons, List.length_nil, List.nil_append, List.length_take, List.length_drop]; omega))) only [↓bindO_some, ↓bindO_none, ↓joinO_inl, ↓joinO_inr, ↓joinO_none, ↓outO_some, ↓outO_none, ↓cond_true, ↓cond_false, ↓cond_and, ↓cond_or, ↓cond_not, ↓cond_ite, ↓if_pos, ↓if_neg, ↓if_true, ↓if_false, List.take_length, Nat.le_refl, Bool.not_true, Bool.not_false, ↓within_b, k1, decide_false]
  · refine .inr ⟨h1, ?_⟩
    by_cases k1 : Ln a1.length 255
    · by_cases k2 : Ln a2.length 255
      · have k3 : ¬ NN a3 := fun k => h1 ⟨k1, k2, k⟩
        simp only [↓bindO_some, ↓bindO_none, ↓joinO_inl, ↓joinO_inr, ↓joinO_none, ↓outO_some, ↓outO_none, ↓cond_true, ↓cond_false, ↓cond_and, ↓cond_or, ↓cond_not, ↓cond_ite, ↓if_pos, ↓if_neg, ↓if_true, ↓if_false, List.take_length, Nat.le_refl, Bool.not_true, Bool.not_false, ↓within_b, k1, k2, k3, and_self, decide_true, decide_false]
      · simp only [↓bindO_some, ↓bindO_none, ↓joinO_inl, ↓joinO_inr, ↓joinO_none, ↓outO_some, ↓outO_none, ↓cond_true, ↓cond_false, ↓cond_and, ↓cond_or, ↓cond_not, ↓cond_ite, ↓if_pos, ↓if_neg, ↓if_true, ↓if_false, List.take_length, Nat.le_refl, Bool.not_true, Bool.not_false, ↓within_b, k1, k2, and_self, decide_true, decide_false]
    · simp only [↓bindO_some, ↓bindO_none, ↓joinO_inl, ↓joinO_inr, ↓joinO_none, ↓outO_some, ↓outO_none, ↓cond_true, ↓cond_false, ↓cond_and, ↓cond_or, ↓cond_not, ↓cond_ite, ↓if_pos, ↓if_neg, ↓if_true, ↓if_false, List.take_length, Nat.le_refl, Bool.not_true, Bool.not_false, ↓within_b, k1, decide_false]
theorem contacts_j (a1 a2 : Tx) (a3 : Int) (a4 : Bool) (a5 : List Ct) (a6 : Int) (a7 : Tx) (a8 : Int) (a9 : List Tx) : Is (dialtoneref22_contacts (a1, (a2, (a3, (a4, (a5, (a6, (a7, (a8, a9))))))))) ((a5.length ≤ 20 ∧ F3 a4 a5 a6) ∧ (∀ i, i < a5.length → COK a5 i)) := by
  rw [contacts_eq]
  refine Is.and _ ?_
  by_cases h2 : a5.length ≤ 20
  · by_cases h3 : F3 a4 a5 a6
    · refine .inl ⟨⟨h2, h3⟩, (), ?_, ?_⟩
      · cases a4 with
        | false => simp (disch := (first | omega | (simp only [List.length_append, List.length_cons, List.length_nil, List.nil_append, List.length_take, List.length_drop]; omega))) only [↓bindO_some, ↓bindO_none, ↓joinO_inl, ↓joinO_inr, ↓joinO_none, ↓outO_some, ↓outO_none, ↓cond_true, ↓cond_false, ↓cond_and, ↓cond_or, ↓cond_not, ↓cond_ite, ↓if_pos, ↓if_neg, ↓if_true, ↓if_false, List.take_length, Nat.le_refl, Bool.not_true, Bool.not_false, if_neg]
        | true =>
          obtain ⟨k1, k2⟩ := h3 rfl
          simp (disch := (first | omega | (simp only [List.length_append, List.length_cons, List.length_nil, List.nil_append, List.length_take, List.length_drop]; omega))) only [↓bindO_some, ↓bindO_none, ↓joinO_inl, ↓joinO_inr, ↓joinO_none, ↓outO_some, ↓outO_none, ↓cond_true, ↓cond_false, ↓cond_and, ↓cond_or, ↓cond_not, ↓cond_ite, ↓if_pos, ↓if_neg, ↓if_true, ↓if_false, List.take_length, Nat.le_refl, Bool.not_true, Bool.not_false, if_neg, k1, k2, ne_eq, not_true, decide_false]
      · rcases rc_j a5 (by omega) with ⟨h7, e7⟩ | ⟨h7, e7⟩
        · rw [e7]; exact Is.t h7
        · rw [e7]; exact Is.f h7
    · refine .inr ⟨fun k => h3 k.2, ?_⟩
      cases a4 with
      | false => exact (h3 fun g => by cases g).elim
      | true =>
        by_cases k1 : a5.length = 0
        · have k2 : a6 ≠ 0 := fun k2 => h3 fun _ => ⟨k1, k2⟩
          simp (disch := (first | omega | (simp only [List.length_append, List.length_cons, List.length_nil, List.nil_append, List.length_take, List.length_drop]; omega))) only [↓bindO_some, ↓bindO_none, ↓joinO_inl, ↓joinO_inr, ↓joinO_none, ↓outO_some, ↓outO_none, ↓cond_true, ↓cond_false, ↓cond_and, ↓cond_or, ↓cond_not, ↓cond_ite, ↓if_pos, ↓if_neg, ↓if_true, ↓if_false, List.take_length, Nat.le_refl, Bool.not_true, Bool.not_false, if_neg, if_pos, k1, k2, ne_eq, not_true, not_false_iff, decide_true, decide_false, if_true, if_false]
        · simp (disch := (first | omega | (simp only [List.length_append, List.length_cons, List.length_nil, List.nil_append, List.length_take, List.length_drop]; omega))) only [↓bindO_some, ↓bindO_none, ↓joinO_inl, ↓joinO_inr, ↓joinO_none, ↓outO_some, ↓outO_none, ↓cond_true, ↓cond_false, ↓cond_and, ↓cond_or, ↓cond_not, ↓cond_ite, ↓if_pos, ↓if_neg, ↓if_true, ↓if_false, List.take_length, Nat.le_refl, Bool.not_true, Bool.not_false, if_neg, if_pos, ne_eq]
  · exact .inr ⟨fun k => h2 k.1, by simp (disch := (first | omega | (simp only [List.length_append, List.length_cons, List.length_nil, List.nil_append, List.length_take, List.length_drop]; omega))) only [↓bindO_some, ↓bindO_none, ↓joinO_inl, ↓joinO_inr, ↓joinO_none, ↓outO_some, ↓outO_none, ↓cond_true, ↓cond_false, ↓cond_and, ↓cond_or, ↓cond_not, ↓cond_ite, ↓if_pos, ↓if_neg, ↓if_true, ↓if_false, List.take_length, Nat.le_refl, Bool.not_true, Bool.not_false, if_pos]⟩
theorem formedR_j (a1 a2 : Tx) (a3 : Int) (a4 : Bool) (a5 : List Ct) (a6 : Int) (a7 : Tx) (a8 : Int) (a9 : List Tx) : Is (dialtoneref22_Formed (a1, (a2, (a3, (a4, (a5, (a6, (a7, (a8, a9))))))))) ((F1 a1 a2 a3 ∧ NO a6) ∧ (((a5.length ≤ 20 ∧ F3 a4 a5 a6) ∧ (∀ i, i < a5.length → COK a5 i)) ∧ a7.length ≤ 255 ∧ NN a8) ∧ (F5 a5 a7 a8 ∧ a9.length ≤ 10) ∧ (∀ i, i < a9.length → POK a9 i)) := by
  rw [formedR_eq]
  refine Is.and _ ?_
  by_cases h1 : F1 a1 a2 a3
  · by_cases h2 : NO a6
    · refine .inl ⟨⟨h1, h2⟩, (), by simp only [↓bindO_some, ↓bindO_none, ↓joinO_inl, ↓joinO_inr, ↓joinO_none, ↓outO_some, ↓outO_none, ↓cond_true, ↓cond_false, ↓cond_and, ↓cond_or, ↓cond_not, ↓cond_ite, ↓if_pos, ↓if_neg, ↓if_true, ↓if_false, List.take_length, Nat.le_refl, Bool.not_true, Bool.not_false, ↓withinR_b, h1.1, h1.2.1, h1.2.2, h2, and_self, decide_true], ?_⟩
      refine Is.and _ ?_
      rcases contacts_j a1 a2 a3 a4 a5 a6 a7 a8 a9 with ⟨hc, ec⟩ | ⟨hc, ec⟩
      · by_cases h4 : a7.length ≤ 255
        · by_cases h5 : NN a8
          · refine .inl ⟨⟨hc, h4, h5⟩, (), by simp (disch := (first | omega | (simp only [List.length_append, List.length_cons, List.length_nil, List.nil_append, List.length_take, List.length_drop]; omega))) only [↓bindO_some, ↓bindO_none, ↓joinO_inl, ↓joinO_inr, ↓joinO_none, ↓outO_some, ↓outO_none, ↓cond_true, ↓cond_false, ↓cond_and, ↓cond_or, ↓cond_not, ↓cond_ite, ↓if_pos, ↓if_neg, ↓if_true, ↓if_false, List.take_length, Nat.le_refl, Bool.not_true, Bool.not_false, ec, ↓withinR_b, h5, and_self, decide_true, if_neg], ?_⟩
            refine Is.and _ ?_
            by_cases h6 : F5 a5 a7 a8
            · by_cases h9 : a9.length ≤ 10
              · refine .inl ⟨⟨h6, h9⟩, (), ?_, ?_⟩
                · by_cases k : a8 = 0
                  · simp (disch := (first | omega | (simp only [List.length_append, List.length_cons, List.length_nil, List.nil_append, List.length_take, List.length_drop]; omega))) only [↓bindO_some, ↓bindO_none, ↓joinO_inl, ↓joinO_inr, ↓joinO_none, ↓outO_some, ↓outO_none, ↓cond_true, ↓cond_false, ↓cond_and, ↓cond_or, ↓cond_not, ↓cond_ite, ↓if_pos, ↓if_neg, ↓if_true, ↓if_false, List.take_length, Nat.le_refl, Bool.not_true, Bool.not_false, k, ne_eq, not_true, decide_false, if_neg]
                  · obtain ⟨k1, k2⟩ := h6 k
                    have k1 : ¬ ((a7.length : Nat) : Int) = 0 := fun g => k1 (List.length_eq_zero_iff.1 (by omega))
                    simp (disch := (first | omega | (simp only [List.length_append, List.length_cons, List.length_nil, List.nil_append, List.length_take, List.length_drop]; omega))) only [↓bindO_some, ↓bindO_none, ↓joinO_inl, ↓joinO_inr, ↓joinO_none, ↓outO_some, ↓outO_none, ↓cond_true, ↓cond_false, ↓cond_and, ↓cond_or, ↓cond_not, ↓cond_ite, ↓if_pos, ↓if_neg, ↓if_true, ↓if_false, List.take_length, Nat.le_refl, Bool.not_true, Bool.not_false, k, k1, ne_eq, not_false_iff, decide_true, decide_false, if_neg, if_true, if_false]
                · rcases rp_j a9 (by omega) with ⟨h8, e8⟩ | ⟨h8, e8⟩
                  · rw [e8]; exact Is.t h8
                  · rw [e8]; exact Is.f h8
              · refine .inr ⟨fun k => h9 k.2, ?_⟩
                by_cases k : a8 = 0
                · simp (disch := (first | omega | (simp only [List.length_append, List.length_cons, List.length_nil, List.nil_append, List.length_take, List.length_drop]; omega))) only [↓bindO_some, ↓bindO_none, ↓joinO_inl, ↓joinO_inr, ↓joinO_none, ↓outO_some, ↓outO_none, ↓cond_true, ↓cond_false, ↓cond_and, ↓cond_or, ↓cond_not, ↓cond_ite, ↓if_pos, ↓if_neg, ↓if_true, ↓if_false, List.take_length, Nat.le_refl, Bool.not_true, Bool.not_false, k, ne_eq, not_true, decide_false, if_pos]
                · obtain ⟨k1, k2⟩ := h6 k
                  have k1 : ¬ ((a7.length : Nat) : Int) = 0 := fun g => k1 (List.length_eq_zero_iff.1 (by omega))
                  simp (disch := (first | omega | (simp only [List.length_append, List.length_cons, List.length_nil, List.nil_append, List.length_take, List.length_drop]; omega))) only [↓bindO_some, ↓bindO_none, ↓joinO_inl, ↓joinO_inr, ↓joinO_none, ↓outO_some, ↓outO_none, ↓cond_true, ↓cond_false, ↓cond_and, ↓cond_or, ↓cond_not, ↓cond_ite, ↓if_pos, ↓if_neg, ↓if_true, ↓if_false, List.take_length, Nat.le_refl, Bool.not_true, Bool.not_false, k, k1, ne_eq, not_false_iff, decide_true, decide_false, if_neg, if_pos, if_true, if_false]
            · refine .inr ⟨fun k => h6 k.1, ?_⟩
              have k : a8 ≠ 0 := fun k => h6 fun g => (g k).elim
              by_cases k1 : a7 = []
              · have k1 : ((a7.length : Nat) : Int) = 0 := by rw [k1]; rfl
                simp only [↓bindO_some, ↓bindO_none, ↓joinO_inl, ↓joinO_inr, ↓joinO_none, ↓outO_some, ↓outO_none, ↓cond_true, ↓cond_false, ↓cond_and, ↓cond_or, ↓cond_not, ↓cond_ite, ↓if_pos, ↓if_neg, ↓if_true, ↓if_false, List.take_length, Nat.le_refl, Bool.not_true, Bool.not_false, k, k1, ne_eq, not_false_iff, decide_true]
              · have k2 : ¬ a5.length ≤ 1 := fun k2 => h6 fun _ => ⟨k1, k2⟩
                have k1 : ¬ ((a7.length : Nat) : Int) = 0 := fun g => k1 (List.length_eq_zero_iff.1 (by omega))
                simp (disch := (first | omega | (simp only [List.length_append, List.length_cons, List.length_nil, List.nil_append, List.length_take, List.length_drop]; omega))) only [↓bindO_some, ↓bindO_none, ↓joinO_inl, ↓joinO_inr, ↓joinO_none, ↓outO_some, ↓outO_none, ↓cond_true, ↓cond_false, ↓cond_and, ↓cond_or, ↓cond_not, ↓cond_ite, ↓if_pos, ↓if_neg, ↓if_true, ↓if_false, List.take_length, Nat.le_refl, Bool.not_true, Bool.not_false, k, k1, ne_eq, not_false_iff, decide_true, decide_false, if_pos, if_true, if_false]
          · exact .inr ⟨fun k => h5 k.2.2, by simp (disch := (first | omega | (simp only [List.length_append, List.length_cons, List.length_nil, List.nil_append, List.length_take, List.length_drop]; omega))) only [↓bindO_some, ↓bindO_none, ↓joinO_inl, ↓joinO_inr, ↓joinO_none, ↓outO_some, ↓outO_none, ↓cond_true, ↓cond_false, ↓cond_and, ↓cond_or, ↓cond_not, ↓cond_ite, ↓if_pos, ↓if_neg, ↓if_true, ↓if_false, List.take_length, Nat.le_refl, Bool.not_true, Bool.not_false, ec, ↓withinR_b, h5, decide_false, if_neg]⟩
        · exact .inr ⟨fun k => h4 k.2.1, by simp (disch := (first | omega | (simp only [List.length_append, List.length_cons, List.length_nil, List.nil_append, List.length_take, List.length_drop]; omega))) only [↓bindO_some, ↓bindO_none, ↓joinO_inl, ↓joinO_inr, ↓joinO_none, ↓outO_some, ↓outO_none, ↓cond_true, ↓cond_false, ↓cond_and, ↓cond_or, ↓cond_not, ↓cond_ite, ↓if_pos, ↓if_neg, ↓if_true, ↓if_false, List.take_length, Nat.le_refl, Bool.not_true, Bool.not_false, ec, if_pos]⟩
      · exact .inr ⟨fun k => hc k.1, by simp only [↓bindO_some, ↓bindO_none, ↓joinO_inl, ↓joinO_inr, ↓joinO_none, ↓outO_some, ↓outO_none, ↓cond_true, ↓cond_false, ↓cond_and, ↓cond_or, ↓cond_not, ↓cond_ite, ↓if_pos, ↓if_neg, ↓if_true, ↓if_false, List.take_length, Nat.le_refl, Bool.not_true, Bool.not_false, ec]⟩
    · exact .inr ⟨fun k => h2 k.2, by simp only [↓bindO_some, ↓bindO_none, ↓joinO_inl, ↓joinO_inr, ↓joinO_none, ↓outO_some, ↓outO_none, ↓cond_true, ↓cond_false, ↓cond_and, ↓cond_or, ↓cond_not, ↓cond_ite, ↓if_pos, ↓if_neg, ↓if_true, ↓if_false, List.take_length, Nat.le_refl, Bool.not_true, Bool.not_false, ↓withinR_b, h1.1, h1.2.1, h1.2.2, h2, and_self, decide_true, decide_false]⟩
  · refine .inr ⟨fun k => h1 k.1, ?_⟩
    by_cases k1 : Ln a1.length 255
    · by_cases k2 : Ln a2.length 255
      · have k3 : ¬ NN a3 := fun k => h1 ⟨k1, k2, k⟩
        simp only [↓bindO_some, ↓bindO_none, ↓joinO_inl, ↓joinO_inr, ↓joinO_none, ↓outO_some, ↓outO_none, ↓cond_true, ↓cond_false, ↓cond_and, ↓cond_or, ↓cond_not, ↓cond_ite, ↓if_pos, ↓if_neg, ↓if_true, ↓if_false, List.take_length, Nat.le_refl, Bool.not_true, Bool.not_false, ↓withinR_b, k1, k2, k3, and_self, decide_true, decide_false]
      · simp only [↓bindO_some, ↓bindO_none, ↓joinO_inl, ↓joinO_inr, ↓joinO_none, ↓outO_some, ↓outO_none, ↓cond_true, ↓cond_false, ↓cond_and, ↓cond_or, ↓cond_not, ↓cond_ite, ↓if_pos, ↓if_neg, ↓if_true, ↓if_false, List.take_length, Nat.le_refl, Bool.not_true, Bool.not_false, ↓withinR_b, k1, k2, and_self, decide_true, decide_false]
    · simp only [↓bindO_some, ↓bindO_none, ↓joinO_inl, ↓joinO_inr, ↓joinO_none, ↓outO_some, ↓outO_none, ↓cond_true, ↓cond_false, ↓cond_and, ↓cond_or, ↓cond_not, ↓cond_ite, ↓if_pos, ↓if_neg, ↓if_true, ↓if_false, List.take_length, Nat.le_refl, Bool.not_true, Bool.not_false, ↓withinR_b, k1, decide_false]
abbrev Sml (a1 a2 : Tx) (a5 : List Ct) (a7 : Tx) (a9 : List Tx) : Prop := a5.length ≤ 30 ∧ a9.length ≤ 30 ∧ a1.length ≤ 2000 ∧ a2.length ≤ 2000 ∧ a7.length ≤ 2000
theorem few_j (a1 a2 : Tx) (a3 : Int) (a4 : Bool) (a5 : List Ct) (a6 : Int) (a7 : Tx) (a8 : Int) (a9 : List Tx) : Is (dialtonelaw22_few (a1, (a2, (a3, (a4, (a5, (a6, (a7, (a8, a9))))))))) (Sml a1 a2 a5 a7 a9 ∧ (∀ i, i < a5.length → (a5.getD i c0).1.length ≤ 2000) ∧ (∀ i, i < a9.length → (a9.getD i []).length ≤ 2000)) := by
  rw [few_eq]
  refine Is.and _ ?_
  by_cases h : Sml a1 a2 a5 a7 a9
  · obtain ⟨h1, h2, h3, h4, h5⟩ := h
    refine .inl ⟨⟨h1, h2, h3, h4, h5⟩, (), by simp (disch := (first | omega | (simp only [List.length_append, List.length_cons, List.length_nil, List.nil_append, List.length_take, List.length_drop]; omega))) only [↓bindO_some, ↓bindO_none, ↓joinO_inl, ↓joinO_inr, ↓joinO_none, ↓outO_some, ↓outO_none, ↓cond_true, ↓cond_false, ↓cond_and, ↓cond_or, ↓cond_not, ↓cond_ite, ↓if_pos, ↓if_neg, ↓if_true, ↓if_false, List.take_length, Nat.le_refl, Bool.not_true, Bool.not_false, if_neg], ?_⟩
    refine Is.and _ ?_
    rcases loop_all (body := fwB a5) a5.length (fun i => (a5.getD i c0).1.length ≤ 2000)
      (fun i hi hb => by
        obtain ⟨x, hx, hxb⟩ := get_at c0 hi
        rw [hx] at hb
        have hn : ((i : Int) + 1) = ((i + 1 : Nat) : Int) := rfl
        unfold fwB
        simp (disch := (first | omega | (simp only [List.length_append, List.length_cons, List.length_nil, List.nil_append, List.length_take, List.length_drop]; omega))) only [↓bindO_some, ↓bindO_none, ↓joinO_inl, ↓joinO_inr, ↓joinO_none, ↓outO_some, ↓outO_none, ↓cond_true, ↓cond_false, ↓cond_and, ↓cond_or, ↓cond_not, ↓cond_ite, ↓if_pos, ↓if_neg, ↓if_true, ↓if_false, List.take_length, Nat.le_refl, Bool.not_true, Bool.not_false, if_pos, if_neg, ↓hxb, wrap_i64', hn])
      (fun i hi hb => by
        obtain ⟨x, hx, hxb⟩ := get_at c0 hi
        rw [hx] at hb
        unfold fwB
        simp (disch := (first | omega | (simp only [List.length_append, List.length_cons, List.length_nil, List.nil_append, List.length_take, List.length_drop]; omega))) only [↓bindO_some, ↓bindO_none, ↓joinO_inl, ↓joinO_inr, ↓joinO_none, ↓outO_some, ↓outO_none, ↓cond_true, ↓cond_false, ↓cond_and, ↓cond_or, ↓cond_not, ↓cond_ite, ↓if_pos, ↓if_neg, ↓if_true, ↓if_false, List.take_length, Nat.le_refl, Bool.not_true, Bool.not_false, if_pos, ↓hxb])
      (by unfold fwB; simp (disch := (first | omega | (simp only [List.length_append, List.length_cons, List.length_nil, List.nil_append, List.length_take, List.length_drop]; omega))) only [↓bindO_some, ↓bindO_none, ↓joinO_inl, ↓joinO_inr, ↓joinO_none, ↓outO_some, ↓outO_none, ↓cond_true, ↓cond_false, ↓cond_and, ↓cond_or, ↓cond_not, ↓cond_ite, ↓if_pos, ↓if_neg, ↓if_true, ↓if_false, List.take_length, Nat.le_refl, Bool.not_true, Bool.not_false, if_neg]) with ⟨h6, e⟩ | ⟨h6, e⟩
    · refine .inl ⟨h6, (), e, ?_⟩
      rcases loop_all (body := fwB2 a9) a9.length (fun i => (a9.getD i []).length ≤ 2000)
        (fun i hi hb => by
          obtain ⟨x, hx, hxb⟩ := get_at ([] : Tx) hi
          rw [hx] at hb
          have hn : ((i : Int) + 1) = ((i + 1 : Nat) : Int) := rfl
          unfold fwB2
          simp (disch := (first | omega | (simp only [List.length_append, List.length_cons, List.length_nil, List.nil_append, List.length_take, List.length_drop]; omega))) only [↓bindO_some, ↓bindO_none, ↓joinO_inl, ↓joinO_inr, ↓joinO_none, ↓outO_some, ↓outO_none, ↓cond_true, ↓cond_false, ↓cond_and, ↓cond_or, ↓cond_not, ↓cond_ite, ↓if_pos, ↓if_neg, ↓if_true, ↓if_false, List.take_length, Nat.le_refl, Bool.not_true, Bool.not_false, if_pos, if_neg, ↓hxb, wrap_i64', hn])
        (fun i hi hb => by
          obtain ⟨x, hx, hxb⟩ := get_at ([] : Tx) hi
          rw [hx] at hb
          unfold fwB2
          simp (disch := (first | omega | (simp only [List.length_append, List.length_cons, List.length_nil, List.nil_append, List.length_take, List.length_drop]; omega))) only [↓bindO_some, ↓bindO_none, ↓joinO_inl, ↓joinO_inr, ↓joinO_none, ↓outO_some, ↓outO_none, ↓cond_true, ↓cond_false, ↓cond_and, ↓cond_or, ↓cond_not, ↓cond_ite, ↓if_pos, ↓if_neg, ↓if_true, ↓if_false, List.take_length, Nat.le_refl, Bool.not_true, Bool.not_false, if_pos, ↓hxb])
        (by unfold fwB2; simp (disch := (first | omega | (simp only [List.length_append, List.length_cons, List.length_nil, List.nil_append, List.length_take, List.length_drop]; omega))) only [↓bindO_some, ↓bindO_none, ↓joinO_inl, ↓joinO_inr, ↓joinO_none, ↓outO_some, ↓outO_none, ↓cond_true, ↓cond_false, ↓cond_and, ↓cond_or, ↓cond_not, ↓cond_ite, ↓if_pos, ↓if_neg, ↓if_true, ↓if_false, List.take_length, Nat.le_refl, Bool.not_true, Bool.not_false, if_neg]) with ⟨h7, e⟩ | ⟨h7, e⟩
      · rw [e]; exact Is.t h7
      · rw [e]; exact Is.f h7
    · exact .inr ⟨h6, e⟩
  · refine .inr ⟨h, ?_⟩
    by_cases k1 : a5.length ≤ 30
    · by_cases k2 : a9.length ≤ 30
      · by_cases k3 : a1.length ≤ 2000
        · by_cases k4 : a2.length ≤ 2000
          · have k5 : ¬ a7.length ≤ 2000 := fun k => h ⟨k1, k2, k3, k4, k⟩
            simp (disch := (first | omega | (simp only [List.length_append, List.length_cons, List.length_nil, List.nil_append, List.length_take, List.length_drop]; omega))) only [↓bindO_some, ↓bindO_none, ↓joinO_inl, ↓joinO_inr, ↓joinO_none, ↓outO_some, ↓outO_none, ↓cond_true, ↓cond_false, ↓cond_and, ↓cond_or, ↓cond_not, ↓cond_ite, ↓if_pos, ↓if_neg, ↓if_true, ↓if_false, List.take_length, Nat.le_refl, Bool.not_true, Bool.not_false, if_pos, if_neg]
          · simp (disch := (first | omega | (simp only [List.length_append, List.length_cons, List.length_nil, List.nil_append, List.length_take, List.length_drop]; omega))) only [↓bindO_some, ↓bindO_none, ↓joinO_inl, ↓joinO_inr, ↓joinO_none, ↓outO_some, ↓outO_none, ↓cond_true, ↓cond_false, ↓cond_and, ↓cond_or, ↓cond_not, ↓cond_ite, ↓if_pos, ↓if_neg, ↓if_true, ↓if_false, List.take_length, Nat.le_refl, Bool.not_true, Bool.not_false, if_pos, if_neg]
        · simp (disch := (first | omega | (simp only [List.length_append, List.length_cons, List.length_nil, List.nil_append, List.length_take, List.length_drop]; omega))) only [↓bindO_some, ↓bindO_none, ↓joinO_inl, ↓joinO_inr, ↓joinO_none, ↓outO_some, ↓outO_none, ↓cond_true, ↓cond_false, ↓cond_and, ↓cond_or, ↓cond_not, ↓cond_ite, ↓if_pos, ↓if_neg, ↓if_true, ↓if_false, List.take_length, Nat.le_refl, Bool.not_true, Bool.not_false, if_pos, if_neg]
      · simp (disch := (first | omega | (simp only [List.length_append, List.length_cons, List.length_nil, List.nil_append, List.length_take, List.length_drop]; omega))) only [↓bindO_some, ↓bindO_none, ↓joinO_inl, ↓joinO_inr, ↓joinO_none, ↓outO_some, ↓outO_none, ↓cond_true, ↓cond_false, ↓cond_and, ↓cond_or, ↓cond_not, ↓cond_ite, ↓if_pos, ↓if_neg, ↓if_true, ↓if_false, List.take_length, Nat.le_refl, Bool.not_true, Bool.not_false, if_pos, if_neg]
    · simp (disch := (first | omega | (simp only [List.length_append, List.length_cons, List.length_nil, List.nil_append, List.length_take, List.length_drop]; omega))) only [↓bindO_some, ↓bindO_none, ↓joinO_inl, ↓joinO_inr, ↓joinO_none, ↓outO_some, ↓outO_none, ↓cond_true, ↓cond_false, ↓cond_and, ↓cond_or, ↓cond_not, ↓cond_ite, ↓if_pos, ↓if_neg, ↓if_true, ↓if_false, List.take_length, Nat.le_refl, Bool.not_true, Bool.not_false, if_pos]
end Go.Proofs.Ytlaccfegaoaakaa
