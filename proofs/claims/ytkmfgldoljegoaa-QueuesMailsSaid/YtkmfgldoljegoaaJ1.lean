/- Chapter 36, plain: parking lots. Printed by mk1.py. -/
import Derived.Test.YtkmfgldoljegoaaZ1
import Derived.Test.YtkmfgldoljegoaaY3
set_option linter.unusedVariables false
set_option linter.unusedSimpArgs false
set_option maxRecDepth 100000
namespace Go.Proofs.Ytkmfgldoljegoaa
open Go.RowKit

abbrev Pl := Int × (Int × Int)
abbrev Lt := Int × (Int × (Int × List Pl))
noncomputable def miB (x10 : Pl) (v8 : Int) (x17 : List Pl) : Int → Option (Int ⊕ ((Int × Int) ⊕ ((Int × Int) ⊕ (Unit ⊕ Bool)))) :=
(fun v18 =>
         bif (decide (v18 < (((List.length x17) : Nat) : Int))) then
          bif (decide (((0 : Int) ≤ v18) ∧ (v18 < (((List.length x17) : Nat) : Int)))) then 
           bindO x17[(Int.toNat v18)]? fun x19 =>
           bif (decide (x19.2.1 = x10.2.1)) then
            outO (outO (outO (outO (some Bool.false))))
           else
            some (Sum.inl (Go.IntKind.wrap .i64 (v18 + (1 : Int))))
          else none
         else
          outO (some (Sum.inl ((Go.IntKind.wrap .i64 (x10.1 + (1 : Int))), v8))))
noncomputable def moB (a1 a2 : Int) (a4 : List Pl) : (Int × Int) → Option ((Int × Int) ⊕ (Unit ⊕ Bool)) :=
(fun (v8, v9) =>
    bif (decide (v8 < (((List.length a4) : Nat) : Int))) then
     joinO (bif (decide (((0 : Int) ≤ v8) ∧ (v8 < (((List.length a4) : Nat) : Int)))) then 
       bindO a4[(Int.toNat v8)]? fun x10 =>
       joinO (bindO (queues_within (x10.1, (v9, (Go.IntKind.wrap .i64 ((Go.IntKind.wrap .i64 (a1 + a2)) - (1 : Int)))))) fun x13 =>
        bif (!x13) then
         outO (outO (outO (outO (some Bool.false))))
        else
         bindO (queues_within (x10.2.1, ((1 : Int), (2147483647 : Int)))) fun x14 =>
         bif (!x14) then
          outO (outO (outO (outO (some Bool.false))))
         else
          bindO (queues_within (x10.2.2, ((0 : Int), (1099598027776 : Int)))) fun x15 =>
          bif (!x15) then
           outO (outO (outO (outO (some Bool.false))))
          else
           some (Sum.inl ())) fun _ =>
       bif (decide (((0 : Int) ≤ v8) ∧ (v8 ≤ (((List.length a4) : Nat) : Int)))) then 
        bindO (some (List.take (Int.toNat v8) a4)) fun x17 =>
        loopO (miB x10 v8 x17) (0 : Int)
       else none
      else none) fun (v21, v22) =>
     some (Sum.inl ((Go.IntKind.wrap .i64 (v8 + (1 : Int))), v21))
    else
     outO (some (Sum.inl ())))
theorem mayP_eq (a1 a2 a3 : Int) (a4 : List Pl) : queues_MayLot (a1, (a2, (a3, a4))) =

  joinO (bindO (queues_within (a1, ((1 : Int), (2147483547 : Int)))) fun x5 =>
   bif (!x5) then
    outO (some Bool.false)
   else
    bindO (queues_within (a2, ((1 : Int), (100 : Int)))) fun x6 =>
    bif (!x6) then
     outO (some Bool.false)
    else
     bindO (queues_within (a3, ((1 : Int), (86400000 : Int)))) fun x7 =>
     bif (!x7) then
      outO (some Bool.false)
     else
      some (Sum.inl ())) fun _ =>
  joinO (loopO (moB a1 a2 a4) ((0 : Int), a1)) fun _ =>
  some Bool.true := rfl
noncomputable def rjB (a4 : List Pl) (x6 : Pl) (v5 : Int) : Int → Option (Int ⊕ (Int ⊕ (Int ⊕ (Unit ⊕ Bool)))) :=
(fun v13 =>
        bif (decide (v13 < v5)) then
         bif (decide (((0 : Int) ≤ v13) ∧ (v13 < (((List.length a4) : Nat) : Int)))) then 
          bindO a4[(Int.toNat v13)]? fun x14 =>
          bif (decide (x14.2.1 = x6.2.1)) then
           outO (outO (outO (outO (some Bool.false))))
          else
           some (Sum.inl (Go.IntKind.wrap .i64 (v13 + (1 : Int))))
         else none
        else
         outO (some (Sum.inl v13)))
noncomputable def roB (a1 a2 : Int) (a4 : List Pl) : Int → Option (Int ⊕ (Unit ⊕ Bool)) :=
(fun v5 =>
    bif (decide (v5 < (((List.length a4) : Nat) : Int))) then
     joinO (bif (decide (((0 : Int) ≤ v5) ∧ (v5 < (((List.length a4) : Nat) : Int)))) then 
       bindO a4[(Int.toNat v5)]? fun x6 =>
       joinO (bif (decide (x6.1 ≥ a1)) then
         bif (!(decide (x6.1 ≤ (Go.IntKind.wrap .i64 ((Go.IntKind.wrap .i64 (a1 + a2)) - (1 : Int)))))) then
          outO (outO (outO (outO (some Bool.false))))
         else
          bif (decide (v5 > (0 : Int))) then
           bindO (some (Go.IntKind.wrap .i64 (v5 - (1 : Int)))) fun x9 =>
           bif (decide (((0 : Int) ≤ x9) ∧ (x9 < (((List.length a4) : Nat) : Int)))) then 
            bindO a4[(Int.toNat x9)]? fun x10 =>
            bif (decide (x6.1 ≤ x10.1)) then
             outO (outO (outO (outO (some Bool.false))))
            else
             bindO (dialtoneref36_id x6.2.1) fun x11 =>
             bif (!x11) then
              outO (outO (outO (outO (some Bool.false))))
             else
              bif (decide (x6.2.2 ≥ (0 : Int))) then
               bif (!(decide (x6.2.2 ≤ (1099598027776 : Int)))) then
                outO (outO (outO (outO (some Bool.false))))
               else
                some (Sum.inl ())
              else
               outO (outO (outO (outO (some Bool.false))))
           else none
          else
           bindO (dialtoneref36_id x6.2.1) fun x12 =>
           bif (!x12) then
            outO (outO (outO (outO (some Bool.false))))
           else
            bif (decide (x6.2.2 ≥ (0 : Int))) then
             bif (!(decide (x6.2.2 ≤ (1099598027776 : Int)))) then
              outO (outO (outO (outO (some Bool.false))))
             else
              some (Sum.inl ())
            else
             outO (outO (outO (outO (some Bool.false))))
        else
         outO (outO (outO (outO (some Bool.false))))) fun _ =>
       loopO (rjB a4 x6 v5) (0 : Int)
      else none) fun v16 =>
     some (Sum.inl (Go.IntKind.wrap .i64 (v5 + (1 : Int))))
    else
     outO (some (Sum.inl ())))
theorem mayR_eq (a1 a2 a3 : Int) (a4 : List Pl) : dialtoneref36_MayLot (a1, (a2, (a3, a4))) =

  joinO (bif (decide (a1 ≥ (1 : Int))) then
    bif (!(decide (a1 ≤ (2147483547 : Int)))) then
     outO (some Bool.false)
    else
     bif (decide (a2 ≥ (1 : Int))) then
      bif (!(decide (a2 ≤ (100 : Int)))) then
       outO (some Bool.false)
      else
       bif (decide (a3 ≥ (1 : Int))) then
        bif (!(decide (a3 ≤ (86400000 : Int)))) then
         outO (some Bool.false)
        else
         some (Sum.inl ())
       else
        outO (some Bool.false)
     else
      outO (some Bool.false)
   else
    outO (some Bool.false)) fun _ =>
  joinO (loopO (roB a1 a2 a4) (0 : Int)) fun _ =>
  some Bool.true := rfl
abbrev p0 : Pl := (0, (0, 0))
abbrev LH (f m s : Int) : Prop := (1 ≤ f ∧ f ≤ 2147483547) ∧ (1 ≤ m ∧ m ≤ 100) ∧ (1 ≤ s ∧ s ≤ 86400000)
abbrev PW (x : Pl) : Prop := (1 ≤ x.2.1 ∧ x.2.1 ≤ 2147483647) ∧ (0 ≤ x.2.2 ∧ x.2.2 ≤ 1099598027776)
def PD (l : List Pl) (i : Nat) : Prop := ∀ k, k < i → (l.getD k p0).2.1 ≠ (l.getD i p0).2.1
def lst (f : Int) (l : List Pl) : Nat → Int
  | 0 => f
  | i + 1 => (l.getD i p0).1 + 1
def OKR (f m : Int) (l : List Pl) (i : Nat) : Prop := f ≤ (l.getD i p0).1 ∧ (l.getD i p0).1 ≤ f + m - 1 ∧ (0 < i → (l.getD (i - 1) p0).1 < (l.getD i p0).1) ∧ PW (l.getD i p0) ∧ PD l i
theorem withinP_b {β : Type} (a b c : Int) (f : Bool → Option β) : bindO (queues_within (a, (b, c))) f = f (decide (b ≤ a ∧ a ≤ c)) := by
  have e : queues_within (a, (b, c)) = bif decide (a ≥ b) then some (decide (a ≤ c)) else some false := rfl
  rw [e, cond_ite]
  by_cases h : b ≤ a
  · rw [if_pos (show a ≥ b from h)]
    simp [h, bindO_some]
  · rw [if_neg (show ¬ a ≥ b from h)]
    simp [h, bindO_some]
theorem idR_b {β : Type} (a : Int) (f : Bool → Option β) : bindO (dialtoneref36_id a) f = f (decide (1 ≤ a ∧ a ≤ 2147483647)) := by
  have e : dialtoneref36_id a = bif decide (a ≥ 1) then some (decide (a ≤ 2147483647)) else some false := rfl
  rw [e, cond_ite]
  by_cases h : 1 ≤ a
  · rw [if_pos (show a ≥ 1 from h)]
    simp [h, bindO_some]
  · rw [if_neg (show ¬ a ≥ 1 from h)]
    simp [h, bindO_some]
theorem nots (n : Nat) : ((n : Int) + 1) = ((n + 1 : Nat) : Int) := rfl
theorem mi_j (l : List Pl) {i : Nat} (hi : i < l.length) (hl : l.length ≤ 1000) : (PD l i ∧ loopO (miB (l.getD i p0) (i : Int) (l.take i)) 0 = some (.inl (IntKind.wrap .i64 ((l.getD i p0).1 + 1), (i : Int)))) ∨ (¬ PD l i ∧ loopO (miB (l.getD i p0) (i : Int) (l.take i)) 0 = some (.inr (.inr (.inr false)))) := by
  have ht : (l.take i).length = i := by rw [List.length_take]; omega
  refine loop_all (body := miB (l.getD i p0) (i : Int) (l.take i)) i (fun k => (l.getD k p0).2.1 ≠ (l.getD i p0).2.1) _ _ (fun k hk hb => ?_) (fun k hk hb => ?_) ?_
  · obtain ⟨x, hx, hxb⟩ := get_at p0 (show k < (l.take i).length by omega)
    rw [getD_take l p0 hk] at hx
    rw [hx] at hb
    unfold miB
    simp (disch := (first | omega | (simp only [List.length_append, List.length_cons, List.length_nil, List.nil_append, List.length_take, List.length_drop]; omega))) only [↓bindO_some, ↓bindO_none, ↓joinO_inl, ↓joinO_inr, ↓joinO_none, ↓outO_some, ↓outO_none, ↓cond_true, ↓cond_false, ↓cond_and, ↓cond_or, ↓cond_not, ↓cond_ite, ↓if_pos, ↓if_neg, ↓if_true, ↓if_false, List.take_length, Nat.le_refl, Bool.not_true, Bool.not_false, if_pos, if_neg, ↓hxb, wrap_i64', nots, ht, hb, decide_false]
  · obtain ⟨x, hx, hxb⟩ := get_at p0 (show k < (l.take i).length by omega)
    rw [getD_take l p0 hk] at hx
    have hb := Classical.not_not.1 hb
    rw [hx] at hb
    unfold miB
    simp (disch := (first | omega | (simp only [List.length_append, List.length_cons, List.length_nil, List.nil_append, List.length_take, List.length_drop]; omega))) only [↓bindO_some, ↓bindO_none, ↓joinO_inl, ↓joinO_inr, ↓joinO_none, ↓outO_some, ↓outO_none, ↓cond_true, ↓cond_false, ↓cond_and, ↓cond_or, ↓cond_not, ↓cond_ite, ↓if_pos, ↓if_neg, ↓if_true, ↓if_false, List.take_length, Nat.le_refl, Bool.not_true, Bool.not_false, if_pos, if_neg, ↓hxb, ht, hb, decide_true]
  · unfold miB
    simp (disch := (first | omega | (simp only [List.length_append, List.length_cons, List.length_nil, List.nil_append, List.length_take, List.length_drop]; omega))) only [↓bindO_some, ↓bindO_none, ↓joinO_inl, ↓joinO_inr, ↓joinO_none, ↓outO_some, ↓outO_none, ↓cond_true, ↓cond_false, ↓cond_and, ↓cond_or, ↓cond_not, ↓cond_ite, ↓if_pos, ↓if_neg, ↓if_true, ↓if_false, List.take_length, Nat.le_refl, Bool.not_true, Bool.not_false, if_neg, ht]
theorem rj_j (l : List Pl) {i : Nat} (hi : i < l.length) (hl : l.length ≤ 1000) : (PD l i ∧ loopO (rjB l (l.getD i p0) (i : Int)) 0 = some (.inl (i : Int))) ∨ (¬ PD l i ∧ loopO (rjB l (l.getD i p0) (i : Int)) 0 = some (.inr (.inr (.inr false)))) := by
  rcases loop_first (body := rjB l (l.getD i p0) (i : Int)) i (fun k => (l.getD k p0).2.1 = (l.getD i p0).2.1) (fun _ => .inr (.inr (.inr false))) (.inl (i : Int)) (fun k hk hb => by
      obtain ⟨x, hx, hxb⟩ := get_at p0 (show k < l.length by omega)
      rw [hx] at hb
      unfold rjB
      simp (disch := (first | omega | (simp only [List.length_append, List.length_cons, List.length_nil, List.nil_append, List.length_take, List.length_drop]; omega))) only [↓bindO_some, ↓bindO_none, ↓joinO_inl, ↓joinO_inr, ↓joinO_none, ↓outO_some, ↓outO_none, ↓cond_true, ↓cond_false, ↓cond_and, ↓cond_or, ↓cond_not, ↓cond_ite, ↓if_pos, ↓if_neg, ↓if_true, ↓if_false, List.take_length, Nat.le_refl, Bool.not_true, Bool.not_false, if_pos, if_neg, ↓hxb, wrap_i64', nots, hb, decide_false])
    (fun k hk hb => by
      obtain ⟨x, hx, hxb⟩ := get_at p0 (show k < l.length by omega)
      rw [hx] at hb
      unfold rjB
      simp (disch := (first | omega | (simp only [List.length_append, List.length_cons, List.length_nil, List.nil_append, List.length_take, List.length_drop]; omega))) only [↓bindO_some, ↓bindO_none, ↓joinO_inl, ↓joinO_inr, ↓joinO_none, ↓outO_some, ↓outO_none, ↓cond_true, ↓cond_false, ↓cond_and, ↓cond_or, ↓cond_not, ↓cond_ite, ↓if_pos, ↓if_neg, ↓if_true, ↓if_false, List.take_length, Nat.le_refl, Bool.not_true, Bool.not_false, if_pos, if_neg, ↓hxb, hb, decide_true])
    (by unfold rjB; simp (disch := (first | omega | (simp only [List.length_append, List.length_cons, List.length_nil, List.nil_append, List.length_take, List.length_drop]; omega))) only [↓bindO_some, ↓bindO_none, ↓joinO_inl, ↓joinO_inr, ↓joinO_none, ↓outO_some, ↓outO_none, ↓cond_true, ↓cond_false, ↓cond_and, ↓cond_or, ↓cond_not, ↓cond_ite, ↓if_pos, ↓if_neg, ↓if_true, ↓if_false, List.take_length, Nat.le_refl, Bool.not_true, Bool.not_false, if_neg]) with ⟨k, k1, k2, _, e⟩ | ⟨h, e⟩
  · exact .inr ⟨fun h => h k k1 k2, e⟩
  · exact .inl ⟨h, e⟩
theorem lst_iff {f m : Int} {l : List Pl} {i : Nat} (h : ∀ j, j < i → OKR f m l j) (x : Int) : lst f l i ≤ x ↔ (f ≤ x ∧ (0 < i → (l.getD (i - 1) p0).1 < x)) := by
  cases i with
  | zero => simp only [lst]; exact ⟨fun k => ⟨k, fun g => by omega⟩, fun k => k.1⟩
  | succ i =>
    have := (h i (by omega)).1
    simp only [lst, Nat.add_sub_cancel]
    exact ⟨fun k => ⟨by omega, fun _ => by omega⟩, fun k => by have := k.2 (by omega); omega⟩
theorem mo_j (f m : Int) (l : List Pl) (hf : 1 ≤ f ∧ f ≤ 2147483547) (hm : 1 ≤ m ∧ m ≤ 100) (hl : l.length ≤ 1000) :
    ((∀ i, i < l.length → OKR f m l i) ∧ loopO (moB f m l) (0, f) = some (.inl ())) ∨ (¬ (∀ i, i < l.length → OKR f m l i) ∧ loopO (moB f m l) (0, f) = some (.inr false)) := by
  refine loop_allI (body := moB f m l) (fun i => ((i : Int), lst f l i)) l.length (OKR f m l) _ _ rfl (fun i hi hp hb => ?_) (fun i hi hp hb => ?_) (fun _ => ?_)
  · obtain ⟨x, hx, hxb⟩ := get_at p0 hi
    have hmi := mi_j l hi hl
    have hli := lst_iff hp x.1
    have hs : lst f l (i + 1) = x.1 + 1 := by rw [lst, hx]
    unfold OKR at hb
    rw [hx] at hb hmi
    obtain ⟨h1, h2, h3, ⟨h4, h5⟩, h6⟩ := hb
    rcases hmi with ⟨_, e⟩ | ⟨h, _⟩
    · have h7 := hli.2 ⟨h1, h3⟩
      rw [hs]
      unfold moB
      simp (disch := (first | omega | (simp only [List.length_append, List.length_cons, List.length_nil, List.nil_append, List.length_take, List.length_drop]; omega))) only [↓bindO_some, ↓bindO_none, ↓joinO_inl, ↓joinO_inr, ↓joinO_none, ↓outO_some, ↓outO_none, ↓cond_true, ↓cond_false, ↓cond_and, ↓cond_or, ↓cond_not, ↓cond_ite, ↓if_pos, ↓if_neg, ↓if_true, ↓if_false, List.take_length, Nat.le_refl, Bool.not_true, Bool.not_false, if_pos, if_neg, ↓hxb, ↓withinP_b, wrap_i64', nots, h7, h2, h4, h5, and_self, decide_true, Int.toNat_natCast, e]
    · exact (h h6).elim
  · obtain ⟨x, hx, hxb⟩ := get_at p0 hi
    have hmi := mi_j l hi hl
    have hli := lst_iff hp x.1
    unfold OKR at hb
    rw [hx] at hb hmi
    unfold moB
    by_cases h1 : lst f l i ≤ x.1 ∧ x.1 ≤ f + m - 1
    · skip
      by_cases h4 : 1 ≤ x.2.1 ∧ x.2.1 ≤ 2147483647
      · skip
        by_cases h5 : 0 ≤ x.2.2 ∧ x.2.2 ≤ 1099598027776
        · skip
          rcases hmi with ⟨h6, _⟩ | ⟨_, e⟩
          · have h7 := hli.1 h1.1
            exact (hb ⟨h7.1, h1.2, h7.2, ⟨h4, h5⟩, h6⟩).elim
          · simp (disch := (first | omega | (simp only [List.length_append, List.length_cons, List.length_nil, List.nil_append, List.length_take, List.length_drop]; omega))) only [↓bindO_some, ↓bindO_none, ↓joinO_inl, ↓joinO_inr, ↓joinO_none, ↓outO_some, ↓outO_none, ↓cond_true, ↓cond_false, ↓cond_and, ↓cond_or, ↓cond_not, ↓cond_ite, ↓if_pos, ↓if_neg, ↓if_true, ↓if_false, List.take_length, Nat.le_refl, Bool.not_true, Bool.not_false, if_pos, if_neg, ↓hxb, ↓withinP_b, wrap_i64', nots, h1, h4, h5, and_self, decide_true, Int.toNat_natCast, e]
        · simp (disch := (first | omega | (simp only [List.length_append, List.length_cons, List.length_nil, List.nil_append, List.length_take, List.length_drop]; omega))) only [↓bindO_some, ↓bindO_none, ↓joinO_inl, ↓joinO_inr, ↓joinO_none, ↓outO_some, ↓outO_none, ↓cond_true, ↓cond_false, ↓cond_and, ↓cond_or, ↓cond_not, ↓cond_ite, ↓if_pos, ↓if_neg, ↓if_true, ↓if_false, List.take_length, Nat.le_refl, Bool.not_true, Bool.not_false, if_pos, if_neg, ↓hxb, ↓withinP_b, wrap_i64', nots, and_self, decide_true, decide_false, h1, h4, h5]
      · simp (disch := (first | omega | (simp only [List.length_append, List.length_cons, List.length_nil, List.nil_append, List.length_take, List.length_drop]; omega))) only [↓bindO_some, ↓bindO_none, ↓joinO_inl, ↓joinO_inr, ↓joinO_none, ↓outO_some, ↓outO_none, ↓cond_true, ↓cond_false, ↓cond_and, ↓cond_or, ↓cond_not, ↓cond_ite, ↓if_pos, ↓if_neg, ↓if_true, ↓if_false, List.take_length, Nat.le_refl, Bool.not_true, Bool.not_false, if_pos, if_neg, ↓hxb, ↓withinP_b, wrap_i64', nots, and_self, decide_true, decide_false, h1, h4]
    · simp (disch := (first | omega | (simp only [List.length_append, List.length_cons, List.length_nil, List.nil_append, List.length_take, List.length_drop]; omega))) only [↓bindO_some, ↓bindO_none, ↓joinO_inl, ↓joinO_inr, ↓joinO_none, ↓outO_some, ↓outO_none, ↓cond_true, ↓cond_false, ↓cond_and, ↓cond_or, ↓cond_not, ↓cond_ite, ↓if_pos, ↓if_neg, ↓if_true, ↓if_false, List.take_length, Nat.le_refl, Bool.not_true, Bool.not_false, if_pos, if_neg, ↓hxb, ↓withinP_b, wrap_i64', nots, and_self, decide_true, decide_false, h1]
  · unfold moB
    simp (disch := (first | omega | (simp only [List.length_append, List.length_cons, List.length_nil, List.nil_append, List.length_take, List.length_drop]; omega))) only [↓bindO_some, ↓bindO_none, ↓joinO_inl, ↓joinO_inr, ↓joinO_none, ↓outO_some, ↓outO_none, ↓cond_true, ↓cond_false, ↓cond_and, ↓cond_or, ↓cond_not, ↓cond_ite, ↓if_pos, ↓if_neg, ↓if_true, ↓if_false, List.take_length, Nat.le_refl, Bool.not_true, Bool.not_false, if_neg]
theorem ro_j (f m : Int) (l : List Pl) (hf : 1 ≤ f ∧ f ≤ 2147483547) (hm : 1 ≤ m ∧ m ≤ 100) (hl : l.length ≤ 1000) :
    ((∀ i, i < l.length → OKR f m l i) ∧ loopO (roB f m l) 0 = some (.inl ())) ∨ (¬ (∀ i, i < l.length → OKR f m l i) ∧ loopO (roB f m l) 0 = some (.inr false)) := by
  refine loop_all (body := roB f m l) l.length (OKR f m l) _ _ (fun i hi hb => ?_) (fun i hi hb => ?_) ?_
  · obtain ⟨x, hx, hxb⟩ := get_at p0 hi
    have hmi := rj_j l hi hl
    unfold OKR at hb
    rw [hx] at hb hmi
    obtain ⟨h1, h2, h3, ⟨h4, h5⟩, h6⟩ := hb
    rcases hmi with ⟨_, e⟩ | ⟨h, _⟩
    · unfold roB
      have h1' : x.1 ≥ f := h1
      have h5' : x.2.2 ≥ 0 := h5.1
      by_cases h0 : 0 < i
      · obtain ⟨y, hy, hyb⟩ := get_at p0 (show i - 1 < l.length by omega)
        have h3 := h3 h0
        rw [hy] at h3
        have hc : ((i : Int) - 1) = ((i - 1 : Nat) : Int) := by omega
        simp (disch := (first | omega | (simp only [List.length_append, List.length_cons, List.length_nil, List.nil_append, List.length_take, List.length_drop]; omega))) only [↓bindO_some, ↓bindO_none, ↓joinO_inl, ↓joinO_inr, ↓joinO_none, ↓outO_some, ↓outO_none, ↓cond_true, ↓cond_false, ↓cond_and, ↓cond_or, ↓cond_not, ↓cond_ite, ↓if_pos, ↓if_neg, ↓if_true, ↓if_false, List.take_length, Nat.le_refl, Bool.not_true, Bool.not_false, if_pos, if_neg, ↓hxb, ↓hyb, hc, ↓idR_b, wrap_i64', nots, h1', h2, h4, h5', h5.2, and_self, decide_true, decide_false, e]
      · simp (disch := (first | omega | (simp only [List.length_append, List.length_cons, List.length_nil, List.nil_append, List.length_take, List.length_drop]; omega))) only [↓bindO_some, ↓bindO_none, ↓joinO_inl, ↓joinO_inr, ↓joinO_none, ↓outO_some, ↓outO_none, ↓cond_true, ↓cond_false, ↓cond_and, ↓cond_or, ↓cond_not, ↓cond_ite, ↓if_pos, ↓if_neg, ↓if_true, ↓if_false, List.take_length, Nat.le_refl, Bool.not_true, Bool.not_false, if_pos, if_neg, ↓hxb, ↓idR_b, wrap_i64', nots, h1', h2, h4, h5', h5.2, and_self, decide_true, decide_false, e]
    · exact (h h6).elim
  · obtain ⟨x, hx, hxb⟩ := get_at p0 hi
    have hmi := rj_j l hi hl
    unfold OKR at hb
    rw [hx] at hb hmi
    unfold roB
    have last : ∀ (h1 : x.1 ≥ f) (h2 : x.1 ≤ f + m - 1) (h3 : 0 < i → (l.getD (i - 1) p0).1 < x.1) (h4 : 1 ≤ x.2.1 ∧ x.2.1 ≤ 2147483647) (h5 : x.2.2 ≥ 0) (h5' : x.2.2 ≤ 1099598027776), loopO (rjB l x (i : Int)) 0 = some (.inr (.inr (.inr false))) := fun h1 h2 h3 h4 h5 h5' => by
      rcases hmi with ⟨h6, _⟩ | ⟨_, e⟩
      · exact (hb ⟨h1, h2, h3, ⟨h4, h5, h5'⟩, h6⟩).elim
      · exact e
    by_cases h0 : 0 < i
    · obtain ⟨y, hy, hyb⟩ := get_at p0 (show i - 1 < l.length by omega)
      have hc : ((i : Int) - 1) = ((i - 1 : Nat) : Int) := by omega
      rw [hy] at last
      by_cases h1 : x.1 ≥ f
      · skip
        by_cases h2 : x.1 ≤ f + m - 1
        · skip
          by_cases h3 : ¬ x.1 ≤ y.1
          · skip
            by_cases h4 : 1 ≤ x.2.1 ∧ x.2.1 ≤ 2147483647
            · skip
              by_cases h5 : x.2.2 ≥ 0
              · skip
                by_cases h6 : x.2.2 ≤ 1099598027776
                · skip
                  have e := last h1 h2 (fun _ => by omega) h4 h5 h6
                  simp (disch := (first | omega | (simp only [List.length_append, List.length_cons, List.length_nil, List.nil_append, List.length_take, List.length_drop]; omega))) only [↓bindO_some, ↓bindO_none, ↓joinO_inl, ↓joinO_inr, ↓joinO_none, ↓outO_some, ↓outO_none, ↓cond_true, ↓cond_false, ↓cond_and, ↓cond_or, ↓cond_not, ↓cond_ite, ↓if_pos, ↓if_neg, ↓if_true, ↓if_false, List.take_length, Nat.le_refl, Bool.not_true, Bool.not_false, if_pos, if_neg, ↓hxb, ↓hyb, hc, ↓idR_b, wrap_i64', nots, h1, h2, h4, h5, h6, and_self, decide_true, decide_false, e]
                · simp (disch := (first | omega | (simp only [List.length_append, List.length_cons, List.length_nil, List.nil_append, List.length_take, List.length_drop]; omega))) only [↓bindO_some, ↓bindO_none, ↓joinO_inl, ↓joinO_inr, ↓joinO_none, ↓outO_some, ↓outO_none, ↓cond_true, ↓cond_false, ↓cond_and, ↓cond_or, ↓cond_not, ↓cond_ite, ↓if_pos, ↓if_neg, ↓if_true, ↓if_false, List.take_length, Nat.le_refl, Bool.not_true, Bool.not_false, if_pos, if_neg, ↓hxb, ↓hyb, hc, ↓idR_b, wrap_i64', nots, and_self, decide_true, decide_false, h1, h2, h3, h4, h5, h6]
              · simp (disch := (first | omega | (simp only [List.length_append, List.length_cons, List.length_nil, List.nil_append, List.length_take, List.length_drop]; omega))) only [↓bindO_some, ↓bindO_none, ↓joinO_inl, ↓joinO_inr, ↓joinO_none, ↓outO_some, ↓outO_none, ↓cond_true, ↓cond_false, ↓cond_and, ↓cond_or, ↓cond_not, ↓cond_ite, ↓if_pos, ↓if_neg, ↓if_true, ↓if_false, List.take_length, Nat.le_refl, Bool.not_true, Bool.not_false, if_pos, if_neg, ↓hxb, ↓hyb, hc, ↓idR_b, wrap_i64', nots, and_self, decide_true, decide_false, h1, h2, h3, h4, h5]
            · simp (disch := (first | omega | (simp only [List.length_append, List.length_cons, List.length_nil, List.nil_append, List.length_take, List.length_drop]; omega))) only [↓bindO_some, ↓bindO_none, ↓joinO_inl, ↓joinO_inr, ↓joinO_none, ↓outO_some, ↓outO_none, ↓cond_true, ↓cond_false, ↓cond_and, ↓cond_or, ↓cond_not, ↓cond_ite, ↓if_pos, ↓if_neg, ↓if_true, ↓if_false, List.take_length, Nat.le_refl, Bool.not_true, Bool.not_false, if_pos, if_neg, ↓hxb, ↓hyb, hc, ↓idR_b, wrap_i64', nots, and_self, decide_true, decide_false, h1, h2, h3, h4]
          · simp (disch := (first | omega | (simp only [List.length_append, List.length_cons, List.length_nil, List.nil_append, List.length_take, List.length_drop]; omega))) only [↓bindO_some, ↓bindO_none, ↓joinO_inl, ↓joinO_inr, ↓joinO_none, ↓outO_some, ↓outO_none, ↓cond_true, ↓cond_false, ↓cond_and, ↓cond_or, ↓cond_not, ↓cond_ite, ↓if_pos, ↓if_neg, ↓if_true, ↓if_false, List.take_length, Nat.le_refl, Bool.not_true, Bool.not_false, if_pos, if_neg, ↓hxb, ↓hyb, hc, ↓idR_b, wrap_i64', nots, and_self, decide_true, decide_false, h1, h2, h3]
        · simp (disch := (first | omega | (simp only [List.length_append, List.length_cons, List.length_nil, List.nil_append, List.length_take, List.length_drop]; omega))) only [↓bindO_some, ↓bindO_none, ↓joinO_inl, ↓joinO_inr, ↓joinO_none, ↓outO_some, ↓outO_none, ↓cond_true, ↓cond_false, ↓cond_and, ↓cond_or, ↓cond_not, ↓cond_ite, ↓if_pos, ↓if_neg, ↓if_true, ↓if_false, List.take_length, Nat.le_refl, Bool.not_true, Bool.not_false, if_pos, if_neg, ↓hxb, ↓hyb, hc, ↓idR_b, wrap_i64', nots, and_self, decide_true, decide_false, h1, h2]
      · simp (disch := (first | omega | (simp only [List.length_append, List.length_cons, List.length_nil, List.nil_append, List.length_take, List.length_drop]; omega))) only [↓bindO_some, ↓bindO_none, ↓joinO_inl, ↓joinO_inr, ↓joinO_none, ↓outO_some, ↓outO_none, ↓cond_true, ↓cond_false, ↓cond_and, ↓cond_or, ↓cond_not, ↓cond_ite, ↓if_pos, ↓if_neg, ↓if_true, ↓if_false, List.take_length, Nat.le_refl, Bool.not_true, Bool.not_false, if_pos, if_neg, ↓hxb, ↓hyb, hc, ↓idR_b, wrap_i64', nots, and_self, decide_true, decide_false, h1]
    · skip
      by_cases h1 : x.1 ≥ f
      · skip
        by_cases h2 : x.1 ≤ f + m - 1
        · skip
          by_cases h4 : 1 ≤ x.2.1 ∧ x.2.1 ≤ 2147483647
          · skip
            by_cases h5 : x.2.2 ≥ 0
            · skip
              by_cases h6 : x.2.2 ≤ 1099598027776
              · skip
                have e := last h1 h2 (fun g => (h0 g).elim) h4 h5 h6
                simp (disch := (first | omega | (simp only [List.length_append, List.length_cons, List.length_nil, List.nil_append, List.length_take, List.length_drop]; omega))) only [↓bindO_some, ↓bindO_none, ↓joinO_inl, ↓joinO_inr, ↓joinO_none, ↓outO_some, ↓outO_none, ↓cond_true, ↓cond_false, ↓cond_and, ↓cond_or, ↓cond_not, ↓cond_ite, ↓if_pos, ↓if_neg, ↓if_true, ↓if_false, List.take_length, Nat.le_refl, Bool.not_true, Bool.not_false, if_pos, if_neg, ↓hxb, ↓idR_b, wrap_i64', nots, h1, h2, h4, h5, h6, and_self, decide_true, decide_false, e]
              · simp (disch := (first | omega | (simp only [List.length_append, List.length_cons, List.length_nil, List.nil_append, List.length_take, List.length_drop]; omega))) only [↓bindO_some, ↓bindO_none, ↓joinO_inl, ↓joinO_inr, ↓joinO_none, ↓outO_some, ↓outO_none, ↓cond_true, ↓cond_false, ↓cond_and, ↓cond_or, ↓cond_not, ↓cond_ite, ↓if_pos, ↓if_neg, ↓if_true, ↓if_false, List.take_length, Nat.le_refl, Bool.not_true, Bool.not_false, if_pos, if_neg, ↓hxb, ↓idR_b, wrap_i64', nots, and_self, decide_true, decide_false, h1, h2, h4, h5, h6]
            · simp (disch := (first | omega | (simp only [List.length_append, List.length_cons, List.length_nil, List.nil_append, List.length_take, List.length_drop]; omega))) only [↓bindO_some, ↓bindO_none, ↓joinO_inl, ↓joinO_inr, ↓joinO_none, ↓outO_some, ↓outO_none, ↓cond_true, ↓cond_false, ↓cond_and, ↓cond_or, ↓cond_not, ↓cond_ite, ↓if_pos, ↓if_neg, ↓if_true, ↓if_false, List.take_length, Nat.le_refl, Bool.not_true, Bool.not_false, if_pos, if_neg, ↓hxb, ↓idR_b, wrap_i64', nots, and_self, decide_true, decide_false, h1, h2, h4, h5]
          · simp (disch := (first | omega | (simp only [List.length_append, List.length_cons, List.length_nil, List.nil_append, List.length_take, List.length_drop]; omega))) only [↓bindO_some, ↓bindO_none, ↓joinO_inl, ↓joinO_inr, ↓joinO_none, ↓outO_some, ↓outO_none, ↓cond_true, ↓cond_false, ↓cond_and, ↓cond_or, ↓cond_not, ↓cond_ite, ↓if_pos, ↓if_neg, ↓if_true, ↓if_false, List.take_length, Nat.le_refl, Bool.not_true, Bool.not_false, if_pos, if_neg, ↓hxb, ↓idR_b, wrap_i64', nots, and_self, decide_true, decide_false, h1, h2, h4]
        · simp (disch := (first | omega | (simp only [List.length_append, List.length_cons, List.length_nil, List.nil_append, List.length_take, List.length_drop]; omega))) only [↓bindO_some, ↓bindO_none, ↓joinO_inl, ↓joinO_inr, ↓joinO_none, ↓outO_some, ↓outO_none, ↓cond_true, ↓cond_false, ↓cond_and, ↓cond_or, ↓cond_not, ↓cond_ite, ↓if_pos, ↓if_neg, ↓if_true, ↓if_false, List.take_length, Nat.le_refl, Bool.not_true, Bool.not_false, if_pos, if_neg, ↓hxb, ↓idR_b, wrap_i64', nots, and_self, decide_true, decide_false, h1, h2]
      · simp (disch := (first | omega | (simp only [List.length_append, List.length_cons, List.length_nil, List.nil_append, List.length_take, List.length_drop]; omega))) only [↓bindO_some, ↓bindO_none, ↓joinO_inl, ↓joinO_inr, ↓joinO_none, ↓outO_some, ↓outO_none, ↓cond_true, ↓cond_false, ↓cond_and, ↓cond_or, ↓cond_not, ↓cond_ite, ↓if_pos, ↓if_neg, ↓if_true, ↓if_false, List.take_length, Nat.le_refl, Bool.not_true, Bool.not_false, if_pos, if_neg, ↓hxb, ↓idR_b, wrap_i64', nots, and_self, decide_true, decide_false, h1]
  · unfold roB
    simp (disch := (first | omega | (simp only [List.length_append, List.length_cons, List.length_nil, List.nil_append, List.length_take, List.length_drop]; omega))) only [↓bindO_some, ↓bindO_none, ↓joinO_inl, ↓joinO_inr, ↓joinO_none, ↓outO_some, ↓outO_none, ↓cond_true, ↓cond_false, ↓cond_and, ↓cond_or, ↓cond_not, ↓cond_ite, ↓if_pos, ↓if_neg, ↓if_true, ↓if_false, List.take_length, Nat.le_refl, Bool.not_true, Bool.not_false, if_neg]
end Go.Proofs.Ytkmfgldoljegoaa
