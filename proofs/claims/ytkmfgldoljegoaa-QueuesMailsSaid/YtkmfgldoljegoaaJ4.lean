/- Chapter 36, plain: boxes. Printed by mk4.py. -/
import Derived.Test.YtkmfgldoljegoaaZ2
import Derived.Test.YtkmfgldoljegoaaJ1
set_option linter.unusedVariables false
set_option linter.unusedSimpArgs false
set_option maxRecDepth 100000
set_option maxHeartbeats 2000000
namespace Go.Proofs.Ytkmfgldoljegoaa
open Go.RowKit
abbrev Ml := Int × (List UInt8 × (Int × (Int × Bool)))
abbrev Bx := List UInt8 × (Int × (Int × (Int × List Ml)))
noncomputable def bpB (a3 a4 : Int) (a5 : List Ml) : (Int × Int) → Option ((Int × Int) ⊕ (Unit ⊕ Bool)) :=
(fun (v9, v10) =>
    bif (decide (v9 < (((List.length a5) : Nat) : Int))) then
     bif (decide (((0 : Int) ≤ v9) ∧ (v9 < (((List.length a5) : Nat) : Int)))) then 
      bindO a5[(Int.toNat v9)]? fun x11 =>
      bindO (queues_within (x11.1, ((Go.IntKind.wrap .i64 (v10 + (1 : Int))), a4))) fun x13 =>
      bif (!x13) then
       outO (outO (some Bool.false))
      else
       bindO (queues_within (x11.2.2.1, ((0 : Int), (1099511627776 : Int)))) fun x14 =>
       bif (!x14) then
        outO (outO (some Bool.false))
       else
        bindO (queues_within (x11.2.2.2.1, ((1 : Int), a3))) fun x15 =>
        bif (!x15) then
         outO (outO (some Bool.false))
        else
         some (Sum.inl ((Go.IntKind.wrap .i64 (v9 + (1 : Int))), x11.1))
     else none
    else
     outO (some (Sum.inl ())))
theorem mbP_eq (a1 : List UInt8) (a2 a3 a4 : Int) (a5 : List Ml) : queues_MayBox (a1, (a2, (a3, (a4, a5)))) =

  joinO (bindO (queues_within (a2, ((1 : Int), (100 : Int)))) fun x6 =>
   bif (!x6) then
    outO (some Bool.false)
   else
    bindO (queues_within (a3, ((1 : Int), (2147483647 : Int)))) fun x7 =>
    bif (!x7) then
     outO (some Bool.false)
    else
     bindO (queues_within (a4, ((0 : Int), (2147483647 : Int)))) fun x8 =>
     bif (!x8) then
      outO (some Bool.false)
     else
      bif (decide ((((List.length a5) : Nat) : Int) > a2)) then
       outO (some Bool.false)
      else
       some (Sum.inl ())) fun _ =>
  joinO (loopO (bpB a3 a4 a5) ((0 : Int), (0 : Int))) fun _ =>
  some Bool.true := rfl
noncomputable def brB (a3 a4 : Int) (a5 : List Ml) : Int → Option (Int ⊕ (Unit ⊕ Bool)) :=
(fun v9 =>
    bif (decide (v9 < (((List.length a5) : Nat) : Int))) then
     bif (decide (((0 : Int) ≤ v9) ∧ (v9 < (((List.length a5) : Nat) : Int)))) then 
      bindO a5[(Int.toNat v9)]? fun x10 =>
      bindO (dialtoneref36_from (x10.1, ((1 : Int), a4))) fun x11 =>
      bif (!x11) then
       outO (outO (some Bool.false))
      else
       bif (decide (v9 > (0 : Int))) then
        bindO (some (Go.IntKind.wrap .i64 (v9 - (1 : Int)))) fun x12 =>
        bif (decide (((0 : Int) ≤ x12) ∧ (x12 < (((List.length a5) : Nat) : Int)))) then 
         bindO a5[(Int.toNat x12)]? fun x13 =>
         bif (decide (x10.1 ≤ x13.1)) then
          outO (outO (some Bool.false))
         else
          bindO (dialtoneref36_from (x10.2.2.1, ((0 : Int), (1099511627776 : Int)))) fun x14 =>
          bif (!x14) then
           outO (outO (some Bool.false))
          else
           bindO (dialtoneref36_from (x10.2.2.2.1, ((1 : Int), a3))) fun x15 =>
           bif (!x15) then
            outO (outO (some Bool.false))
           else
            some (Sum.inl (Go.IntKind.wrap .i64 (v9 + (1 : Int))))
        else none
       else
        bindO (dialtoneref36_from (x10.2.2.1, ((0 : Int), (1099511627776 : Int)))) fun x17 =>
        bif (!x17) then
         outO (outO (some Bool.false))
        else
         bindO (dialtoneref36_from (x10.2.2.2.1, ((1 : Int), a3))) fun x18 =>
         bif (!x18) then
          outO (outO (some Bool.false))
         else
          some (Sum.inl (Go.IntKind.wrap .i64 (v9 + (1 : Int))))
     else none
    else
     outO (some (Sum.inl ())))
theorem mbR_eq (a1 : List UInt8) (a2 a3 a4 : Int) (a5 : List Ml) : dialtoneref36_MayBox (a1, (a2, (a3, (a4, a5)))) =

  joinO (bindO (dialtoneref36_from (a2, ((1 : Int), (100 : Int)))) fun x6 =>
   bif (!x6) then
    outO (some Bool.false)
   else
    bindO (dialtoneref36_id a3) fun x7 =>
    bif (!x7) then
     outO (some Bool.false)
    else
     bindO (dialtoneref36_from (a4, ((0 : Int), (2147483647 : Int)))) fun x8 =>
     bif (!x8) then
      outO (some Bool.false)
     else
      bif (decide ((((List.length a5) : Nat) : Int) > a2)) then
       outO (some Bool.false)
      else
       some (Sum.inl ())) fun _ =>
  joinO (loopO (brB a3 a4 a5) (0 : Int)) fun _ =>
  some Bool.true := rfl
noncomputable def fiB (a5 : List Ml) (a6 : Int) : Int → Option (Int ⊕ (Unit ⊕ Int)) :=
(fun v7 =>
    bif (decide (v7 < (((List.length a5) : Nat) : Int))) then
     bif (decide (((0 : Int) ≤ v7) ∧ (v7 < (((List.length a5) : Nat) : Int)))) then 
      bindO a5[(Int.toNat v7)]? fun x8 =>
      bif (decide (x8.1 = a6)) then
       outO (outO (some v7))
      else
       some (Sum.inl (Go.IntKind.wrap .i64 (v7 + (1 : Int))))
     else none
    else
     outO (some (Sum.inl ())))
theorem find_eq (a1 : List UInt8) (a2 a3 a4 : Int) (a5 : List Ml) (a6 : Int) : dialtoneref36_find ((a1, (a2, (a3, (a4, a5)))), a6) =

  joinO (loopO (fiB a5 a6) (0 : Int)) fun _ =>
  some (-1 : Int) := rfl
noncomputable def cpB (a5 : List Ml) : (Int × (Int × Int)) → Option ((Int × (Int × Int)) ⊕ ((Int × Int) ⊕ (Int × Int))) :=
(fun (v7, (v8, v9)) =>
     bif (decide (v7 < (((List.length a5) : Nat) : Int))) then
      bif (decide (((0 : Int) ≤ v7) ∧ (v7 < (((List.length a5) : Nat) : Int)))) then 
       bindO a5[(Int.toNat v7)]? fun x10 =>
       bif x10.2.2.2.2 then
        some (Sum.inl ((Go.IntKind.wrap .i64 (v7 + (1 : Int))), (v8, (Go.IntKind.wrap .i64 (v9 + (1 : Int))))))
       else
        some (Sum.inl ((Go.IntKind.wrap .i64 (v7 + (1 : Int))), ((Go.IntKind.wrap .i64 (v8 + (1 : Int))), v9)))
      else none
     else
      outO (some (Sum.inl (v8, v9))))
theorem cntP_eq (a1 : List UInt8) (a2 a3 a4 : Int) (a5 : List Ml) : queues_Count (a1, (a2, (a3, (a4, a5)))) =

  bindO (queues_MayBox (a1, (a2, (a3, (a4, a5))))) fun x6 =>
  bif (!x6) then
   some ((0 : Int), (0 : Int))
  else
   joinO (loopO (cpB a5) ((0 : Int), ((0 : Int), (0 : Int)))) fun (v15, v16) =>
   some (v16, v15) := rfl
noncomputable def crB (a1 : List UInt8) (a2 a3 a4 : Int) (a5 : List Ml) : (Int × (Int × Int)) → Option ((Int × (Int × Int)) ⊕ ((Int × Int) ⊕ (Int × Int))) :=
(fun (v6, (v7, v8)) =>
    bif (decide (v6 < (((List.length a5) : Nat) : Int))) then
     bindO (dialtoneref36_MayBox (a1, (a2, (a3, (a4, a5))))) fun x9 =>
     bif x9 then
      bif (decide (((0 : Int) ≤ v6) ∧ (v6 < (((List.length a5) : Nat) : Int)))) then 
       bindO a5[(Int.toNat v6)]? fun x10 =>
       bif x10.2.2.2.2 then
        some (Sum.inl ((Go.IntKind.wrap .i64 (v6 + (1 : Int))), (v7, (Go.IntKind.wrap .i64 (v8 + (1 : Int))))))
       else
        some (Sum.inl ((Go.IntKind.wrap .i64 (v6 + (1 : Int))), ((Go.IntKind.wrap .i64 (v7 + (1 : Int))), v8)))
      else none
     else
      outO (some (Sum.inl (v7, v8)))
    else
     outO (some (Sum.inl (v7, v8))))
theorem cntR_eq (a1 : List UInt8) (a2 a3 a4 : Int) (a5 : List Ml) : dialtoneref36_Count (a1, (a2, (a3, (a4, a5)))) =

  joinO (loopO (crB a1 a2 a3 a4 a5) ((0 : Int), ((0 : Int), (0 : Int)))) fun (v15, v16) =>
  some (v16, v15) := rfl
noncomputable def sbB (a5 a10 : List Ml) : Int → Option (Int ⊕ (Unit ⊕ Bool)) :=
(fun v11 =>
    bif (decide (v11 < (((List.length a5) : Nat) : Int))) then
     bif (decide (((0 : Int) ≤ v11) ∧ (v11 < (((List.length a5) : Nat) : Int)))) then 
      bindO a5[(Int.toNat v11)]? fun x12 =>
      bif (decide (((0 : Int) ≤ v11) ∧ (v11 < (((List.length a10) : Nat) : Int)))) then 
       bindO a10[(Int.toNat v11)]? fun x13 =>
       bif (!((decide (x12.1 = x13.1)) && ((decide (x12.2.1 = x13.2.1)) && ((decide (x12.2.2.1 = x13.2.2.1)) && ((decide (x12.2.2.2.1 = x13.2.2.2.1)) && (x12.2.2.2.2 == x13.2.2.2.2)))))) then
        outO (outO (some Bool.false))
       else
        some (Sum.inl (Go.IntKind.wrap .i64 (v11 + (1 : Int))))
      else none
     else none
    else
     outO (some (Sum.inl ())))
theorem sameB_eq (a1 : List UInt8) (a2 a3 a4 : Int) (a5 : List Ml) (a6 : List UInt8) (a7 a8 a9 : Int) (a10 : List Ml) : dialtoneref36_SameBox ((a1, (a2, (a3, (a4, a5)))), (a6, (a7, (a8, (a9, a10))))) =

  joinO (bif (decide (a1 ≠ a6)) then
    outO (some Bool.false)
   else
    bif (decide (a2 ≠ a7)) then
     outO (some Bool.false)
    else
     bif (decide (a3 ≠ a8)) then
      outO (some Bool.false)
     else
      bif (decide (a4 ≠ a9)) then
       outO (some Bool.false)
      else
       bif (decide ((((List.length a5) : Nat) : Int) ≠ (((List.length a10) : Nat) : Int))) then
        outO (some Bool.false)
       else
        some (Sum.inl ())) fun _ =>
  joinO (loopO (sbB a5 a10) (0 : Int)) fun _ =>
  some Bool.true := rfl
abbrev m0 : Ml := (0, ([], (0, (0, false))))
abbrev BH (most longest last : Int) (n : Nat) : Prop := (1 ≤ most ∧ most ≤ 100) ∧ (1 ≤ longest ∧ longest ≤ 2147483647) ∧ (0 ≤ last ∧ last ≤ 2147483647) ∧ (n : Int) ≤ most
def MOK (longest last : Int) (l : List Ml) (i : Nat) : Prop := 1 ≤ (l.getD i m0).1 ∧ (l.getD i m0).1 ≤ last ∧ (0 < i → (l.getD (i - 1) m0).1 < (l.getD i m0).1) ∧ (0 ≤ (l.getD i m0).2.2.1 ∧ (l.getD i m0).2.2.1 ≤ 1099511627776) ∧ (1 ≤ (l.getD i m0).2.2.2.1 ∧ (l.getD i m0).2.2.2.1 ≤ longest)
def lsm (l : List Ml) : Nat → Int
  | 0 => 0
  | i + 1 => (l.getD i m0).1
theorem fromR_b {β : Type} (a b c : Int) (f : Bool → Option β) : bindO (dialtoneref36_from (a, (b, c))) f = f (decide (b ≤ a ∧ a ≤ c)) := withinP_b a b c f
theorem lsm_iff {longest last : Int} {l : List Ml} {i : Nat} (h : ∀ j, j < i → MOK longest last l j) (x : Int) : lsm l i + 1 ≤ x ↔ (1 ≤ x ∧ (0 < i → (l.getD (i - 1) m0).1 < x)) := by
  cases i with
  | zero => simp only [lsm]; exact ⟨fun k => ⟨by omega, fun g => by omega⟩, fun k => by omega⟩
  | succ i =>
    have := (h i (by omega)).1
    simp only [lsm, Nat.add_sub_cancel]
    exact ⟨fun k => ⟨by omega, fun _ => by omega⟩, fun k => by have := k.2 (by omega); omega⟩
theorem lsm_bnd {longest last : Int} {l : List Ml} {i : Nat} (hb : 0 ≤ last ∧ last ≤ 2147483647) (h : ∀ j, j < i → MOK longest last l j) : 0 ≤ lsm l i ∧ lsm l i ≤ 2147483647 := by
  cases i with
  | zero => simp only [lsm]; omega
  | succ i =>
    have h0 := h i (by omega)
    have g1 := h0.1
    have g2 := h0.2.1
    simp only [lsm]
    omega
theorem bp_j (longest last : Int) (l : List Ml) (hb : 0 ≤ last ∧ last ≤ 2147483647) (hl : l.length ≤ 1000) :
    ((∀ i, i < l.length → MOK longest last l i) ∧ loopO (bpB longest last l) (0, 0) = some (.inl ())) ∨ (¬ (∀ i, i < l.length → MOK longest last l i) ∧ loopO (bpB longest last l) (0, 0) = some (.inr false)) := by
  refine loop_allI (body := bpB longest last l) (fun i => ((i : Int), lsm l i)) l.length (MOK longest last l) _ _ rfl (fun i hi hp hb' => ?_) (fun i hi hp hb' => ?_) (fun _ => ?_)
  · obtain ⟨x, hx, hxb⟩ := get_at m0 hi
    have hli := lsm_iff hp x.1
    have hlb := lsm_bnd hb hp
    have hs : lsm l (i + 1) = x.1 := by rw [lsm, hx]
    unfold MOK at hb'
    rw [hx] at hb'
    obtain ⟨h1, h2, h3, h4, h5⟩ := hb'
    have h7 := hli.2 ⟨h1, h3⟩
    rw [hs]
    unfold bpB
    simp (disch := (first | omega | (simp only [List.length_append, List.length_cons, List.length_nil, List.nil_append, List.length_take, List.length_drop]; omega))) only [↓bindO_some, ↓bindO_none, ↓joinO_inl, ↓joinO_inr, ↓joinO_none, ↓outO_some, ↓outO_none, ↓cond_true, ↓cond_false, ↓cond_and, ↓cond_or, ↓cond_not, ↓cond_ite, ↓if_pos, ↓if_neg, ↓if_true, ↓if_false, List.take_length, Nat.le_refl, Bool.not_true, Bool.not_false, if_pos, if_neg, ↓hxb, ↓withinP_b, wrap_i64', nots, h7, h2, h4, h5, and_self, decide_true]
  · obtain ⟨x, hx, hxb⟩ := get_at m0 hi
    have hli := lsm_iff hp x.1
    have hlb := lsm_bnd hb hp
    unfold MOK at hb'
    rw [hx] at hb'
    unfold bpB
    by_cases h1 : lsm l i + 1 ≤ x.1 ∧ x.1 ≤ last
    · skip
      by_cases h4 : 0 ≤ x.2.2.1 ∧ x.2.2.1 ≤ 1099511627776
      · skip
        by_cases h5 : 1 ≤ x.2.2.2.1 ∧ x.2.2.2.1 ≤ longest
        · skip
          have h7 := hli.1 h1.1
          exact (hb' ⟨h7.1, h1.2, h7.2, h4, h5⟩).elim
        · simp (disch := (first | omega | (simp only [List.length_append, List.length_cons, List.length_nil, List.nil_append, List.length_take, List.length_drop]; omega))) only [↓bindO_some, ↓bindO_none, ↓joinO_inl, ↓joinO_inr, ↓joinO_none, ↓outO_some, ↓outO_none, ↓cond_true, ↓cond_false, ↓cond_and, ↓cond_or, ↓cond_not, ↓cond_ite, ↓if_pos, ↓if_neg, ↓if_true, ↓if_false, List.take_length, Nat.le_refl, Bool.not_true, Bool.not_false, if_pos, if_neg, ↓hxb, ↓withinP_b, wrap_i64', nots, and_self, decide_true, decide_false, h1, h4, h5]
      · simp (disch := (first | omega | (simp only [List.length_append, List.length_cons, List.length_nil, List.nil_append, List.length_take, List.length_drop]; omega))) only [↓bindO_some, ↓bindO_none, ↓joinO_inl, ↓joinO_inr, ↓joinO_none, ↓outO_some, ↓outO_none, ↓cond_true, ↓cond_false, ↓cond_and, ↓cond_or, ↓cond_not, ↓cond_ite, ↓if_pos, ↓if_neg, ↓if_true, ↓if_false, List.take_length, Nat.le_refl, Bool.not_true, Bool.not_false, if_pos, if_neg, ↓hxb, ↓withinP_b, wrap_i64', nots, and_self, decide_true, decide_false, h1, h4]
    · simp (disch := (first | omega | (simp only [List.length_append, List.length_cons, List.length_nil, List.nil_append, List.length_take, List.length_drop]; omega))) only [↓bindO_some, ↓bindO_none, ↓joinO_inl, ↓joinO_inr, ↓joinO_none, ↓outO_some, ↓outO_none, ↓cond_true, ↓cond_false, ↓cond_and, ↓cond_or, ↓cond_not, ↓cond_ite, ↓if_pos, ↓if_neg, ↓if_true, ↓if_false, List.take_length, Nat.le_refl, Bool.not_true, Bool.not_false, if_pos, if_neg, ↓hxb, ↓withinP_b, wrap_i64', nots, and_self, decide_true, decide_false, h1]
  · unfold bpB
    simp (disch := (first | omega | (simp only [List.length_append, List.length_cons, List.length_nil, List.nil_append, List.length_take, List.length_drop]; omega))) only [↓bindO_some, ↓bindO_none, ↓joinO_inl, ↓joinO_inr, ↓joinO_none, ↓outO_some, ↓outO_none, ↓cond_true, ↓cond_false, ↓cond_and, ↓cond_or, ↓cond_not, ↓cond_ite, ↓if_pos, ↓if_neg, ↓if_true, ↓if_false, List.take_length, Nat.le_refl, Bool.not_true, Bool.not_false, if_neg]
theorem br_j (longest last : Int) (l : List Ml) (hl : l.length ≤ 1000) :
    ((∀ i, i < l.length → MOK longest last l i) ∧ loopO (brB longest last l) 0 = some (.inl ())) ∨ (¬ (∀ i, i < l.length → MOK longest last l i) ∧ loopO (brB longest last l) 0 = some (.inr false)) := by
  refine loop_all (body := brB longest last l) l.length (MOK longest last l) _ _ (fun i hi hb' => ?_) (fun i hi hb' => ?_) ?_
  · obtain ⟨x, hx, hxb⟩ := get_at m0 hi
    unfold MOK at hb'
    rw [hx] at hb'
    obtain ⟨h1, h2, h3, h4, h5⟩ := hb'
    unfold brB
    by_cases h0 : 0 < i
    · obtain ⟨y, hy, hyb⟩ := get_at m0 (show i - 1 < l.length by omega)
      have h3 := h3 h0
      rw [hy] at h3
      have hc : ((i : Int) - 1) = ((i - 1 : Nat) : Int) := by omega
      simp (disch := (first | omega | (simp only [List.length_append, List.length_cons, List.length_nil, List.nil_append, List.length_take, List.length_drop]; omega))) only [↓bindO_some, ↓bindO_none, ↓joinO_inl, ↓joinO_inr, ↓joinO_none, ↓outO_some, ↓outO_none, ↓cond_true, ↓cond_false, ↓cond_and, ↓cond_or, ↓cond_not, ↓cond_ite, ↓if_pos, ↓if_neg, ↓if_true, ↓if_false, List.take_length, Nat.le_refl, Bool.not_true, Bool.not_false, if_pos, if_neg, ↓hxb, ↓hyb, hc, ↓fromR_b, wrap_i64', nots, h1, h2, h4, h5, and_self, decide_true]
    · simp (disch := (first | omega | (simp only [List.length_append, List.length_cons, List.length_nil, List.nil_append, List.length_take, List.length_drop]; omega))) only [↓bindO_some, ↓bindO_none, ↓joinO_inl, ↓joinO_inr, ↓joinO_none, ↓outO_some, ↓outO_none, ↓cond_true, ↓cond_false, ↓cond_and, ↓cond_or, ↓cond_not, ↓cond_ite, ↓if_pos, ↓if_neg, ↓if_true, ↓if_false, List.take_length, Nat.le_refl, Bool.not_true, Bool.not_false, if_pos, if_neg, ↓hxb, ↓fromR_b, wrap_i64', nots, h1, h2, h4, h5, and_self, decide_true]
  · obtain ⟨x, hx, hxb⟩ := get_at m0 hi
    unfold MOK at hb'
    rw [hx] at hb'
    unfold brB
    by_cases h0 : 0 < i
    · obtain ⟨y, hy, hyb⟩ := get_at m0 (show i - 1 < l.length by omega)
      rw [hy] at hb'
      have hc : ((i : Int) - 1) = ((i - 1 : Nat) : Int) := by omega
      by_cases h1 : 1 ≤ x.1 ∧ x.1 ≤ last
      · skip
        by_cases h3 : ¬ x.1 ≤ y.1
        · skip
          by_cases h4 : 0 ≤ x.2.2.1 ∧ x.2.2.1 ≤ 1099511627776
          · skip
            by_cases h5 : 1 ≤ x.2.2.2.1 ∧ x.2.2.2.1 ≤ longest
            · skip
              exact (hb' ⟨h1.1, h1.2, fun _ => by omega, h4, h5⟩).elim
            · simp (disch := (first | omega | (simp only [List.length_append, List.length_cons, List.length_nil, List.nil_append, List.length_take, List.length_drop]; omega))) only [↓bindO_some, ↓bindO_none, ↓joinO_inl, ↓joinO_inr, ↓joinO_none, ↓outO_some, ↓outO_none, ↓cond_true, ↓cond_false, ↓cond_and, ↓cond_or, ↓cond_not, ↓cond_ite, ↓if_pos, ↓if_neg, ↓if_true, ↓if_false, List.take_length, Nat.le_refl, Bool.not_true, Bool.not_false, if_pos, if_neg, ↓hxb, ↓hyb, hc, ↓fromR_b, wrap_i64', nots, and_self, decide_true, decide_false, h1, h3, h4, h5]
          · simp (disch := (first | omega | (simp only [List.length_append, List.length_cons, List.length_nil, List.nil_append, List.length_take, List.length_drop]; omega))) only [↓bindO_some, ↓bindO_none, ↓joinO_inl, ↓joinO_inr, ↓joinO_none, ↓outO_some, ↓outO_none, ↓cond_true, ↓cond_false, ↓cond_and, ↓cond_or, ↓cond_not, ↓cond_ite, ↓if_pos, ↓if_neg, ↓if_true, ↓if_false, List.take_length, Nat.le_refl, Bool.not_true, Bool.not_false, if_pos, if_neg, ↓hxb, ↓hyb, hc, ↓fromR_b, wrap_i64', nots, and_self, decide_true, decide_false, h1, h3, h4]
        · simp (disch := (first | omega | (simp only [List.length_append, List.length_cons, List.length_nil, List.nil_append, List.length_take, List.length_drop]; omega))) only [↓bindO_some, ↓bindO_none, ↓joinO_inl, ↓joinO_inr, ↓joinO_none, ↓outO_some, ↓outO_none, ↓cond_true, ↓cond_false, ↓cond_and, ↓cond_or, ↓cond_not, ↓cond_ite, ↓if_pos, ↓if_neg, ↓if_true, ↓if_false, List.take_length, Nat.le_refl, Bool.not_true, Bool.not_false, if_pos, if_neg, ↓hxb, ↓hyb, hc, ↓fromR_b, wrap_i64', nots, and_self, decide_true, decide_false, h1, h3]
      · simp (disch := (first | omega | (simp only [List.length_append, List.length_cons, List.length_nil, List.nil_append, List.length_take, List.length_drop]; omega))) only [↓bindO_some, ↓bindO_none, ↓joinO_inl, ↓joinO_inr, ↓joinO_none, ↓outO_some, ↓outO_none, ↓cond_true, ↓cond_false, ↓cond_and, ↓cond_or, ↓cond_not, ↓cond_ite, ↓if_pos, ↓if_neg, ↓if_true, ↓if_false, List.take_length, Nat.le_refl, Bool.not_true, Bool.not_false, if_pos, if_neg, ↓hxb, ↓hyb, hc, ↓fromR_b, wrap_i64', nots, and_self, decide_true, decide_false, h1]
    · skip
      by_cases h1 : 1 ≤ x.1 ∧ x.1 ≤ last
      · skip
        by_cases h4 : 0 ≤ x.2.2.1 ∧ x.2.2.1 ≤ 1099511627776
        · skip
          by_cases h5 : 1 ≤ x.2.2.2.1 ∧ x.2.2.2.1 ≤ longest
          · skip
            exact (hb' ⟨h1.1, h1.2, fun g => (h0 g).elim, h4, h5⟩).elim
          · simp (disch := (first | omega | (simp only [List.length_append, List.length_cons, List.length_nil, List.nil_append, List.length_take, List.length_drop]; omega))) only [↓bindO_some, ↓bindO_none, ↓joinO_inl, ↓joinO_inr, ↓joinO_none, ↓outO_some, ↓outO_none, ↓cond_true, ↓cond_false, ↓cond_and, ↓cond_or, ↓cond_not, ↓cond_ite, ↓if_pos, ↓if_neg, ↓if_true, ↓if_false, List.take_length, Nat.le_refl, Bool.not_true, Bool.not_false, if_pos, if_neg, ↓hxb, ↓fromR_b, wrap_i64', nots, and_self, decide_true, decide_false, h1, h4, h5]
        · simp (disch := (first | omega | (simp only [List.length_append, List.length_cons, List.length_nil, List.nil_append, List.length_take, List.length_drop]; omega))) only [↓bindO_some, ↓bindO_none, ↓joinO_inl, ↓joinO_inr, ↓joinO_none, ↓outO_some, ↓outO_none, ↓cond_true, ↓cond_false, ↓cond_and, ↓cond_or, ↓cond_not, ↓cond_ite, ↓if_pos, ↓if_neg, ↓if_true, ↓if_false, List.take_length, Nat.le_refl, Bool.not_true, Bool.not_false, if_pos, if_neg, ↓hxb, ↓fromR_b, wrap_i64', nots, and_self, decide_true, decide_false, h1, h4]
      · simp (disch := (first | omega | (simp only [List.length_append, List.length_cons, List.length_nil, List.nil_append, List.length_take, List.length_drop]; omega))) only [↓bindO_some, ↓bindO_none, ↓joinO_inl, ↓joinO_inr, ↓joinO_none, ↓outO_some, ↓outO_none, ↓cond_true, ↓cond_false, ↓cond_and, ↓cond_or, ↓cond_not, ↓cond_ite, ↓if_pos, ↓if_neg, ↓if_true, ↓if_false, List.take_length, Nat.le_refl, Bool.not_true, Bool.not_false, if_pos, if_neg, ↓hxb, ↓fromR_b, wrap_i64', nots, and_self, decide_true, decide_false, h1]
  · unfold brB
    simp (disch := (first | omega | (simp only [List.length_append, List.length_cons, List.length_nil, List.nil_append, List.length_take, List.length_drop]; omega))) only [↓bindO_some, ↓bindO_none, ↓joinO_inl, ↓joinO_inr, ↓joinO_none, ↓outO_some, ↓outO_none, ↓cond_true, ↓cond_false, ↓cond_and, ↓cond_or, ↓cond_not, ↓cond_ite, ↓if_pos, ↓if_neg, ↓if_true, ↓if_false, List.take_length, Nat.le_refl, Bool.not_true, Bool.not_false, if_neg]
def BOX (most longest last : Int) (l : List Ml) : Prop := BH most longest last l.length ∧ ∀ i, i < l.length → MOK longest last l i
theorem mbP_j (o : List UInt8) (a b c : Int) (l : List Ml) (hl : l.length ≤ 1000) : Is (queues_MayBox (o, (a, (b, (c, l))))) (BOX a b c l) := by
  rw [mbP_eq]
  by_cases h1 : 1 ≤ a ∧ a ≤ 100
  · skip
    by_cases h2 : 1 ≤ b ∧ b ≤ 2147483647
    · skip
      by_cases h3 : 0 ≤ c ∧ c ≤ 2147483647
      · skip
        by_cases h4 : ¬ (l.length : Int) > a
        · skip
          simp (disch := (first | omega | (simp only [List.length_append, List.length_cons, List.length_nil, List.nil_append, List.length_take, List.length_drop]; omega))) only [↓bindO_some, ↓bindO_none, ↓joinO_inl, ↓joinO_inr, ↓joinO_none, ↓outO_some, ↓outO_none, ↓cond_true, ↓cond_false, ↓cond_and, ↓cond_or, ↓cond_not, ↓cond_ite, ↓if_pos, ↓if_neg, ↓if_true, ↓if_false, List.take_length, Nat.le_refl, Bool.not_true, Bool.not_false, ↓withinP_b, and_self, decide_true, decide_false, h1, h2, h3, h4]
          rcases bp_j b c l h3 hl with ⟨h, e⟩ | ⟨h, e⟩
          · rw [e]; exact Is.t ⟨⟨h1, h2, h3, by omega⟩, h⟩
          · rw [e]; exact Is.f fun k => h k.2
        · (simp (disch := (first | omega | (simp only [List.length_append, List.length_cons, List.length_nil, List.nil_append, List.length_take, List.length_drop]; omega))) only [↓bindO_some, ↓bindO_none, ↓joinO_inl, ↓joinO_inr, ↓joinO_none, ↓outO_some, ↓outO_none, ↓cond_true, ↓cond_false, ↓cond_and, ↓cond_or, ↓cond_not, ↓cond_ite, ↓if_pos, ↓if_neg, ↓if_true, ↓if_false, List.take_length, Nat.le_refl, Bool.not_true, Bool.not_false, ↓withinP_b, and_self, decide_true, decide_false, if_pos, if_neg, h1, h2, h3, h4]; exact Is.f fun k => by unfold BOX BH at k; omega)
      · (simp (disch := (first | omega | (simp only [List.length_append, List.length_cons, List.length_nil, List.nil_append, List.length_take, List.length_drop]; omega))) only [↓bindO_some, ↓bindO_none, ↓joinO_inl, ↓joinO_inr, ↓joinO_none, ↓outO_some, ↓outO_none, ↓cond_true, ↓cond_false, ↓cond_and, ↓cond_or, ↓cond_not, ↓cond_ite, ↓if_pos, ↓if_neg, ↓if_true, ↓if_false, List.take_length, Nat.le_refl, Bool.not_true, Bool.not_false, ↓withinP_b, and_self, decide_true, decide_false, if_pos, if_neg, h1, h2, h3]; exact Is.f fun k => by unfold BOX BH at k; omega)
    · (simp (disch := (first | omega | (simp only [List.length_append, List.length_cons, List.length_nil, List.nil_append, List.length_take, List.length_drop]; omega))) only [↓bindO_some, ↓bindO_none, ↓joinO_inl, ↓joinO_inr, ↓joinO_none, ↓outO_some, ↓outO_none, ↓cond_true, ↓cond_false, ↓cond_and, ↓cond_or, ↓cond_not, ↓cond_ite, ↓if_pos, ↓if_neg, ↓if_true, ↓if_false, List.take_length, Nat.le_refl, Bool.not_true, Bool.not_false, ↓withinP_b, and_self, decide_true, decide_false, if_pos, if_neg, h1, h2]; exact Is.f fun k => by unfold BOX BH at k; omega)
  · (simp (disch := (first | omega | (simp only [List.length_append, List.length_cons, List.length_nil, List.nil_append, List.length_take, List.length_drop]; omega))) only [↓bindO_some, ↓bindO_none, ↓joinO_inl, ↓joinO_inr, ↓joinO_none, ↓outO_some, ↓outO_none, ↓cond_true, ↓cond_false, ↓cond_and, ↓cond_or, ↓cond_not, ↓cond_ite, ↓if_pos, ↓if_neg, ↓if_true, ↓if_false, List.take_length, Nat.le_refl, Bool.not_true, Bool.not_false, ↓withinP_b, and_self, decide_true, decide_false, if_pos, if_neg, h1]; exact Is.f fun k => by unfold BOX BH at k; omega)
theorem mbR_j (o : List UInt8) (a b c : Int) (l : List Ml) (hl : l.length ≤ 1000) : Is (dialtoneref36_MayBox (o, (a, (b, (c, l))))) (BOX a b c l) := by
  rw [mbR_eq]
  by_cases h1 : 1 ≤ a ∧ a ≤ 100
  · skip
    by_cases h2 : 1 ≤ b ∧ b ≤ 2147483647
    · skip
      by_cases h3 : 0 ≤ c ∧ c ≤ 2147483647
      · skip
        by_cases h4 : ¬ (l.length : Int) > a
        · skip
          simp (disch := (first | omega | (simp only [List.length_append, List.length_cons, List.length_nil, List.nil_append, List.length_take, List.length_drop]; omega))) only [↓bindO_some, ↓bindO_none, ↓joinO_inl, ↓joinO_inr, ↓joinO_none, ↓outO_some, ↓outO_none, ↓cond_true, ↓cond_false, ↓cond_and, ↓cond_or, ↓cond_not, ↓cond_ite, ↓if_pos, ↓if_neg, ↓if_true, ↓if_false, List.take_length, Nat.le_refl, Bool.not_true, Bool.not_false, ↓fromR_b, ↓idR_b, and_self, decide_true, decide_false, h1, h2, h3, h4]
          rcases br_j b c l hl with ⟨h, e⟩ | ⟨h, e⟩
          · rw [e]; exact Is.t ⟨⟨h1, h2, h3, by omega⟩, h⟩
          · rw [e]; exact Is.f fun k => h k.2
        · (simp (disch := (first | omega | (simp only [List.length_append, List.length_cons, List.length_nil, List.nil_append, List.length_take, List.length_drop]; omega))) only [↓bindO_some, ↓bindO_none, ↓joinO_inl, ↓joinO_inr, ↓joinO_none, ↓outO_some, ↓outO_none, ↓cond_true, ↓cond_false, ↓cond_and, ↓cond_or, ↓cond_not, ↓cond_ite, ↓if_pos, ↓if_neg, ↓if_true, ↓if_false, List.take_length, Nat.le_refl, Bool.not_true, Bool.not_false, ↓fromR_b, ↓idR_b, and_self, decide_true, decide_false, if_pos, if_neg, h1, h2, h3, h4]; exact Is.f fun k => by unfold BOX BH at k; omega)
      · (simp (disch := (first | omega | (simp only [List.length_append, List.length_cons, List.length_nil, List.nil_append, List.length_take, List.length_drop]; omega))) only [↓bindO_some, ↓bindO_none, ↓joinO_inl, ↓joinO_inr, ↓joinO_none, ↓outO_some, ↓outO_none, ↓cond_true, ↓cond_false, ↓cond_and, ↓cond_or, ↓cond_not, ↓cond_ite, ↓if_pos, ↓if_neg, ↓if_true, ↓if_false, List.take_length, Nat.le_refl, Bool.not_true, Bool.not_false, ↓fromR_b, ↓idR_b, and_self, decide_true, decide_false, if_pos, if_neg, h1, h2, h3]; exact Is.f fun k => by unfold BOX BH at k; omega)
    · (simp (disch := (first | omega | (simp only [List.length_append, List.length_cons, List.length_nil, List.nil_append, List.length_take, List.length_drop]; omega))) only [↓bindO_some, ↓bindO_none, ↓joinO_inl, ↓joinO_inr, ↓joinO_none, ↓outO_some, ↓outO_none, ↓cond_true, ↓cond_false, ↓cond_and, ↓cond_or, ↓cond_not, ↓cond_ite, ↓if_pos, ↓if_neg, ↓if_true, ↓if_false, List.take_length, Nat.le_refl, Bool.not_true, Bool.not_false, ↓fromR_b, ↓idR_b, and_self, decide_true, decide_false, if_pos, if_neg, h1, h2]; exact Is.f fun k => by unfold BOX BH at k; omega)
  · (simp (disch := (first | omega | (simp only [List.length_append, List.length_cons, List.length_nil, List.nil_append, List.length_take, List.length_drop]; omega))) only [↓bindO_some, ↓bindO_none, ↓joinO_inl, ↓joinO_inr, ↓joinO_none, ↓outO_some, ↓outO_none, ↓cond_true, ↓cond_false, ↓cond_and, ↓cond_or, ↓cond_not, ↓cond_ite, ↓if_pos, ↓if_neg, ↓if_true, ↓if_false, List.take_length, Nat.le_refl, Bool.not_true, Bool.not_false, ↓fromR_b, ↓idR_b, and_self, decide_true, decide_false, if_pos, if_neg, h1]; exact Is.f fun k => by unfold BOX BH at k; omega)
open Classical in
theorem mbP_b {β : Type} (o : List UInt8) (a b c : Int) (l : List Ml) (hl : l.length ≤ 1000) (k : Bool → Option β) : bindO (queues_MayBox (o, (a, (b, (c, l))))) k = k (decide (BOX a b c l)) := by rw [(mbP_j o a b c l hl).dec]; rfl
open Classical in
theorem mbR_b {β : Type} (o : List UInt8) (a b c : Int) (l : List Ml) (hl : l.length ≤ 1000) (k : Bool → Option β) : bindO (dialtoneref36_MayBox (o, (a, (b, (c, l))))) k = k (decide (BOX a b c l)) := by rw [(mbR_j o a b c l hl).dec]; rfl
theorem newB_j (o : List UInt8) (a b : Int) : ∃ r, queues_NewBox (o, (a, b)) = some r ∧ dialtoneref36_NewBox (o, (a, b)) = some r ∧ r.1.2.2.2.2.length ≤ 100000 := by
  have h0 : ([] : List Ml).length ≤ 1000 := Nat.zero_le _
  unfold queues_NewBox dialtoneref36_NewBox
  by_cases h : BOX a b 0 []
  · simp (disch := (first | omega | (simp only [List.length_append, List.length_cons, List.length_nil, List.nil_append, List.length_take, List.length_drop]; omega))) only [↓bindO_some, ↓bindO_none, ↓joinO_inl, ↓joinO_inr, ↓joinO_none, ↓outO_some, ↓outO_none, ↓cond_true, ↓cond_false, ↓cond_and, ↓cond_or, ↓cond_not, ↓cond_ite, ↓if_pos, ↓if_neg, ↓if_true, ↓if_false, List.take_length, Nat.le_refl, Bool.not_true, Bool.not_false, mbP_b o a b 0 [] h0, mbR_b o a b 0 [] h0, h, decide_true]
    first | exact ⟨_, rfl, rfl, Nat.zero_le _⟩ | exact ⟨_, rfl, Nat.zero_le _⟩
  · simp (disch := (first | omega | (simp only [List.length_append, List.length_cons, List.length_nil, List.nil_append, List.length_take, List.length_drop]; omega))) only [↓bindO_some, ↓bindO_none, ↓joinO_inl, ↓joinO_inr, ↓joinO_none, ↓outO_some, ↓outO_none, ↓cond_true, ↓cond_false, ↓cond_and, ↓cond_or, ↓cond_not, ↓cond_ite, ↓if_pos, ↓if_neg, ↓if_true, ↓if_false, List.take_length, Nat.le_refl, Bool.not_true, Bool.not_false, mbP_b o a b 0 [] h0, mbR_b o a b 0 [] h0, h, decide_false]
    first | exact ⟨_, rfl, rfl, Nat.zero_le _⟩ | exact ⟨_, rfl, Nat.zero_le _⟩
theorem mailOf_eq (x : Bx × Int) : queues_mailOf x = dialtoneref36_find x := rfl
theorem find_j (o : List UInt8) (a b c : Int) (l : List Ml) (n : Int) (hl : l.length ≤ 1000) : (∃ i : Nat, i < l.length ∧ dialtoneref36_find ((o, (a, (b, (c, l)))), n) = some (i : Int)) ∨ dialtoneref36_find ((o, (a, (b, (c, l)))), n) = some (-1) := by
  rw [find_eq]
  rcases loop_first (body := fiB l n) l.length (fun k => (l.getD k m0).1 = n) (fun k => .inr (k : Int)) (.inl ()) (fun k hk hb => by
      obtain ⟨x, hx, hxb⟩ := get_at m0 hk
      rw [hx] at hb
      unfold fiB
      simp (disch := (first | omega | (simp only [List.length_append, List.length_cons, List.length_nil, List.nil_append, List.length_take, List.length_drop]; omega))) only [↓bindO_some, ↓bindO_none, ↓joinO_inl, ↓joinO_inr, ↓joinO_none, ↓outO_some, ↓outO_none, ↓cond_true, ↓cond_false, ↓cond_and, ↓cond_or, ↓cond_not, ↓cond_ite, ↓if_pos, ↓if_neg, ↓if_true, ↓if_false, List.take_length, Nat.le_refl, Bool.not_true, Bool.not_false, if_pos, if_neg, ↓hxb, wrap_i64', nots, hb, decide_false])
    (fun k hk hb => by
      obtain ⟨x, hx, hxb⟩ := get_at m0 hk
      rw [hx] at hb
      unfold fiB
      simp (disch := (first | omega | (simp only [List.length_append, List.length_cons, List.length_nil, List.nil_append, List.length_take, List.length_drop]; omega))) only [↓bindO_some, ↓bindO_none, ↓joinO_inl, ↓joinO_inr, ↓joinO_none, ↓outO_some, ↓outO_none, ↓cond_true, ↓cond_false, ↓cond_and, ↓cond_or, ↓cond_not, ↓cond_ite, ↓if_pos, ↓if_neg, ↓if_true, ↓if_false, List.take_length, Nat.le_refl, Bool.not_true, Bool.not_false, if_pos, if_neg, ↓hxb, hb, decide_true])
    (by unfold fiB; simp (disch := (first | omega | (simp only [List.length_append, List.length_cons, List.length_nil, List.nil_append, List.length_take, List.length_drop]; omega))) only [↓bindO_some, ↓bindO_none, ↓joinO_inl, ↓joinO_inr, ↓joinO_none, ↓outO_some, ↓outO_none, ↓cond_true, ↓cond_false, ↓cond_and, ↓cond_or, ↓cond_not, ↓cond_ite, ↓if_pos, ↓if_neg, ↓if_true, ↓if_false, List.take_length, Nat.le_refl, Bool.not_true, Bool.not_false, if_neg]) with ⟨k, k1, k2, _, e⟩ | ⟨h, e⟩
  · exact .inl ⟨k, k1, by rw [e]; rfl⟩
  · exact .inr (by rw [e]; rfl)
theorem lay_self {α : Type} (z : α) (l : List α) : layL (List.replicate l.length z) 0 l = l := layL_all (by rw [List.length_replicate])
theorem cons_app {α : Type} (x : α) : [] ++ [x] = [x] := rfl
theorem deposit_j (o : List UInt8) (a b c : Int) (l : List Ml) (fr : List UInt8) (sec now : Int) (hl : l.length ≤ 1000) : ∃ r, queues_Deposit ((o, (a, (b, (c, l)))), (fr, (sec, now))) = some r ∧ dialtoneref36_Deposit ((o, (a, (b, (c, l)))), (fr, (sec, now))) = some r ∧ r.1.2.2.2.2.length ≤ 100000 := by
  unfold queues_Deposit dialtoneref36_Deposit
  by_cases h1 : BOX a b c l
  · by_cases h2 : sec < 1
    · simp (disch := (first | omega | (simp only [List.length_append, List.length_cons, List.length_nil, List.nil_append, List.length_take, List.length_drop]; omega))) only [↓bindO_some, ↓bindO_none, ↓joinO_inl, ↓joinO_inr, ↓joinO_none, ↓outO_some, ↓outO_none, ↓cond_true, ↓cond_false, ↓cond_and, ↓cond_or, ↓cond_not, ↓cond_ite, ↓if_pos, ↓if_neg, ↓if_true, ↓if_false, List.take_length, Nat.le_refl, Bool.not_true, Bool.not_false, ↓mbP_b, ↓mbR_b, h1, h2, decide_true]
      first | exact ⟨_, rfl, rfl, Nat.zero_le _⟩ | exact ⟨_, rfl, Nat.zero_le _⟩
    · by_cases h3 : 0 ≤ now ∧ now ≤ 1099511627776
      · by_cases h4 : (l.length : Int) ≥ a
        · simp (disch := (first | omega | (simp only [List.length_append, List.length_cons, List.length_nil, List.nil_append, List.length_take, List.length_drop]; omega))) only [↓bindO_some, ↓bindO_none, ↓joinO_inl, ↓joinO_inr, ↓joinO_none, ↓outO_some, ↓outO_none, ↓cond_true, ↓cond_false, ↓cond_and, ↓cond_or, ↓cond_not, ↓cond_ite, ↓if_pos, ↓if_neg, ↓if_true, ↓if_false, List.take_length, Nat.le_refl, Bool.not_true, Bool.not_false, ↓mbP_b, ↓mbR_b, ↓withinP_b, ↓fromR_b, h1, h2, h3, h4, and_self, decide_true, decide_false]
          first | exact ⟨_, rfl, rfl, Nat.zero_le _⟩ | exact ⟨_, rfl, Nat.zero_le _⟩
        · by_cases h5 : c ≥ 2147483647
          · simp (disch := (first | omega | (simp only [List.length_append, List.length_cons, List.length_nil, List.nil_append, List.length_take, List.length_drop]; omega))) only [↓bindO_some, ↓bindO_none, ↓joinO_inl, ↓joinO_inr, ↓joinO_none, ↓outO_some, ↓outO_none, ↓cond_true, ↓cond_false, ↓cond_and, ↓cond_or, ↓cond_not, ↓cond_ite, ↓if_pos, ↓if_neg, ↓if_true, ↓if_false, List.take_length, Nat.le_refl, Bool.not_true, Bool.not_false, ↓mbP_b, ↓mbR_b, ↓withinP_b, ↓fromR_b, h1, h2, h3, h4, h5, and_self, decide_true, decide_false]
            first | exact ⟨_, rfl, rfl, Nat.zero_le _⟩ | exact ⟨_, rfl, Nat.zero_le _⟩
          · have hc := h1.1.2.2.1
            by_cases h6 : (l.length : Int) = 0
            · have hn : l = [] := List.eq_nil_of_length_eq_zero (by omega)
              subst hn
              simp (disch := (first | omega | (simp only [List.length_append, List.length_cons, List.length_nil, List.nil_append, List.length_take, List.length_drop]; omega))) only [↓bindO_some, ↓bindO_none, ↓joinO_inl, ↓joinO_inr, ↓joinO_none, ↓outO_some, ↓outO_none, ↓cond_true, ↓cond_false, ↓cond_and, ↓cond_or, ↓cond_not, ↓cond_ite, ↓if_pos, ↓if_neg, ↓if_true, ↓if_false, List.take_length, Nat.le_refl, Bool.not_true, Bool.not_false, ↓mbP_b, ↓mbR_b, ↓withinP_b, ↓fromR_b, h1, h2, h3, h4, h5, h6, and_self, decide_true, decide_false, wrap_i64', if_pos, List.length_nil, List.length_cons, List.take_nil, List.nil_append, Nat.zero_add]
              first | exact ⟨_, rfl, rfl, by simp⟩ | exact ⟨_, rfl, by simp⟩
            · have hk : ((l.length = 0) ∨ (1 ≠ 0)) := .inr (by omega)
              simp (disch := (first | omega | (simp only [List.length_append, List.length_cons, List.length_nil, List.nil_append, List.length_take, List.length_drop]; omega))) only [↓bindO_some, ↓bindO_none, ↓joinO_inl, ↓joinO_inr, ↓joinO_none, ↓outO_some, ↓outO_none, ↓cond_true, ↓cond_false, ↓cond_and, ↓cond_or, ↓cond_not, ↓cond_ite, ↓if_pos, ↓if_neg, ↓if_true, ↓if_false, List.take_length, Nat.le_refl, Bool.not_true, Bool.not_false, ↓mbP_b, ↓mbR_b, ↓withinP_b, ↓fromR_b, h1, h2, h3, h4, h5, h6, and_self, decide_true, decide_false, wrap_i64', if_pos, Int.toNat_natCast, List.length_replicate, lay_self, hk, List.length_append, List.length_cons, List.length_nil]
              first | exact ⟨_, rfl, rfl, by simp; omega⟩ | exact ⟨_, rfl, by simp; omega⟩
      · simp (disch := (first | omega | (simp only [List.length_append, List.length_cons, List.length_nil, List.nil_append, List.length_take, List.length_drop]; omega))) only [↓bindO_some, ↓bindO_none, ↓joinO_inl, ↓joinO_inr, ↓joinO_none, ↓outO_some, ↓outO_none, ↓cond_true, ↓cond_false, ↓cond_and, ↓cond_or, ↓cond_not, ↓cond_ite, ↓if_pos, ↓if_neg, ↓if_true, ↓if_false, List.take_length, Nat.le_refl, Bool.not_true, Bool.not_false, ↓mbP_b, ↓mbR_b, ↓withinP_b, ↓fromR_b, h1, h2, h3, decide_true, decide_false]
        first | exact ⟨_, rfl, rfl, Nat.zero_le _⟩ | exact ⟨_, rfl, Nat.zero_le _⟩
  · simp (disch := (first | omega | (simp only [List.length_append, List.length_cons, List.length_nil, List.nil_append, List.length_take, List.length_drop]; omega))) only [↓bindO_some, ↓bindO_none, ↓joinO_inl, ↓joinO_inr, ↓joinO_none, ↓outO_some, ↓outO_none, ↓cond_true, ↓cond_false, ↓cond_and, ↓cond_or, ↓cond_not, ↓cond_ite, ↓if_pos, ↓if_neg, ↓if_true, ↓if_false, List.take_length, Nat.le_refl, Bool.not_true, Bool.not_false, ↓mbP_b, ↓mbR_b, h1, decide_false]
    first | exact ⟨_, rfl, rfl, Nat.zero_le _⟩ | exact ⟨_, rfl, Nat.zero_le _⟩
theorem hear_j (o : List UInt8) (a b c : Int) (l : List Ml) (n : Int) (hl : l.length ≤ 1000) : ∃ r, queues_Hear ((o, (a, (b, (c, l)))), n) = some r ∧ dialtoneref36_Hear ((o, (a, (b, (c, l)))), n) = some r ∧ r.1.2.2.2.2.length ≤ 100000 := by
  unfold queues_Hear dialtoneref36_Hear
  by_cases h1 : BOX a b c l
  · simp (disch := (first | omega | (simp only [List.length_append, List.length_cons, List.length_nil, List.nil_append, List.length_take, List.length_drop]; omega))) only [↓bindO_some, ↓bindO_none, ↓joinO_inl, ↓joinO_inr, ↓joinO_none, ↓outO_some, ↓outO_none, ↓cond_true, ↓cond_false, ↓cond_and, ↓cond_or, ↓cond_not, ↓cond_ite, ↓if_pos, ↓if_neg, ↓if_true, ↓if_false, List.take_length, Nat.le_refl, Bool.not_true, Bool.not_false, ↓mbP_b, ↓mbR_b, h1, decide_true, mailOf_eq]
    rcases find_j o a b c l n hl with ⟨i, hi, e⟩ | e
    · obtain ⟨x, hx, hxb⟩ := get_at m0 hi
      have h0 : ¬ (l.length : Int) = 0 := by omega
      have hxb' : ∀ {β : Type} (f : Ml → Option β), bindO l[i]? f = f x := fun f => by have := hxb f; rwa [Int.toNat_natCast] at this
      simp (disch := (first | omega | (simp only [List.length_append, List.length_cons, List.length_nil, List.nil_append, List.length_take, List.length_drop]; omega))) only [↓bindO_some, ↓bindO_none, ↓joinO_inl, ↓joinO_inr, ↓joinO_none, ↓outO_some, ↓outO_none, ↓cond_true, ↓cond_false, ↓cond_and, ↓cond_or, ↓cond_not, ↓cond_ite, ↓if_pos, ↓if_neg, ↓if_true, ↓if_false, List.take_length, Nat.le_refl, Bool.not_true, Bool.not_false, e, if_pos, if_neg, ↓hxb, ↓hxb', h0, decide_false, decide_true, Int.toNat_natCast, List.length_replicate, lay_self, List.length_set, List.take_length]
      have hs : List.take l.length (l.set i (x.1, x.2.1, x.2.2.1, x.2.2.2.1, true)) = l.set i (x.1, x.2.1, x.2.2.1, x.2.2.2.1, true) := List.take_of_length_le (by rw [List.length_set]; exact Nat.le_refl _)
      rw [hs]
      first | exact ⟨_, rfl, rfl, by simp; omega⟩ | exact ⟨_, rfl, by simp; omega⟩
    · simp (disch := (first | omega | (simp only [List.length_append, List.length_cons, List.length_nil, List.nil_append, List.length_take, List.length_drop]; omega))) only [↓bindO_some, ↓bindO_none, ↓joinO_inl, ↓joinO_inr, ↓joinO_none, ↓outO_some, ↓outO_none, ↓cond_true, ↓cond_false, ↓cond_and, ↓cond_or, ↓cond_not, ↓cond_ite, ↓if_pos, ↓if_neg, ↓if_true, ↓if_false, List.take_length, Nat.le_refl, Bool.not_true, Bool.not_false, e, if_pos]
      first | exact ⟨_, rfl, rfl, Nat.zero_le _⟩ | exact ⟨_, rfl, Nat.zero_le _⟩
  · simp (disch := (first | omega | (simp only [List.length_append, List.length_cons, List.length_nil, List.nil_append, List.length_take, List.length_drop]; omega))) only [↓bindO_some, ↓bindO_none, ↓joinO_inl, ↓joinO_inr, ↓joinO_none, ↓outO_some, ↓outO_none, ↓cond_true, ↓cond_false, ↓cond_and, ↓cond_or, ↓cond_not, ↓cond_ite, ↓if_pos, ↓if_neg, ↓if_true, ↓if_false, List.take_length, Nat.le_refl, Bool.not_true, Bool.not_false, ↓mbP_b, ↓mbR_b, h1, decide_false]
    first | exact ⟨_, rfl, rfl, Nat.zero_le _⟩ | exact ⟨_, rfl, Nat.zero_le _⟩
theorem delete_j (o : List UInt8) (a b c : Int) (l : List Ml) (n : Int) (hl : l.length ≤ 1000) : ∃ r, queues_Delete ((o, (a, (b, (c, l)))), n) = some r ∧ dialtoneref36_Delete ((o, (a, (b, (c, l)))), n) = some r ∧ r.1.2.2.2.2.length ≤ 100000 := by
  unfold queues_Delete dialtoneref36_Delete
  by_cases h1 : BOX a b c l
  · simp (disch := (first | omega | (simp only [List.length_append, List.length_cons, List.length_nil, List.nil_append, List.length_take, List.length_drop]; omega))) only [↓bindO_some, ↓bindO_none, ↓joinO_inl, ↓joinO_inr, ↓joinO_none, ↓outO_some, ↓outO_none, ↓cond_true, ↓cond_false, ↓cond_and, ↓cond_or, ↓cond_not, ↓cond_ite, ↓if_pos, ↓if_neg, ↓if_true, ↓if_false, List.take_length, Nat.le_refl, Bool.not_true, Bool.not_false, ↓mbP_b, ↓mbR_b, h1, decide_true, mailOf_eq]
    rcases find_j o a b c l n hl with ⟨i, hi, e⟩ | e
    · have htk : List.take (l.length - (i + 1)) (List.drop (i + 1) l) = List.drop (i + 1) l := List.take_of_length_le (by rw [List.length_drop]; omega)
      have hdl : (List.drop (i + 1) l).length = l.length - (i + 1) := List.length_drop
      have hti : (List.take i l).length = i := by rw [List.length_take]; omega
      have h0 : ¬ (l.length : Int) = 0 := by omega
      have htl : List.take (l.length - 1) (List.take i l ++ (List.drop (i + 1) l ++ List.drop (l.length - 1) l)) = List.take i l ++ List.drop (i + 1) l := by
        rw [← List.append_assoc, List.take_append_of_le_length (by rw [List.length_append, List.length_take, List.length_drop]; omega), List.take_of_length_le (by rw [List.length_append, List.length_take, List.length_drop]; omega)]
      have hs : i + (l.length - (i + 1)) = l.length - 1 := by omega
      have hs2 : i + 1 + (l.length - (i + 1)) = l.length := by omega
      simp (disch := (first | omega | (simp only [List.length_append, List.length_cons, List.length_nil, List.nil_append, List.length_take, List.length_drop]; omega))) only [↓bindO_some, ↓bindO_none, ↓joinO_inl, ↓joinO_inr, ↓joinO_none, ↓outO_some, ↓outO_none, ↓cond_true, ↓cond_false, ↓cond_and, ↓cond_or, ↓cond_not, ↓cond_ite, ↓if_pos, ↓if_neg, ↓if_true, ↓if_false, List.take_length, Nat.le_refl, Bool.not_true, Bool.not_false, e, if_pos, if_neg, h0, decide_true, decide_false, wrap_i64', nots, Int.toNat_natCast, List.length_replicate, lay_self, htk, hdl, hti, hs, hs2, htl, List.length_append]
      first | exact ⟨_, rfl, rfl, by simp; omega⟩ | exact ⟨_, rfl, by simp; omega⟩
    · simp (disch := (first | omega | (simp only [List.length_append, List.length_cons, List.length_nil, List.nil_append, List.length_take, List.length_drop]; omega))) only [↓bindO_some, ↓bindO_none, ↓joinO_inl, ↓joinO_inr, ↓joinO_none, ↓outO_some, ↓outO_none, ↓cond_true, ↓cond_false, ↓cond_and, ↓cond_or, ↓cond_not, ↓cond_ite, ↓if_pos, ↓if_neg, ↓if_true, ↓if_false, List.take_length, Nat.le_refl, Bool.not_true, Bool.not_false, e, if_pos]
      first | exact ⟨_, rfl, rfl, Nat.zero_le _⟩ | exact ⟨_, rfl, Nat.zero_le _⟩
  · simp (disch := (first | omega | (simp only [List.length_append, List.length_cons, List.length_nil, List.nil_append, List.length_take, List.length_drop]; omega))) only [↓bindO_some, ↓bindO_none, ↓joinO_inl, ↓joinO_inr, ↓joinO_none, ↓outO_some, ↓outO_none, ↓cond_true, ↓cond_false, ↓cond_and, ↓cond_or, ↓cond_not, ↓cond_ite, ↓if_pos, ↓if_neg, ↓if_true, ↓if_false, List.take_length, Nat.le_refl, Bool.not_true, Bool.not_false, ↓mbP_b, ↓mbR_b, h1, decide_false]
    first | exact ⟨_, rfl, rfl, Nat.zero_le _⟩ | exact ⟨_, rfl, Nat.zero_le _⟩
def nHe (l : List Ml) : Int := ((l.countP fun x => x.2.2.2.2) : Nat)
def nFr (l : List Ml) : Int := ((l.countP fun x => !x.2.2.2.2) : Nat)
theorem cnt_snoc (l : List Ml) (x : Ml) : nHe (l ++ [x]) = nHe l + (if x.2.2.2.2 = true then 1 else 0) ∧ nFr (l ++ [x]) = nFr l + (if x.2.2.2.2 = true then 0 else 1) := by
  unfold nHe nFr
  rw [List.countP_append, List.countP_append]
  cases h : x.2.2.2.2 <;> simp [h]
theorem cnt_bnd (l : List Ml) : 0 ≤ nHe l ∧ nHe l ≤ l.length ∧ 0 ≤ nFr l ∧ nFr l ≤ l.length := by
  unfold nHe nFr
  have := List.countP_le_length (l := l) (p := fun x => x.2.2.2.2)
  have := List.countP_le_length (l := l) (p := fun x => !x.2.2.2.2)
  omega
theorem count_j (o : List UInt8) (a b c : Int) (l : List Ml) (hl : l.length ≤ 1000) : ∃ r, queues_Count (o, (a, (b, (c, l)))) = some r ∧ dialtoneref36_Count (o, (a, (b, (c, l)))) = some r := by
  rw [cntP_eq, cntR_eq]
  have key : ∀ i, i < l.length → ∃ x, (∀ {β : Type} (f : Ml → Option β), bindO l[Int.toNat (i : Int)]? f = f x) ∧ nHe (l.take (i + 1)) = nHe (l.take i) + (if x.2.2.2.2 = true then 1 else 0) ∧ nFr (l.take (i + 1)) = nFr (l.take i) + (if x.2.2.2.2 = true then 0 else 1) ∧ (0 ≤ nHe (l.take i) ∧ nHe (l.take i) ≤ 1000) ∧ (0 ≤ nFr (l.take i) ∧ nFr (l.take i) ≤ 1000) := fun i hi => by
    obtain ⟨x, hx, hxb⟩ := get_at m0 hi
    have ht := take_snoc l m0 hi
    rw [hx] at ht
    have hk := cnt_bnd (l.take i)
    have hk2 : (l.take i).length ≤ 1000 := by rw [List.length_take]; omega
    have := cnt_snoc (l.take i) x
    rw [ht]
    exact ⟨x, hxb, this.1, this.2, by omega, by omega⟩
  by_cases h1 : BOX a b c l
  · have e1 : loopO (cpB l) (0, (0, 0)) = some (.inl (nFr l, nHe l)) := by
      refine loopO_from (fun i => ((i : Int), (nFr (l.take i), nHe (l.take i)))) l.length rfl (fun i hi => ?_) ?_
      · obtain ⟨x, hxb, e1, e2, b1, b2⟩ := key i hi
        rw [e1, e2]
        unfold cpB
        cases h : x.2.2.2.2 with
        | true => simp (disch := (first | omega | (simp only [List.length_append, List.length_cons, List.length_nil, List.nil_append, List.length_take, List.length_drop]; omega))) only [↓bindO_some, ↓bindO_none, ↓joinO_inl, ↓joinO_inr, ↓joinO_none, ↓outO_some, ↓outO_none, ↓cond_true, ↓cond_false, ↓cond_and, ↓cond_or, ↓cond_not, ↓cond_ite, ↓if_pos, ↓if_neg, ↓if_true, ↓if_false, List.take_length, Nat.le_refl, Bool.not_true, Bool.not_false, if_pos, if_neg, ↓hxb, wrap_i64', nots, h, if_true, Int.add_zero]
        | false => simp (disch := (first | omega | (simp only [List.length_append, List.length_cons, List.length_nil, List.nil_append, List.length_take, List.length_drop]; omega))) only [↓bindO_some, ↓bindO_none, ↓joinO_inl, ↓joinO_inr, ↓joinO_none, ↓outO_some, ↓outO_none, ↓cond_true, ↓cond_false, ↓cond_and, ↓cond_or, ↓cond_not, ↓cond_ite, ↓if_pos, ↓if_neg, ↓if_true, ↓if_false, List.take_length, Nat.le_refl, Bool.not_true, Bool.not_false, if_pos, if_neg, ↓hxb, wrap_i64', nots, h, Bool.false_eq_true, if_false, Int.add_zero]
      · unfold cpB
        simp (disch := (first | omega | (simp only [List.length_append, List.length_cons, List.length_nil, List.nil_append, List.length_take, List.length_drop]; omega))) only [↓bindO_some, ↓bindO_none, ↓joinO_inl, ↓joinO_inr, ↓joinO_none, ↓outO_some, ↓outO_none, ↓cond_true, ↓cond_false, ↓cond_and, ↓cond_or, ↓cond_not, ↓cond_ite, ↓if_pos, ↓if_neg, ↓if_true, ↓if_false, List.take_length, Nat.le_refl, Bool.not_true, Bool.not_false, if_neg, List.take_length]
    have e2 : loopO (crB o a b c l) (0, (0, 0)) = some (.inl (nFr l, nHe l)) := by
      refine loopO_from (fun i => ((i : Int), (nFr (l.take i), nHe (l.take i)))) l.length rfl (fun i hi => ?_) ?_
      · obtain ⟨x, hxb, e1, e2, b1, b2⟩ := key i hi
        rw [e1, e2]
        unfold crB
        cases h : x.2.2.2.2 with
        | true => simp (disch := (first | omega | (simp only [List.length_append, List.length_cons, List.length_nil, List.nil_append, List.length_take, List.length_drop]; omega))) only [↓bindO_some, ↓bindO_none, ↓joinO_inl, ↓joinO_inr, ↓joinO_none, ↓outO_some, ↓outO_none, ↓cond_true, ↓cond_false, ↓cond_and, ↓cond_or, ↓cond_not, ↓cond_ite, ↓if_pos, ↓if_neg, ↓if_true, ↓if_false, List.take_length, Nat.le_refl, Bool.not_true, Bool.not_false, if_pos, if_neg, ↓mbR_b, h1, decide_true, ↓hxb, wrap_i64', nots, h, if_true, Int.add_zero]
        | false => simp (disch := (first | omega | (simp only [List.length_append, List.length_cons, List.length_nil, List.nil_append, List.length_take, List.length_drop]; omega))) only [↓bindO_some, ↓bindO_none, ↓joinO_inl, ↓joinO_inr, ↓joinO_none, ↓outO_some, ↓outO_none, ↓cond_true, ↓cond_false, ↓cond_and, ↓cond_or, ↓cond_not, ↓cond_ite, ↓if_pos, ↓if_neg, ↓if_true, ↓if_false, List.take_length, Nat.le_refl, Bool.not_true, Bool.not_false, if_pos, if_neg, ↓mbR_b, h1, decide_true, ↓hxb, wrap_i64', nots, h, Bool.false_eq_true, if_false, Int.add_zero]
      · unfold crB
        simp (disch := (first | omega | (simp only [List.length_append, List.length_cons, List.length_nil, List.nil_append, List.length_take, List.length_drop]; omega))) only [↓bindO_some, ↓bindO_none, ↓joinO_inl, ↓joinO_inr, ↓joinO_none, ↓outO_some, ↓outO_none, ↓cond_true, ↓cond_false, ↓cond_and, ↓cond_or, ↓cond_not, ↓cond_ite, ↓if_pos, ↓if_neg, ↓if_true, ↓if_false, List.take_length, Nat.le_refl, Bool.not_true, Bool.not_false, if_neg, List.take_length]
    simp (disch := (first | omega | (simp only [List.length_append, List.length_cons, List.length_nil, List.nil_append, List.length_take, List.length_drop]; omega))) only [↓bindO_some, ↓bindO_none, ↓joinO_inl, ↓joinO_inr, ↓joinO_none, ↓outO_some, ↓outO_none, ↓cond_true, ↓cond_false, ↓cond_and, ↓cond_or, ↓cond_not, ↓cond_ite, ↓if_pos, ↓if_neg, ↓if_true, ↓if_false, List.take_length, Nat.le_refl, Bool.not_true, Bool.not_false, ↓mbP_b, h1, decide_true, e1, e2]
    first | exact ⟨_, rfl, rfl⟩ | exact ⟨_, rfl⟩
  · have e2 : loopO (crB o a b c l) (0, (0, 0)) = some (.inl (0, 0)) := by
      rw [loopO_eq]
      have : crB o a b c l (0, (0, 0)) = some (.inr (.inl (0, 0))) := by
        unfold crB
        by_cases h0 : (0 : Int) < l.length
        · simp (disch := (first | omega | (simp only [List.length_append, List.length_cons, List.length_nil, List.nil_append, List.length_take, List.length_drop]; omega))) only [↓bindO_some, ↓bindO_none, ↓joinO_inl, ↓joinO_inr, ↓joinO_none, ↓outO_some, ↓outO_none, ↓cond_true, ↓cond_false, ↓cond_and, ↓cond_or, ↓cond_not, ↓cond_ite, ↓if_pos, ↓if_neg, ↓if_true, ↓if_false, List.take_length, Nat.le_refl, Bool.not_true, Bool.not_false, if_pos, ↓mbR_b, h1, decide_false]
        · simp (disch := (first | omega | (simp only [List.length_append, List.length_cons, List.length_nil, List.nil_append, List.length_take, List.length_drop]; omega))) only [↓bindO_some, ↓bindO_none, ↓joinO_inl, ↓joinO_inr, ↓joinO_none, ↓outO_some, ↓outO_none, ↓cond_true, ↓cond_false, ↓cond_and, ↓cond_or, ↓cond_not, ↓cond_ite, ↓if_pos, ↓if_neg, ↓if_true, ↓if_false, List.take_length, Nat.le_refl, Bool.not_true, Bool.not_false, if_neg]
      rw [this]
    simp (disch := (first | omega | (simp only [List.length_append, List.length_cons, List.length_nil, List.nil_append, List.length_take, List.length_drop]; omega))) only [↓bindO_some, ↓bindO_none, ↓joinO_inl, ↓joinO_inr, ↓joinO_none, ↓outO_some, ↓outO_none, ↓cond_true, ↓cond_false, ↓cond_and, ↓cond_or, ↓cond_not, ↓cond_ite, ↓if_pos, ↓if_neg, ↓if_true, ↓if_false, List.take_length, Nat.le_refl, Bool.not_true, Bool.not_false, ↓mbP_b, h1, decide_false, e2]
    first | exact ⟨_, rfl, rfl⟩ | exact ⟨_, rfl⟩
theorem sameB_j (x : Bx) (hl : x.2.2.2.2.length ≤ 100000) : dialtoneref36_SameBox (x, x) = some true := by
  obtain ⟨o, a, b, c, l⟩ := x
  have hl : l.length ≤ 100000 := hl
  rw [sameB_eq]
  have e : loopO (sbB l l) 0 = some (.inl ()) := by
    refine loopO_from (fun i => (i : Int)) l.length rfl (fun i hi => ?_) ?_
    · obtain ⟨x, hx, hxb⟩ := get_at m0 hi
      unfold sbB
      simp (disch := (first | omega | (simp only [List.length_append, List.length_cons, List.length_nil, List.nil_append, List.length_take, List.length_drop]; omega))) only [↓bindO_some, ↓bindO_none, ↓joinO_inl, ↓joinO_inr, ↓joinO_none, ↓outO_some, ↓outO_none, ↓cond_true, ↓cond_false, ↓cond_and, ↓cond_or, ↓cond_not, ↓cond_ite, ↓if_pos, ↓if_neg, ↓if_true, ↓if_false, List.take_length, Nat.le_refl, Bool.not_true, Bool.not_false, if_pos, if_neg, ↓hxb, wrap_i64', nots, decide_true, Bool.and_self, beq_self_eq_true]
    · unfold sbB
      simp (disch := (first | omega | (simp only [List.length_append, List.length_cons, List.length_nil, List.nil_append, List.length_take, List.length_drop]; omega))) only [↓bindO_some, ↓bindO_none, ↓joinO_inl, ↓joinO_inr, ↓joinO_none, ↓outO_some, ↓outO_none, ↓cond_true, ↓cond_false, ↓cond_and, ↓cond_or, ↓cond_not, ↓cond_ite, ↓if_pos, ↓if_neg, ↓if_true, ↓if_false, List.take_length, Nat.le_refl, Bool.not_true, Bool.not_false, if_neg]
  simp (disch := (first | omega | (simp only [List.length_append, List.length_cons, List.length_nil, List.nil_append, List.length_take, List.length_drop]; omega))) only [↓bindO_some, ↓bindO_none, ↓joinO_inl, ↓joinO_inr, ↓joinO_none, ↓outO_some, ↓outO_none, ↓cond_true, ↓cond_false, ↓cond_and, ↓cond_or, ↓cond_not, ↓cond_ite, ↓if_pos, ↓if_neg, ↓if_true, ↓if_false, List.take_length, Nat.le_refl, Bool.not_true, Bool.not_false, if_neg, ne_eq, not_true_eq_false, decide_false, e]
theorem box_j (o : List UInt8) (a b c : Int) (l : List Ml) (hl : l.length ≤ 9223372036854775807) : dialtonelaw36_box (o, (a, (b, (c, l)))) = some (o, (a, (b, (c, l.take 120)))) := by
  have hm : minA (l.length : Int) 120 = ((min l.length 120 : Nat) : Int) := by unfold minA; omega
  have hn : (l.take (min l.length 120)) = l.take 120 := by
    rcases Nat.le_total l.length 120 with g | g
    · rw [Nat.min_eq_left g, List.take_length, List.take_of_length_le g]
    · rw [Nat.min_eq_right g]
  have hk : (l.take 120).length ≤ 120 := by rw [List.length_take]; omega
  unfold dialtonelaw36_box
  simp (disch := (first | omega | (simp only [List.length_append, List.length_cons, List.length_nil, List.nil_append, List.length_take, List.length_drop]; omega))) only [↓bindO_some, ↓bindO_none, ↓joinO_inl, ↓joinO_inr, ↓joinO_none, ↓outO_some, ↓outO_none, ↓cond_true, ↓cond_false, ↓cond_and, ↓cond_or, ↓cond_not, ↓cond_ite, ↓if_pos, ↓if_neg, ↓if_true, ↓if_false, List.take_length, Nat.le_refl, Bool.not_true, Bool.not_false, hm, if_pos, Int.toNat_natCast, hn]
end Go.Proofs.Ytkmfgldoljegoaa
