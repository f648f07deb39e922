/- Chapter 10, plain: what the functions return. -/
import Derived.Test.YtejppifgljjnmaaZ1
import Derived.Test.YtejppifgljjnmaaY1
set_option linter.unusedVariables false
set_option linter.unusedSimpArgs false
set_option maxRecDepth 100000
namespace Go.Proofs.Ytejppifgljjnmaa
open Go.RowKit

abbrev Tm := Int × (Int × Int)
abbrev t0 : Tm := (0, (0, 0))
noncomputable def vaB (a1 : List Tm) : (Int × Int) → Option ((Int × Int) ⊕ (Unit ⊕ Bool)) :=
(fun (v2, v3) =>
     bif (decide (v2 < (((List.length a1) : Nat) : Int))) then
      bif (decide (((0 : Int) ≤ v2) ∧ (v2 < (((List.length a1) : Nat) : Int)))) then 
       bindO a1[(Int.toNat v2)]? fun x4 =>
       bif (decide (x4.1 < v3)) then
        outO (outO (some Bool.false))
       else
        bif (decide (x4.1 > (1099511627776 : Int))) then
         outO (outO (some Bool.false))
        else
         some (Sum.inl ((Go.IntKind.wrap .i64 (v2 + (1 : Int))), x4.1))
      else none
     else
      outO (some (Sum.inl ())))
theorem valid_eq (a1 : List Tm) : timers_Valid a1 =

  bif (decide ((((List.length a1) : Nat) : Int) > (1000 : Int))) then
   some Bool.false
  else
   joinO (loopO (vaB a1) ((0 : Int), (0 : Int))) fun _ =>
   some Bool.true := rfl
noncomputable def adB {γ : Type} (a1 : List Tm) (a2 : Int) : Int → Option (Int ⊕ (Int ⊕ γ)) :=
(fun v7 =>
       bif (decide (v7 < (((List.length a1) : Nat) : Int))) then
        bif (decide (((0 : Int) ≤ v7) ∧ (v7 < (((List.length a1) : Nat) : Int)))) then 
         bindO a1[(Int.toNat v7)]? fun x8 =>
         bif (decide (x8.1 > a2)) then
          outO (some (Sum.inl v7))
         else
          some (Sum.inl (Go.IntKind.wrap .i64 (v7 + (1 : Int))))
        else none
       else
        outO (some (Sum.inl (((List.length a1) : Nat) : Int))))
theorem add_eq (a1 : List Tm) (a2 a3 a4 : Int) : timers_Add (a1, (a2, (a3, a4))) =

  bindO (timers_Valid a1) fun x5 =>
  bif (!x5) then
   some (([] : List (Int × (Int × Int))), (2 : Int))
  else
   bindO (timers_timely (a2, (a3, a4))) fun x6 =>
   bif (!x6) then
    some (([] : List (Int × (Int × Int))), (2 : Int))
   else
    bif (decide ((((List.length a1) : Nat) : Int) ≥ (1000 : Int))) then
     some (([] : List (Int × (Int × Int))), (10 : Int))
    else
     joinO (loopO (adB a1 a2) (0 : Int)) fun v10 =>
     bindO (some (Go.IntKind.wrap .i64 ((((List.length a1) : Nat) : Int) + (1 : Int)))) fun x11 =>
     bif (decide (((0 : Int) ≤ (0 : Int)) ∧ (((0 : Int) ≤ x11) ∧ (((x11 * (24 : Int)) ≤ (140737488355328 : Int)) ∧ (x11 ≤ (9223372036854775807 : Int)))))) then 
      bif (decide (((0 : Int) ≤ v10) ∧ (v10 ≤ (((List.length a1) : Nat) : Int)))) then 
       bindO (some (List.take (Int.toNat v10) a1)) fun x12 =>
       bif (decide (0 ≤ (List.length (List.replicate (Int.toNat x11) ((0 : Int), ((0 : Int), (0 : Int))))))) then 
        bif (decide (((List.length ((List.take 0 (List.replicate (Int.toNat x11) ((0 : Int), ((0 : Int), (0 : Int))))) ++ x12)) * 24) ≤ 140737488355328)) then 
         bindO (some ((List.take 0 (List.replicate (Int.toNat x11) ((0 : Int), ((0 : Int), (0 : Int))))) ++ x12)) fun x13 =>
         bif (decide ((List.length x13) ≤ (List.length x13))) then 
          bif (decide (((List.length ((List.take (List.length x13) x13) ++ ((a2, (a3, a4)) :: ([] : List (Int × (Int × Int)))))) * 24) ≤ 140737488355328)) then 
           bindO (some ((List.take (List.length x13) x13) ++ ((a2, (a3, a4)) :: ([] : List (Int × (Int × Int)))))) fun x14 =>
           bif (decide (((0 : Int) ≤ v10) ∧ (v10 ≤ (((List.length a1) : Nat) : Int)))) then 
            bindO (some (List.drop (Int.toNat v10) a1)) fun x15 =>
            bif (decide ((List.length x14) ≤ (List.length x14))) then 
             bif (decide (((List.length ((List.take (List.length x14) x14) ++ x15)) * 24) ≤ 140737488355328)) then 
              bindO (some ((List.take (List.length x14) x14) ++ x15)) fun x16 =>
              bif (decide ((List.length x16) ≤ (List.length x16))) then 
               some ((List.take (List.length x16) x16), (0 : Int))
              else none
             else none
            else none
           else none
          else none
         else none
        else none
       else none
      else none
     else none := rfl
noncomputable def reB {γ : Type} (a1 : List Tm) (a3 a4 : Int) : (Int × List Tm) → Option ((Int × List Tm) ⊕ (List Tm ⊕ γ)) :=
(fun (v8, v9) =>
        bif (decide (v8 < (((List.length a1) : Nat) : Int))) then
         bif (decide (((0 : Int) ≤ v8) ∧ (v8 < (((List.length a1) : Nat) : Int)))) then 
          bindO a1[(Int.toNat v8)]? fun x10 =>
          bif (decide (x10.2.1 = a3)) then
           bif (!(decide (x10.2.2 = a4))) then
            bif (decide ((List.length v9) ≤ (List.length v9))) then 
             bif (decide (((List.length ((List.take (List.length v9) v9) ++ ((x10.1, (x10.2.1, x10.2.2)) :: ([] : List (Int × (Int × Int)))))) * 24) ≤ 140737488355328)) then 
              bindO (some ((List.take (List.length v9) v9) ++ ((x10.1, (x10.2.1, x10.2.2)) :: ([] : List (Int × (Int × Int)))))) fun x11 =>
              bif (decide ((List.length x11) ≤ (List.length x11))) then 
               some (Sum.inl ((Go.IntKind.wrap .i64 (v8 + (1 : Int))), (List.take (List.length x11) x11)))
              else none
             else none
            else none
           else
            bif (decide ((List.length v9) ≤ (List.length v9))) then 
             some (Sum.inl ((Go.IntKind.wrap .i64 (v8 + (1 : Int))), (List.take (List.length v9) v9)))
            else none
          else
           bif (decide ((List.length v9) ≤ (List.length v9))) then 
            bif (decide (((List.length ((List.take (List.length v9) v9) ++ ((x10.1, (x10.2.1, x10.2.2)) :: ([] : List (Int × (Int × Int)))))) * 24) ≤ 140737488355328)) then 
             bindO (some ((List.take (List.length v9) v9) ++ ((x10.1, (x10.2.1, x10.2.2)) :: ([] : List (Int × (Int × Int)))))) fun x14 =>
             bif (decide ((List.length x14) ≤ (List.length x14))) then 
              some (Sum.inl ((Go.IntKind.wrap .i64 (v8 + (1 : Int))), (List.take (List.length x14) x14)))
             else none
            else none
           else none
         else none
        else
         outO (bif (decide ((List.length v9) ≤ (List.length v9))) then 
          some (Sum.inl (List.take (List.length v9) v9))
         else none))
theorem restart_eq (a1 : List Tm) (a2 a3 a4 : Int) : timers_Restart (a1, (a2, (a3, a4))) =

  bindO (timers_Valid a1) fun x5 =>
  bif (!x5) then
   some (([] : List (Int × (Int × Int))), (2 : Int))
  else
   bindO (timers_timely (a2, (a3, a4))) fun x6 =>
   bif (!x6) then
    some (([] : List (Int × (Int × Int))), (2 : Int))
   else
    joinO (bindO (timers_Valid a1) fun x7 =>
     bif (!x7) then
      some (Sum.inl ([] : List (Int × (Int × Int))))
     else
      joinO (loopO (reB a1 a3 a4) ((0 : Int), ([] : List (Int × (Int × Int))))) fun v16 =>
      bif (decide ((List.length v16) ≤ (List.length v16))) then 
       some (Sum.inl (List.take (List.length v16) v16))
      else none) fun v17 =>
    bif (decide ((List.length v17) ≤ (List.length v17))) then 
     bindO (timers_Add ((List.take (List.length v17) v17), (a2, (a3, a4)))) fun (x19, x20) =>
     some (x19, x20)
    else none := rfl
noncomputable def caB {γ : Type} (a1 : List Tm) (a2 a3 : Int) : (Int × List Tm) → Option ((Int × List Tm) ⊕ (List Tm ⊕ γ)) :=
(fun (v5, v6) =>
      bif (decide (v5 < (((List.length a1) : Nat) : Int))) then
       bif (decide (((0 : Int) ≤ v5) ∧ (v5 < (((List.length a1) : Nat) : Int)))) then 
        bindO a1[(Int.toNat v5)]? fun x7 =>
        bif (decide (x7.2.1 = a2)) then
         bif (!(decide (x7.2.2 = a3))) then
          bif (decide ((List.length v6) ≤ (List.length v6))) then 
           bif (decide (((List.length ((List.take (List.length v6) v6) ++ ((x7.1, (x7.2.1, x7.2.2)) :: ([] : List (Int × (Int × Int)))))) * 24) ≤ 140737488355328)) then 
            bindO (some ((List.take (List.length v6) v6) ++ ((x7.1, (x7.2.1, x7.2.2)) :: ([] : List (Int × (Int × Int)))))) fun x8 =>
            bif (decide ((List.length x8) ≤ (List.length x8))) then 
             some (Sum.inl ((Go.IntKind.wrap .i64 (v5 + (1 : Int))), (List.take (List.length x8) x8)))
            else none
           else none
          else none
         else
          bif (decide ((List.length v6) ≤ (List.length v6))) then 
           some (Sum.inl ((Go.IntKind.wrap .i64 (v5 + (1 : Int))), (List.take (List.length v6) v6)))
          else none
        else
         bif (decide ((List.length v6) ≤ (List.length v6))) then 
          bif (decide (((List.length ((List.take (List.length v6) v6) ++ ((x7.1, (x7.2.1, x7.2.2)) :: ([] : List (Int × (Int × Int)))))) * 24) ≤ 140737488355328)) then 
           bindO (some ((List.take (List.length v6) v6) ++ ((x7.1, (x7.2.1, x7.2.2)) :: ([] : List (Int × (Int × Int)))))) fun x11 =>
           bif (decide ((List.length x11) ≤ (List.length x11))) then 
            some (Sum.inl ((Go.IntKind.wrap .i64 (v5 + (1 : Int))), (List.take (List.length x11) x11)))
           else none
          else none
         else none
       else none
      else
       outO (bif (decide ((List.length v6) ≤ (List.length v6))) then 
        some (Sum.inl (List.take (List.length v6) v6))
       else none))
theorem cancel_eq (a1 : List Tm) (a2 a3 : Int) : timers_Cancel (a1, (a2, a3)) =

  joinO (bindO (timers_Valid a1) fun x4 =>
   bif (!x4) then
    some (Sum.inl ([] : List (Int × (Int × Int))))
   else
    joinO (loopO (caB a1 a2 a3) ((0 : Int), ([] : List (Int × (Int × Int))))) fun v13 =>
    bif (decide ((List.length v13) ≤ (List.length v13))) then 
     some (Sum.inl (List.take (List.length v13) v13))
    else none) fun v14 =>
  bif (decide ((List.length v14) ≤ (List.length v14))) then 
   some (List.take (List.length v14) v14)
  else none := rfl
noncomputable def clB {γ : Type} (a1 : List Tm) (a2 : Int) : (Int × List Tm) → Option ((Int × List Tm) ⊕ (List Tm ⊕ γ)) :=
(fun (v4, v5) =>
      bif (decide (v4 < (((List.length a1) : Nat) : Int))) then
       bif (decide (((0 : Int) ≤ v4) ∧ (v4 < (((List.length a1) : Nat) : Int)))) then 
        bindO a1[(Int.toNat v4)]? fun x6 =>
        bif (!(decide (x6.2.1 = a2))) then
         bif (decide ((List.length v5) ≤ (List.length v5))) then 
          bif (decide (((List.length ((List.take (List.length v5) v5) ++ ((x6.1, (x6.2.1, x6.2.2)) :: ([] : List (Int × (Int × Int)))))) * 24) ≤ 140737488355328)) then 
           bindO (some ((List.take (List.length v5) v5) ++ ((x6.1, (x6.2.1, x6.2.2)) :: ([] : List (Int × (Int × Int)))))) fun x7 =>
           bif (decide ((List.length x7) ≤ (List.length x7))) then 
            some (Sum.inl ((Go.IntKind.wrap .i64 (v4 + (1 : Int))), (List.take (List.length x7) x7)))
           else none
          else none
         else none
        else
         bif (decide ((List.length v5) ≤ (List.length v5))) then 
          some (Sum.inl ((Go.IntKind.wrap .i64 (v4 + (1 : Int))), (List.take (List.length v5) v5)))
         else none
       else none
      else
       outO (bif (decide ((List.length v5) ≤ (List.length v5))) then 
        some (Sum.inl (List.take (List.length v5) v5))
       else none))
theorem cancelAll_eq (a1 : List Tm) (a2 : Int) : timers_CancelAll (a1, a2) =

  joinO (bindO (timers_Valid a1) fun x3 =>
   bif (!x3) then
    some (Sum.inl ([] : List (Int × (Int × Int))))
   else
    joinO (loopO (clB a1 a2) ((0 : Int), ([] : List (Int × (Int × Int))))) fun v10 =>
    bif (decide ((List.length v10) ≤ (List.length v10))) then 
     some (Sum.inl (List.take (List.length v10) v10))
    else none) fun v11 =>
  bif (decide ((List.length v11) ≤ (List.length v11))) then 
   some (List.take (List.length v11) v11)
  else none := rfl
noncomputable def cuB (a1 : List Tm) (a2 : Int) : (Int × Int) → Option ((Int × Int) ⊕ (Int ⊕ Int)) :=
(fun (v4, v5) =>
     bif (decide (v4 < (((List.length a1) : Nat) : Int))) then
      bif (decide (((0 : Int) ≤ v4) ∧ (v4 < (((List.length a1) : Nat) : Int)))) then 
       bindO a1[(Int.toNat v4)]? fun x6 =>
       bif (decide (x6.2.1 = a2)) then
        some (Sum.inl ((Go.IntKind.wrap .i64 (v4 + (1 : Int))), (Go.IntKind.wrap .i64 (v5 + (1 : Int)))))
       else
        some (Sum.inl ((Go.IntKind.wrap .i64 (v4 + (1 : Int))), v5))
      else none
     else
      outO (some (Sum.inl v5)))
theorem count_eq (a1 : List Tm) (a2 : Int) : timers_Count (a1, a2) =

  bindO (timers_Valid a1) fun x3 =>
  bif (!x3) then
   some (0 : Int)
  else
   joinO (loopO (cuB a1 a2) ((0 : Int), (0 : Int))) fun v10 =>
   some v10 := rfl
theorem get_bz {α β : Type} {l : List α} {v : Int} (d : α) (f : α → Option β) (h : 0 ≤ v ∧ v < (l.length : Int)) : bindO l[Int.toNat v]? f = f (l.getD v.toNat d) := by rw [get_D' d (by omega)]; rfl
theorem get_at {α : Type} {l : List α} {i : Nat} (d : α) (h : i < l.length) : ∃ x, l.getD i d = x ∧ ∀ {β : Type} (f : α → Option β), bindO l[Int.toNat (i : Int)]? f = f x := ⟨_, rfl, fun f => get_bz d f (by omega)⟩
theorem take_get {α : Type} {A : List α} {n : Nat} (d : α) (h : n < A.length) : A.take (n + 1) = A.take n ++ [A.getD n d] := by
  rw [List.take_add_one, List.getElem?_eq_getElem h, List.getD_eq_getElem?_getD, List.getElem?_eq_getElem h]; rfl
/-- The time before a timer. -/
def pv (l : List Tm) (n : Nat) : Int := if n = 0 then 0 else (l.getD (n - 1) t0).1
def VT (l : List Tm) : Prop := l.length ≤ 1000 ∧ ∀ n, n < l.length → pv l n ≤ (l.getD n t0).1 ∧ (l.getD n t0).1 ≤ 1099511627776
theorem valid_j {l : List Tm} (h : VT l) : timers_Valid l = some true := by
  rw [valid_eq]
  obtain ⟨h1, h2⟩ := h
  have e : loopO (vaB l) ((0 : Int), (0 : Int)) = some (.inl ()) := by
    refine loopO_from (fun n => (((n : Nat) : Int), pv l n)) l.length rfl (fun n hn => ?_) ?_
    · obtain ⟨x, hx, hb⟩ := get_at t0 hn
      obtain ⟨k1, k2⟩ := h2 n hn
      have hp : pv l (n + 1) = x.1 := by unfold pv; rw [if_neg (by omega), Nat.add_sub_cancel, hx]
      rw [hx] at k1 k2
      have hn1 : ((n : Int) + 1) = ((n + 1 : Nat) : Int) := rfl
      rw [hp]
      unfold vaB
      simp (disch := (first | omega | (simp only [List.length_append, List.length_cons, List.length_nil, List.nil_append, List.length_take, List.length_drop]; omega))) only [↓bindO_some, ↓bindO_none, ↓joinO_inl, ↓joinO_inr, ↓joinO_none, ↓outO_some, ↓outO_none, ↓cond_true, ↓cond_false, ↓cond_and, ↓cond_or, ↓cond_not, ↓cond_ite, ↓if_pos, ↓if_neg, ↓if_true, ↓if_false, List.take_length, Nat.le_refl, Bool.not_true, Bool.not_false, if_pos, if_neg, ↓hb, wrap_i64', hn1]
    · unfold vaB
      simp (disch := (first | omega | (simp only [List.length_append, List.length_cons, List.length_nil, List.nil_append, List.length_take, List.length_drop]; omega))) only [↓bindO_some, ↓bindO_none, ↓joinO_inl, ↓joinO_inr, ↓joinO_none, ↓outO_some, ↓outO_none, ↓cond_true, ↓cond_false, ↓cond_and, ↓cond_or, ↓cond_not, ↓cond_ite, ↓if_pos, ↓if_neg, ↓if_true, ↓if_false, List.take_length, Nat.le_refl, Bool.not_true, Bool.not_false, if_neg]
  simp (disch := (first | omega | (simp only [List.length_append, List.length_cons, List.length_nil, List.nil_append, List.length_take, List.length_drop]; omega))) only [↓bindO_some, ↓bindO_none, ↓joinO_inl, ↓joinO_inr, ↓joinO_none, ↓outO_some, ↓outO_none, ↓cond_true, ↓cond_false, ↓cond_and, ↓cond_or, ↓cond_not, ↓cond_ite, ↓if_pos, ↓if_neg, ↓if_true, ↓if_false, List.take_length, Nat.le_refl, Bool.not_true, Bool.not_false, if_neg, e]
theorem valid_b {β : Type} {l : List Tm} (h : VT l) (f : Bool → Option β) : bindO (timers_Valid l) f = f true := by rw [valid_j h]; rfl
/-- All but those that go. -/
abbrev notK (o k : Int) (x : Tm) : Bool := !(decide (x.2.1 = o) && decide (x.2.2 = k))
abbrev notO (o : Int) (x : Tm) : Bool := !(decide (x.2.1 = o))
theorem filter_take {l : List Tm} {p : Tm → Bool} {n : Nat} (h : n < l.length) : (l.take (n + 1)).filter p = (l.take n).filter p ++ if p (l.getD n t0) = true then [l.getD n t0] else [] := by
  rw [take_get t0 h, List.filter_append]
  congr 1
  by_cases g : p (l.getD n t0) = true
  · rw [if_pos g, List.filter_cons_of_pos g]; rfl
  · rw [if_neg g, List.filter_cons_of_neg g]; rfl
theorem ca_loop {γ : Type} {l : List Tm} (o k : Int) (hl : l.length ≤ 1000) : loopO (caB (γ := γ) l o k) ((0 : Int), []) = some (.inl (l.filter (notK o k))) := by
  refine loopO_from (fun n => (((n : Nat) : Int), (l.take n).filter (notK o k))) l.length rfl (fun n hn => ?_) ?_
  · obtain ⟨x, hx, hb⟩ := get_at t0 hn
    have hle : ((l.take n).filter (notK o k)).length ≤ n := Nat.le_trans (List.length_filter_le _ _) (by rw [List.length_take]; omega)
    have hn1 : ((n : Int) + 1) = ((n + 1 : Nat) : Int) := rfl
    rw [filter_take hn, hx]
    generalize (l.take n).filter (notK o k) = A at *
    obtain ⟨x1, x2, x3⟩ := x
    have hA : (A.length + 1) * 24 ≤ 140737488355328 := by omega
    unfold caB
    by_cases c1 : x2 = o
    · by_cases c2 : x3 = k
      · simp (disch := (first | omega | (simp only [List.length_append, List.length_cons, List.length_nil, List.nil_append, List.length_take, List.length_drop]; omega))) only [↓bindO_some, ↓bindO_none, ↓joinO_inl, ↓joinO_inr, ↓joinO_none, ↓outO_some, ↓outO_none, ↓cond_true, ↓cond_false, ↓cond_and, ↓cond_or, ↓cond_not, ↓cond_ite, ↓if_pos, ↓if_neg, ↓if_true, ↓if_false, List.take_length, Nat.le_refl, Bool.not_true, Bool.not_false, if_pos, if_neg, ↓hb, wrap_i64', hn1, c1, c2, notK, decide_true, Bool.and_self, Bool.not_true, Bool.false_eq_true, if_false, List.append_nil]
      · simp (disch := (first | omega | (simp only [List.length_append, List.length_cons, List.length_nil, List.nil_append, List.length_take, List.length_drop]; omega))) only [↓bindO_some, ↓bindO_none, ↓joinO_inl, ↓joinO_inr, ↓joinO_none, ↓outO_some, ↓outO_none, ↓cond_true, ↓cond_false, ↓cond_and, ↓cond_or, ↓cond_not, ↓cond_ite, ↓if_pos, ↓if_neg, ↓if_true, ↓if_false, List.take_length, Nat.le_refl, Bool.not_true, Bool.not_false, if_pos, if_neg, ↓hb, wrap_i64', hn1, c1, c2, notK, decide_true, decide_false, Bool.and_false, Bool.not_false, if_true]
    · simp (disch := (first | omega | (simp only [List.length_append, List.length_cons, List.length_nil, List.nil_append, List.length_take, List.length_drop]; omega))) only [↓bindO_some, ↓bindO_none, ↓joinO_inl, ↓joinO_inr, ↓joinO_none, ↓outO_some, ↓outO_none, ↓cond_true, ↓cond_false, ↓cond_and, ↓cond_or, ↓cond_not, ↓cond_ite, ↓if_pos, ↓if_neg, ↓if_true, ↓if_false, List.take_length, Nat.le_refl, Bool.not_true, Bool.not_false, if_pos, if_neg, ↓hb, wrap_i64', hn1, c1, notK, decide_false, Bool.false_and, Bool.not_false, if_true]
  · rw [List.take_length]
    unfold caB
    simp (disch := (first | omega | (simp only [List.length_append, List.length_cons, List.length_nil, List.nil_append, List.length_take, List.length_drop]; omega))) only [↓bindO_some, ↓bindO_none, ↓joinO_inl, ↓joinO_inr, ↓joinO_none, ↓outO_some, ↓outO_none, ↓cond_true, ↓cond_false, ↓cond_and, ↓cond_or, ↓cond_not, ↓cond_ite, ↓if_pos, ↓if_neg, ↓if_true, ↓if_false, List.take_length, Nat.le_refl, Bool.not_true, Bool.not_false, if_neg]
theorem cancel_j {l : List Tm} (o k : Int) (h : VT l) : timers_Cancel (l, (o, k)) = some (l.filter (notK o k)) := by
  rw [cancel_eq]
  simp only [↓bindO_some, ↓bindO_none, ↓joinO_inl, ↓joinO_inr, ↓joinO_none, ↓outO_some, ↓outO_none, ↓cond_true, ↓cond_false, ↓cond_and, ↓cond_or, ↓cond_not, ↓cond_ite, ↓if_pos, ↓if_neg, ↓if_true, ↓if_false, List.take_length, Nat.le_refl, Bool.not_true, Bool.not_false, valid_b h, ca_loop o k h.1, decide_true]
theorem cl_loop {γ : Type} {l : List Tm} (o : Int) (hl : l.length ≤ 1000) : loopO (clB (γ := γ) l o) ((0 : Int), []) = some (.inl (l.filter (notO o))) := by
  refine loopO_from (fun n => (((n : Nat) : Int), (l.take n).filter (notO o))) l.length rfl (fun n hn => ?_) ?_
  · obtain ⟨x, hx, hb⟩ := get_at t0 hn
    have hle : ((l.take n).filter (notO o)).length ≤ n := Nat.le_trans (List.length_filter_le _ _) (by rw [List.length_take]; omega)
    have hn1 : ((n : Int) + 1) = ((n + 1 : Nat) : Int) := rfl
    rw [filter_take hn, hx]
    generalize (l.take n).filter (notO o) = A at *
    obtain ⟨x1, x2, x3⟩ := x
    have hA : (A.length + 1) * 24 ≤ 140737488355328 := by omega
    unfold clB
    by_cases c1 : x2 = o
    · simp (disch := (first | omega | (simp only [List.length_append, List.length_cons, List.length_nil, List.nil_append, List.length_take, List.length_drop]; omega))) only [↓bindO_some, ↓bindO_none, ↓joinO_inl, ↓joinO_inr, ↓joinO_none, ↓outO_some, ↓outO_none, ↓cond_true, ↓cond_false, ↓cond_and, ↓cond_or, ↓cond_not, ↓cond_ite, ↓if_pos, ↓if_neg, ↓if_true, ↓if_false, List.take_length, Nat.le_refl, Bool.not_true, Bool.not_false, if_pos, if_neg, ↓hb, wrap_i64', hn1, c1, notO, decide_true, Bool.not_true, Bool.false_eq_true, if_false, List.append_nil]
    · simp (disch := (first | omega | (simp only [List.length_append, List.length_cons, List.length_nil, List.nil_append, List.length_take, List.length_drop]; omega))) only [↓bindO_some, ↓bindO_none, ↓joinO_inl, ↓joinO_inr, ↓joinO_none, ↓outO_some, ↓outO_none, ↓cond_true, ↓cond_false, ↓cond_and, ↓cond_or, ↓cond_not, ↓cond_ite, ↓if_pos, ↓if_neg, ↓if_true, ↓if_false, List.take_length, Nat.le_refl, Bool.not_true, Bool.not_false, if_pos, if_neg, ↓hb, wrap_i64', hn1, c1, notO, decide_false, Bool.not_false, if_true]
  · rw [List.take_length]
    unfold clB
    simp (disch := (first | omega | (simp only [List.length_append, List.length_cons, List.length_nil, List.nil_append, List.length_take, List.length_drop]; omega))) only [↓bindO_some, ↓bindO_none, ↓joinO_inl, ↓joinO_inr, ↓joinO_none, ↓outO_some, ↓outO_none, ↓cond_true, ↓cond_false, ↓cond_and, ↓cond_or, ↓cond_not, ↓cond_ite, ↓if_pos, ↓if_neg, ↓if_true, ↓if_false, List.take_length, Nat.le_refl, Bool.not_true, Bool.not_false, if_neg]
theorem cancelAll_j {l : List Tm} (o : Int) (h : VT l) : timers_CancelAll (l, o) = some (l.filter (notO o)) := by
  rw [cancelAll_eq]
  simp only [↓bindO_some, ↓bindO_none, ↓joinO_inl, ↓joinO_inr, ↓joinO_none, ↓outO_some, ↓outO_none, ↓cond_true, ↓cond_false, ↓cond_and, ↓cond_or, ↓cond_not, ↓cond_ite, ↓if_pos, ↓if_neg, ↓if_true, ↓if_false, List.take_length, Nat.le_refl, Bool.not_true, Bool.not_false, valid_b h, cl_loop o h.1, decide_true]
theorem count_j {l : List Tm} (o : Int) (h : VT l) : timers_Count (l, o) = some ((l.countP (fun x => decide (x.2.1 = o)) : Nat) : Int) := by
  rw [count_eq]
  have hl := h.1
  have e : loopO (cuB l o) ((0 : Int), (0 : Int)) = some (.inl ((l.countP (fun x => decide (x.2.1 = o)) : Nat) : Int)) := by
    refine loopO_from (fun n => (((n : Nat) : Int), (((l.take n).countP (fun x => decide (x.2.1 = o)) : Nat) : Int))) l.length rfl (fun n hn => ?_) ?_
    · obtain ⟨x, hx, hb⟩ := get_at t0 hn
      have hle : (l.take n).countP (fun x => decide (x.2.1 = o)) ≤ n := Nat.le_trans List.countP_le_length (by rw [List.length_take]; omega)
      have hn1 : ((n : Int) + 1) = ((n + 1 : Nat) : Int) := rfl
      have hc : (l.take (n + 1)).countP (fun x => decide (x.2.1 = o)) = (l.take n).countP (fun x => decide (x.2.1 = o)) + if x.2.1 = o then 1 else 0 := by
        rw [take_get t0 hn, hx, List.countP_append, List.countP_cons, List.countP_nil]
        simp only [decide_eq_true_eq, Nat.zero_add]
      simp only [hc]
      generalize (l.take n).countP (fun x => decide (x.2.1 = o)) = m at *
      unfold cuB
      by_cases c1 : x.2.1 = o
      · simp (disch := (first | omega | (simp only [List.length_append, List.length_cons, List.length_nil, List.nil_append, List.length_take, List.length_drop]; omega))) only [↓bindO_some, ↓bindO_none, ↓joinO_inl, ↓joinO_inr, ↓joinO_none, ↓outO_some, ↓outO_none, ↓cond_true, ↓cond_false, ↓cond_and, ↓cond_or, ↓cond_not, ↓cond_ite, ↓if_pos, ↓if_neg, ↓if_true, ↓if_false, List.take_length, Nat.le_refl, Bool.not_true, Bool.not_false, if_pos, if_neg, ↓hb, wrap_i64', hn1, c1]
        rfl
      · simp (disch := (first | omega | (simp only [List.length_append, List.length_cons, List.length_nil, List.nil_append, List.length_take, List.length_drop]; omega))) only [↓bindO_some, ↓bindO_none, ↓joinO_inl, ↓joinO_inr, ↓joinO_none, ↓outO_some, ↓outO_none, ↓cond_true, ↓cond_false, ↓cond_and, ↓cond_or, ↓cond_not, ↓cond_ite, ↓if_pos, ↓if_neg, ↓if_true, ↓if_false, List.take_length, Nat.le_refl, Bool.not_true, Bool.not_false, if_pos, if_neg, ↓hb, wrap_i64', hn1, c1, Nat.add_zero]
    · rw [List.take_length]
      unfold cuB
      simp (disch := (first | omega | (simp only [List.length_append, List.length_cons, List.length_nil, List.nil_append, List.length_take, List.length_drop]; omega))) only [↓bindO_some, ↓bindO_none, ↓joinO_inl, ↓joinO_inr, ↓joinO_none, ↓outO_some, ↓outO_none, ↓cond_true, ↓cond_false, ↓cond_and, ↓cond_or, ↓cond_not, ↓cond_ite, ↓if_pos, ↓if_neg, ↓if_true, ↓if_false, List.take_length, Nat.le_refl, Bool.not_true, Bool.not_false, if_neg]
  simp only [↓bindO_some, ↓bindO_none, ↓joinO_inl, ↓joinO_inr, ↓joinO_none, ↓outO_some, ↓outO_none, ↓cond_true, ↓cond_false, ↓cond_and, ↓cond_or, ↓cond_not, ↓cond_ite, ↓if_pos, ↓if_neg, ↓if_true, ↓if_false, List.take_length, Nat.le_refl, Bool.not_true, Bool.not_false, valid_b h, e]
/-- The place of a new timer. -/
def PLC (l : List Tm) (a : Int) (p : Nat) : Prop := p ≤ l.length ∧ (∀ j, j < p → (l.getD j t0).1 ≤ a) ∧ (p < l.length → a < (l.getD p t0).1)
theorem ad_loop {γ : Type} {l : List Tm} (a : Int) (hl : l.length ≤ 1000) : ∃ p : Nat, PLC l a p ∧ loopO (adB (γ := γ) l a) (0 : Int) = some (.inl (p : Int)) := by
  by_cases h : ∃ i, i < l.length ∧ (l.getD i t0).1 > a
  · obtain ⟨i, ⟨k1, k2⟩, k3⟩ := least h
    have k3' : ∀ j, j < i → (l.getD j t0).1 ≤ a := fun j hj => by
      have := k3 j hj
      have hj' : j < l.length := by omega
      rcases Int.lt_or_le a (l.getD j t0).1 with g | g
      · exact (this ⟨hj', g⟩).elim
      · exact g
    refine ⟨i, ⟨by omega, k3', fun _ => k2⟩, loopO_from (fun i => (i : Int)) i rfl (fun j hj => ?_) ?_⟩
    · have hj' := k3' j hj
      obtain ⟨x, hx, hb⟩ := get_at t0 (show j < l.length by omega)
      rw [hx] at hj'
      have hn1 : ((j : Int) + 1) = ((j + 1 : Nat) : Int) := rfl
      unfold adB
      simp (disch := (first | omega | (simp only [List.length_append, List.length_cons, List.length_nil, List.nil_append, List.length_take, List.length_drop]; omega))) only [↓bindO_some, ↓bindO_none, ↓joinO_inl, ↓joinO_inr, ↓joinO_none, ↓outO_some, ↓outO_none, ↓cond_true, ↓cond_false, ↓cond_and, ↓cond_or, ↓cond_not, ↓cond_ite, ↓if_pos, ↓if_neg, ↓if_true, ↓if_false, List.take_length, Nat.le_refl, Bool.not_true, Bool.not_false, if_pos, if_neg, ↓hb, wrap_i64', hn1]
    · obtain ⟨x, hx, hb⟩ := get_at t0 k1
      rw [hx] at k2
      unfold adB
      simp (disch := (first | omega | (simp only [List.length_append, List.length_cons, List.length_nil, List.nil_append, List.length_take, List.length_drop]; omega))) only [↓bindO_some, ↓bindO_none, ↓joinO_inl, ↓joinO_inr, ↓joinO_none, ↓outO_some, ↓outO_none, ↓cond_true, ↓cond_false, ↓cond_and, ↓cond_or, ↓cond_not, ↓cond_ite, ↓if_pos, ↓if_neg, ↓if_true, ↓if_false, List.take_length, Nat.le_refl, Bool.not_true, Bool.not_false, if_pos, if_neg, ↓hb]
  · have k3' : ∀ j, j < l.length → (l.getD j t0).1 ≤ a := fun j hj => by
      rcases Int.lt_or_le a (l.getD j t0).1 with g | g
      · exact (h ⟨j, hj, g⟩).elim
      · exact g
    refine ⟨l.length, ⟨Nat.le_refl _, k3', fun g => by omega⟩, loopO_from (fun i => (i : Int)) l.length rfl (fun j hj => ?_) ?_⟩
    · have hj' := k3' j hj
      obtain ⟨x, hx, hb⟩ := get_at t0 hj
      rw [hx] at hj'
      have hn1 : ((j : Int) + 1) = ((j + 1 : Nat) : Int) := rfl
      unfold adB
      simp (disch := (first | omega | (simp only [List.length_append, List.length_cons, List.length_nil, List.nil_append, List.length_take, List.length_drop]; omega))) only [↓bindO_some, ↓bindO_none, ↓joinO_inl, ↓joinO_inr, ↓joinO_none, ↓outO_some, ↓outO_none, ↓cond_true, ↓cond_false, ↓cond_and, ↓cond_or, ↓cond_not, ↓cond_ite, ↓if_pos, ↓if_neg, ↓if_true, ↓if_false, List.take_length, Nat.le_refl, Bool.not_true, Bool.not_false, if_pos, if_neg, ↓hb, wrap_i64', hn1]
    · unfold adB
      simp (disch := (first | omega | (simp only [List.length_append, List.length_cons, List.length_nil, List.nil_append, List.length_take, List.length_drop]; omega))) only [↓bindO_some, ↓bindO_none, ↓joinO_inl, ↓joinO_inr, ↓joinO_none, ↓outO_some, ↓outO_none, ↓cond_true, ↓cond_false, ↓cond_and, ↓cond_or, ↓cond_not, ↓cond_ite, ↓if_pos, ↓if_neg, ↓if_true, ↓if_false, List.take_length, Nat.le_refl, Bool.not_true, Bool.not_false, if_neg]
theorem timely_b {β : Type} {a o k : Int} (h : 0 ≤ a ∧ a ≤ 1099511627776) (f : Bool → Option β) : bindO (timers_timely (a, (o, k))) f = f true := by
  have e : timers_timely (a, (o, k)) = some true := by
    unfold timers_timely
    simp (disch := omega) only [↓bindO_some, ↓bindO_none, ↓joinO_inl, ↓joinO_inr, ↓joinO_none, ↓outO_some, ↓outO_none, ↓cond_true, ↓cond_false, ↓cond_and, ↓cond_or, ↓cond_not, ↓cond_ite, ↓if_pos, ↓if_neg, ↓if_true, ↓if_false, List.take_length, Nat.le_refl, Bool.not_true, Bool.not_false, if_pos, decide_eq_true]
  rw [e]; rfl
theorem add_j {l : List Tm} {a o k : Int} (h : VT l) (ht : 0 ≤ a ∧ a ≤ 1099511627776) (hn : l.length < 1000) : ∃ p, PLC l a p ∧ timers_Add (l, (a, (o, k))) = some (l.take p ++ (a, (o, k)) :: l.drop p, 0) := by
  obtain ⟨p, hp, e⟩ := ad_loop (γ := List Tm × Int) (l := l) a (by omega)
  refine ⟨p, hp, ?_⟩
  have hp1 := hp.1
  have ht1 : (l.take p).length = p := by rw [List.length_take]; omega
  have hd1 : (l.drop p).length = l.length - p := List.length_drop
  have hw : IntKind.wrap .i64 (((l.length : Nat) : Int) + 1) = ((l.length + 1 : Nat) : Int) := by rw [wrap_i64' (by omega)]; rfl
  rw [add_eq]
  simp (disch := (first | omega | (simp only [List.length_append, List.length_cons, List.length_nil, List.nil_append, List.length_take, List.length_drop]; omega))) only [↓bindO_some, ↓bindO_none, ↓joinO_inl, ↓joinO_inr, ↓joinO_none, ↓outO_some, ↓outO_none, ↓cond_true, ↓cond_false, ↓cond_and, ↓cond_or, ↓cond_not, ↓cond_ite, ↓if_pos, ↓if_neg, ↓if_true, ↓if_false, List.take_length, Nat.le_refl, Bool.not_true, Bool.not_false, valid_b h, timely_b ht, if_pos, if_neg, e, hw, Int.toNat_natCast, List.take_zero, List.nil_append, List.length_replicate, Nat.zero_le, List.append_assoc, List.singleton_append, ht1, hd1]
theorem restart_j {l : List Tm} {a o k : Int} (h : VT l) (h' : VT (l.filter (notK o k))) (ht : 0 ≤ a ∧ a ≤ 1099511627776) (hn : l.length < 1000) : ∃ p, PLC (l.filter (notK o k)) a p ∧ timers_Restart (l, (a, (o, k))) = some ((l.filter (notK o k)).take p ++ (a, (o, k)) :: (l.filter (notK o k)).drop p, 0) := by
  have hle := List.length_filter_le (notK o k) l
  obtain ⟨p, hp, e⟩ := add_j (o := o) (k := k) h' ht (by omega)
  refine ⟨p, hp, ?_⟩
  rw [restart_eq]
  have hc : ∀ {γ : Type}, loopO (reB (γ := γ) l o k) ((0 : Int), []) = some (.inl (l.filter (notK o k))) := fun {γ} => ca_loop (γ := γ) o k h.1
  simp only [↓bindO_some, ↓bindO_none, ↓joinO_inl, ↓joinO_inr, ↓joinO_none, ↓outO_some, ↓outO_none, ↓cond_true, ↓cond_false, ↓cond_and, ↓cond_or, ↓cond_not, ↓cond_ite, ↓if_pos, ↓if_neg, ↓if_true, ↓if_false, List.take_length, Nat.le_refl, Bool.not_true, Bool.not_false, valid_b h, timely_b ht, hc, decide_true, e]
end Go.Proofs.Ytejppifgljjnmaa
