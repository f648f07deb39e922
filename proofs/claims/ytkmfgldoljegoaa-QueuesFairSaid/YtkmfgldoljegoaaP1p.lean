import Derived.Test.YtkmfgldoljegoaaN1p
import Derived.Test.YtkmfgldoljegoaaZ3p
set_option linter.unusedVariables false
set_option linter.unusedSimpArgs false
set_option maxRecDepth 100000
set_option maxHeartbeats 2000000
namespace Go.Proofs.Ytkmfgldoljegoaa
open Go.RowKit
noncomputable def cofB (a1 : List Ca) (a8 : Int) : Int → Option (Int ⊕ (Unit ⊕ Int)) :=
(fun v9 =>
 bif (decide (v9 < (((List.length a1) : Nat) : Int))) then
 bif (decide (((0 : Int) ≤ v9) ∧ (v9 < (((List.length a1) : Nat) : Int)))) then 
 bindO a1[(Int.toNat v9)]? fun x10 =>
 bif (decide (x10.1 = a8)) then
 outO (outO (some v9))
 else
 some (Sum.inl (Go.IntKind.wrap .i64 (v9 + (1 : Int))))
 else none
 else
 outO (some (Sum.inl ())))
theorem cof_eq (a1 : List Ca) (a2 : List Se) (a3 a4 a5 a6 a7 : Int) (a8 : Int) : queues_callerOf ((a1, (a2, (a3, (a4, (a5, (a6, a7)))))), a8) =

  joinO (loopO (cofB a1 a8) (0 : Int)) fun _ =>
  some (-1 : Int) := rfl
noncomputable def sofB (a2 : List Se) (a8 : Int) : Int → Option (Int ⊕ (Unit ⊕ Int)) :=
(fun v9 =>
 bif (decide (v9 < (((List.length a2) : Nat) : Int))) then
 bif (decide (((0 : Int) ≤ v9) ∧ (v9 < (((List.length a2) : Nat) : Int)))) then 
 bindO a2[(Int.toNat v9)]? fun x10 =>
 bif (decide (x10.1 = a8)) then
 outO (outO (some v9))
 else
 some (Sum.inl (Go.IntKind.wrap .i64 (v9 + (1 : Int))))
 else none
 else
 outO (some (Sum.inl ())))
theorem sof_eq (a1 : List Ca) (a2 : List Se) (a3 a4 a5 a6 a7 : Int) (a8 : Int) : queues_seatOf ((a1, (a2, (a3, (a4, (a5, (a6, a7)))))), a8) =

  joinO (loopO (sofB a2 a8) (0 : Int)) fun _ =>
  some (-1 : Int) := rfl
noncomputable def pbzB (a1 : List Se) (a2 : Int) : Int → Option (Int ⊕ (Unit ⊕ Bool)) :=
(fun v3 =>
 bif (decide (v3 < (((List.length a1) : Nat) : Int))) then
 bif (decide (((0 : Int) ≤ v3) ∧ (v3 < (((List.length a1) : Nat) : Int)))) then 
 bindO a1[(Int.toNat v3)]? fun x4 =>
 bif (decide (x4.2.1 = (3 : Int))) then
 bif (decide (x4.2.2.2.1 = a2)) then
 outO (outO (some Bool.true))
 else
 some (Sum.inl (Go.IntKind.wrap .i64 (v3 + (1 : Int))))
 else
 some (Sum.inl (Go.IntKind.wrap .i64 (v3 + (1 : Int))))
 else none
 else
 outO (some (Sum.inl ())))
theorem pbz_eq (a1 : List Se) (a2 : Int) : queues_busy (a1, a2) =

  joinO (loopO (pbzB a1 a2) (0 : Int)) fun _ =>
  some Bool.false := rfl
noncomputable def mciB (x14 : List Ca) (x10 : Ca) : Int → Option (Int ⊕ (Unit ⊕ ((Int × Int) ⊕ ((Int × Int) ⊕ (Unit ⊕ Bool))))) :=
(fun v15 =>
 bif (decide (v15 < (((List.length x14) : Nat) : Int))) then
 bif (decide (((0 : Int) ≤ v15) ∧ (v15 < (((List.length x14) : Nat) : Int)))) then 
 bindO x14[(Int.toNat v15)]? fun x16 =>
 bif (decide (x16.1 = x10.1)) then
 outO (outO (outO (outO (outO (some Bool.false)))))
 else
 some (Sum.inl (Go.IntKind.wrap .i64 (v15 + (1 : Int))))
 else none
 else
 outO (some (Sum.inl ())))
noncomputable def mclB (a1 : List Ca) (a2 : List Se) (a3 a4 a5 a6 a7 : Int) : (Int × Int) → Option ((Int × Int) ⊕ (Unit ⊕ Bool)) :=
(fun (v8, v9) =>
 bif (decide (v8 < (((List.length a1) : Nat) : Int))) then
 joinO (bif (decide (((0 : Int) ≤ v8) ∧ (v8 < (((List.length a1) : Nat) : Int)))) then 
 bindO a1[(Int.toNat v8)]? fun x10 =>
 joinO (bindO (queues_within (x10.1, ((1 : Int), (2147483647 : Int)))) fun x11 =>
 bif (!x11) then
 outO (outO (outO (outO (some Bool.false))))
 else
 bindO (queues_within (x10.2.1, ((0 : Int), (10 : Int)))) fun x12 =>
 bif (!x12) then
 outO (outO (outO (outO (some Bool.false))))
 else
 bindO (queues_within (x10.2.2.1, (v9, a7))) fun x13 =>
 bif (!x13) then
 outO (outO (outO (outO (some Bool.false))))
 else
 some (Sum.inl ())) fun _ =>
 joinO (bif (decide (((0 : Int) ≤ v8) ∧ (v8 ≤ (((List.length a1) : Nat) : Int)))) then 
 bindO (some (List.take (Int.toNat v8) a1)) fun x14 =>
 loopO (mciB x14 x10) (0 : Int)
 else none) fun _ =>
 bif (decide (x10.2.2.2 = (0 : Int))) then
 some (Sum.inl (x10.2.2.1, v8))
 else
 bindO (queues_seatOf ((a1, (a2, (a3, (a4, (a5, (a6, a7)))))), x10.2.2.2)) fun x18 =>
 bif (decide (x18 < (0 : Int))) then
 outO (outO (outO (some Bool.false)))
 else
 bif (decide (((0 : Int) ≤ x18) ∧ (x18 < (((List.length a2) : Nat) : Int)))) then 
 bindO a2[(Int.toNat x18)]? fun x19 =>
 bif (decide (x19.2.1 ≠ (2 : Int))) then
 outO (outO (outO (some Bool.false)))
 else
 bif (decide (((0 : Int) ≤ x18) ∧ (x18 < (((List.length a2) : Nat) : Int)))) then 
 bindO a2[(Int.toNat x18)]? fun x20 =>
 bif (decide (x20.2.2.2.1 ≠ x10.1)) then
 outO (outO (outO (some Bool.false)))
 else
 some (Sum.inl (x10.2.2.1, v8))
 else none
 else none
 else none) fun (v21, v22) =>
 some (Sum.inl ((Go.IntKind.wrap .i64 (v8 + (1 : Int))), v21))
 else
 outO (some (Sum.inl ())))
theorem mcl_eq (a1 : List Ca) (a2 : List Se) (a3 a4 a5 a6 a7 : Int) : queues_mayCallers (a1, (a2, (a3, (a4, (a5, (a6, a7)))))) =

  joinO (loopO (mclB a1 a2 a3 a4 a5 a6 a7) ((0 : Int), (0 : Int))) fun _ =>
  some Bool.true := rfl
noncomputable def mseB (a1 : List Ca) (a2 : List Se) (a3 a4 a5 a6 a7 : Int) : (Int × Int) → Option ((Int × Int) ⊕ (Unit ⊕ Bool)) :=
(fun (v8, v9) =>
 bif (decide (v8 < (((List.length a2) : Nat) : Int))) then
 bif (decide (((0 : Int) ≤ v8) ∧ (v8 < (((List.length a2) : Nat) : Int)))) then 
 bindO a2[(Int.toNat v8)]? fun x10 =>
 joinO (bindO (queues_within (x10.1, ((Go.IntKind.wrap .i64 (v9 + (1 : Int))), (2147483647 : Int)))) fun x12 =>
 bif (!x12) then
 outO (outO (outO (some Bool.false)))
 else
 bindO (queues_within (x10.2.2.1, ((0 : Int), a7))) fun x13 =>
 bif (!x13) then
 outO (outO (outO (some Bool.false)))
 else
 bindO (queues_within (x10.2.2.2.2, ((0 : Int), (2147483647 : Int)))) fun x14 =>
 bif (!x14) then
 outO (outO (outO (some Bool.false)))
 else
 some (Sum.inl ())) fun _ =>
 joinO (bif (decide (x10.2.1 = (1 : Int))) then
 some (Sum.inl Bool.true)
 else
 some (Sum.inl (decide (x10.2.1 = (4 : Int))))) fun v15 =>
 bif v15 then
 bif (decide (x10.2.2.2.1 ≠ (0 : Int))) then
 outO (outO (some Bool.false))
 else
 some (Sum.inl ((Go.IntKind.wrap .i64 (v8 + (1 : Int))), x10.1))
 else
 bif (decide (x10.2.1 = (2 : Int))) then
 bindO (queues_callerOf ((a1, (a2, (a3, (a4, (a5, (a6, a7)))))), x10.2.2.2.1)) fun x17 =>
 bif (decide (x10.2.2.2.1 < (1 : Int))) then
 outO (outO (some Bool.false))
 else
 bif (decide (x17 < (0 : Int))) then
 outO (outO (some Bool.false))
 else
 bif (decide (((0 : Int) ≤ x17) ∧ (x17 < (((List.length a1) : Nat) : Int)))) then 
 bindO a1[(Int.toNat x17)]? fun x18 =>
 bif (decide (x18.2.2.2 ≠ x10.1)) then
 outO (outO (some Bool.false))
 else
 some (Sum.inl ((Go.IntKind.wrap .i64 (v8 + (1 : Int))), x10.1))
 else none
 else
 bif (decide (x10.2.1 = (3 : Int))) then
 bindO (queues_within (x10.2.2.2.1, ((1 : Int), (2147483647 : Int)))) fun x20 =>
 bif (!x20) then
 outO (outO (some Bool.false))
 else
 bindO (queues_callerOf ((a1, (a2, (a3, (a4, (a5, (a6, a7)))))), x10.2.2.2.1)) fun x21 =>
 bif (decide (x21 ≥ (0 : Int))) then
 outO (outO (some Bool.false))
 else
 bif (decide (((0 : Int) ≤ v8) ∧ (v8 ≤ (((List.length a2) : Nat) : Int)))) then 
 bindO (queues_busy ((List.take (Int.toNat v8) a2), x10.2.2.2.1)) fun x23 =>
 bif x23 then
 outO (outO (some Bool.false))
 else
 some (Sum.inl ((Go.IntKind.wrap .i64 (v8 + (1 : Int))), x10.1))
 else none
 else
 outO (outO (some Bool.false))
 else none
 else
 outO (some (Sum.inl ())))
theorem mse_eq (a1 : List Ca) (a2 : List Se) (a3 a4 a5 a6 a7 : Int) : queues_maySeats (a1, (a2, (a3, (a4, (a5, (a6, a7)))))) =

  joinO (loopO (mseB a1 a2 a3 a4 a5 a6 a7) ((0 : Int), (0 : Int))) fun _ =>
  some Bool.true := rfl
theorem cof_j (a1 : List Ca) (a2 : List Se) (a3 a4 a5 a6 a7 a8 : Int) (h : a1.length ≤ 9223372036854775806) : queues_callerOf ((a1, (a2, (a3, (a4, (a5, (a6, a7)))))), a8) = some (idxC a1 a8) := by
  rw [cof_eq]
  refine Or.elim (loop_first (body := cofB a1 a8) a1.length (fun i => (a1.getD i dC).1 = a8) (fun i => .inr (i : Int)) (.inl ()) ?_ ?_ ?_) (fun hl => ?_) (fun hl => ?_)
  · intro i hi hp
    obtain ⟨x, hx, hxb⟩ := get_at dC hi
    rw [hx] at hp
    unfold cofB
    simp (disch := (first | omega | (simp only [LNl]; omega))) only [↓SDl, SDr, if_pos, if_neg, ↓hxb, hp, wrap_i64', decide_false]
    rfl
  · intro i hi hp
    obtain ⟨x, hx, hxb⟩ := get_at dC hi
    rw [hx] at hp
    unfold cofB
    simp (disch := (first | omega | (simp only [LNl]; omega))) only [↓SDl, SDr, if_pos, if_neg, ↓hxb, hp, wrap_i64', decide_true]
  · unfold cofB
    simp (disch := (first | omega | (simp only [LNl]; omega))) only [↓SDl, SDr, if_neg]
  · obtain ⟨i, hi, hp, hu, e⟩ := hl
    rw [e, idxC_some hi hp hu]; rfl
  · obtain ⟨hn, e⟩ := hl
    rw [e, idxC_none hn]; rfl
theorem sof_j (a1 : List Ca) (a2 : List Se) (a3 a4 a5 a6 a7 a8 : Int) (h : a2.length ≤ 9223372036854775806) : queues_seatOf ((a1, (a2, (a3, (a4, (a5, (a6, a7)))))), a8) = some (idxT a2 a8) := by
  rw [sof_eq]
  refine Or.elim (loop_first (body := sofB a2 a8) a2.length (fun i => (a2.getD i dS).1 = a8) (fun i => .inr (i : Int)) (.inl ()) ?_ ?_ ?_) (fun hl => ?_) (fun hl => ?_)
  · intro i hi hp
    obtain ⟨x, hx, hxb⟩ := get_at dS hi
    rw [hx] at hp
    unfold sofB
    simp (disch := (first | omega | (simp only [LNl]; omega))) only [↓SDl, SDr, if_pos, if_neg, ↓hxb, hp, wrap_i64', decide_false]
    rfl
  · intro i hi hp
    obtain ⟨x, hx, hxb⟩ := get_at dS hi
    rw [hx] at hp
    unfold sofB
    simp (disch := (first | omega | (simp only [LNl]; omega))) only [↓SDl, SDr, if_pos, if_neg, ↓hxb, hp, wrap_i64', decide_true]
  · unfold sofB
    simp (disch := (first | omega | (simp only [LNl]; omega))) only [↓SDl, SDr, if_neg]
  · obtain ⟨i, hi, hp, hu, e⟩ := hl
    rw [e, idxT_some hi hp hu]; rfl
  · obtain ⟨hn, e⟩ := hl
    rw [e, idxT_none hn]; rfl
def Busy (ss : List Se) (call : Int) : Prop := ∃ k, k < ss.length ∧ (ss.getD k dS).2.1 = 3 ∧ (ss.getD k dS).2.2.2.1 = call
theorem pbz_j (a1 : List Se) (a2 : Int) (h : a1.length ≤ 9223372036854775806) : Is (queues_busy (a1, a2)) (Busy a1 a2) := by
  rw [pbz_eq]
  refine Or.elim (loop_first (body := pbzB a1 a2) a1.length (fun i => (a1.getD i dS).2.1 = 3 ∧ (a1.getD i dS).2.2.2.1 = a2) (fun i => .inr true) (.inl ()) ?_ ?_ ?_) (fun hl => ?_) (fun hl => ?_)
  · intro i hi hp
    obtain ⟨x, hx, hxb⟩ := get_at dS hi
    rw [hx] at hp
    unfold pbzB
    by_cases e : x.2.1 = 3
    · have e2 : ¬ x.2.2.2.1 = a2 := fun q => hp ⟨e, q⟩
      simp (disch := (first | omega | (simp only [LNl]; omega))) only [↓SDl, SDr, if_pos, if_neg, ↓hxb, e, e2, wrap_i64', decide_false, decide_true]
      rfl
    · simp (disch := (first | omega | (simp only [LNl]; omega))) only [↓SDl, SDr, if_pos, if_neg, ↓hxb, e, wrap_i64', decide_false]
      rfl
  · intro i hi hp
    obtain ⟨x, hx, hxb⟩ := get_at dS hi
    rw [hx] at hp
    unfold pbzB
    simp (disch := (first | omega | (simp only [LNl]; omega))) only [↓SDl, SDr, if_pos, if_neg, ↓hxb, hp.1, hp.2, wrap_i64', decide_true]
  · unfold pbzB
    simp (disch := (first | omega | (simp only [LNl]; omega))) only [↓SDl, SDr, if_neg]
  · obtain ⟨i, hi, hp, hu, e⟩ := hl
    rw [e]; exact .inl ⟨⟨i, hi, hp⟩, rfl⟩
  · obtain ⟨hn, e⟩ := hl
    rw [e]; exact .inr ⟨fun ⟨i, hi, hp⟩ => hn i hi hp, rfl⟩
theorem Is.b {o : Option Bool} {P : Prop} (h : Is o P) : (P ∧ ∀ {β : Type} (f : Bool → Option β), bindO o f = f true) ∨ (¬ P ∧ ∀ {β : Type} (f : Bool → Option β), bindO o f = f false) := by
  rcases h with ⟨h, e⟩ | ⟨h, e⟩
  · exact .inl ⟨h, fun f => by rw [e]; rfl⟩
  · exact .inr ⟨h, fun f => by rw [e]; rfl⟩
theorem wit_b {β : Type} (n l m : Int) (f : Bool → Option β) : bindO (queues_within (n, (l, m))) f = f (decide (l ≤ n ∧ n ≤ m)) := by
  have e : queues_within (n, (l, m)) = some (decide (l ≤ n ∧ n ≤ m)) := by
    show (bif decide (n ≥ l) then some (decide (n ≤ m)) else some Bool.false) = _
    by_cases h : l ≤ n
    · rw [decide_eq_true (show n ≥ l from h)]; simp [h]
    · rw [decide_eq_false (show ¬ n ≥ l from h)]; simp [h]
  rw [e]; rfl
theorem frm_b {β : Type} (n l m : Int) (f : Bool → Option β) : bindO (dialtoneref36_from (n, (l, m))) f = f (decide (l ≤ n ∧ n ≤ m)) := by
  have e : dialtoneref36_from (n, (l, m)) = some (decide (l ≤ n ∧ n ≤ m)) := by
    show (bif decide (n ≥ l) then some (decide (n ≤ m)) else some Bool.false) = _
    by_cases h : l ≤ n
    · rw [decide_eq_true (show n ≥ l from h)]; simp [h]
    · rw [decide_eq_false (show ¬ n ≥ l from h)]; simp [h]
  rw [e]; rfl
theorem cof_b {β : Type} (a1 : List Ca) (a2 : List Se) (a3 a4 a5 a6 a7 a8 : Int) (f : Int → Option β) (h : a1.length ≤ 9223372036854775806) : bindO (queues_callerOf ((a1, (a2, (a3, (a4, (a5, (a6, a7)))))), a8)) f = f (idxC a1 a8) := by rw [cof_j _ _ _ _ _ _ _ _ h]; rfl
theorem sof_b {β : Type} (a1 : List Ca) (a2 : List Se) (a3 a4 a5 a6 a7 a8 : Int) (f : Int → Option β) (h : a2.length ≤ 9223372036854775806) : bindO (queues_seatOf ((a1, (a2, (a3, (a4, (a5, (a6, a7)))))), a8)) f = f (idxT a2 a8) := by rw [sof_j _ _ _ _ _ _ _ _ h]; rfl
