import Derived.Test.YtheicchelhjcjaaJ23p
import Derived.Test.YtheicchelhjcjaaZ7p
import Derived.Test.YtheicchelhjcjaaJ19p
set_option linter.unusedVariables false
set_option linter.unusedSimpArgs false
set_option maxRecDepth 100000
namespace Go.Proofs.Ytheicchelhjcjaa
open Go.RowKit
noncomputable def laB (a1 : List Ac) (a2 : Int) : (Int × Int) → Option ((Int × Int) ⊕ (Int ⊕ Int)) :=
(fun (v3, v4) =>
 bif (decide (v3 < (((List.length a1) : Nat) : Int))) then
 bif (decide (((0 : Int) ≤ v3) ∧ (v3 < (((List.length a1) : Nat) : Int)))) then 
 bindO a1[(Int.toNat v3)]? fun x5 =>
 bif (decide (x5.1 = a2)) then
 some (Sum.inl ((Go.IntKind.wrap .i64 (v3 + (1 : Int))), (Go.IntKind.wrap .i64 (v4 + (1 : Int)))))
 else
 some (Sum.inl ((Go.IntKind.wrap .i64 (v3 + (1 : Int))), v4))
 else none
 else
 outO (some (Sum.inl v4)))
theorem all_eq (a1 : List Ac) (a2 : Int) : dialtonelaw23_all (a1, a2) =

  joinO (loopO (laB a1 a2) ((0 : Int), (0 : Int))) fun v9 =>
  some v9 := rfl
noncomputable def lcB (a1 : List Ac) (a2 a3 : Int) : (Int × Int) → Option ((Int × Int) ⊕ (Int ⊕ Int)) :=
(fun (v4, v5) =>
 bif (decide (v4 < (((List.length a1) : Nat) : Int))) then
 bif (decide (((0 : Int) ≤ v4) ∧ (v4 < (((List.length a1) : Nat) : Int)))) then 
 bindO a1[(Int.toNat v4)]? fun x6 =>
 bif (decide (x6.1 = a2)) then
 bif (decide (((0 : Int) ≤ v4) ∧ (v4 < (((List.length a1) : Nat) : Int)))) then 
 bindO a1[(Int.toNat v4)]? fun x7 =>
 bif (decide (x7.2.1 = a3)) then
 some (Sum.inl ((Go.IntKind.wrap .i64 (v4 + (1 : Int))), (Go.IntKind.wrap .i64 (v5 + (1 : Int)))))
 else
 some (Sum.inl ((Go.IntKind.wrap .i64 (v4 + (1 : Int))), v5))
 else none
 else
 some (Sum.inl ((Go.IntKind.wrap .i64 (v4 + (1 : Int))), v5))
 else none
 else
 outO (some (Sum.inl v5)))
theorem count_eq (a1 : List Ac) (a2 a3 : Int) : dialtonelaw23_count (a1, (a2, a3)) =

  joinO (loopO (lcB a1 a2 a3) ((0 : Int), (0 : Int))) fun v12 =>
  some v12 := rfl
theorem take_get {α : Type} {A : List α} {n : Nat} (d : α) (h : n < A.length) : A.take (n + 1) = A.take n ++ [A.getD n d] := by
  rw [List.take_add_one, List.getElem?_eq_getElem h, List.getD_eq_getElem?_getD, List.getElem?_eq_getElem h]; rfl
theorem aL_take {A : List Ac} {n : Nat} (k : Int) (h : n < A.length) : aL (A.take (n + 1)) k = aL (A.take n) k + if (A.getD n a0).1 = k then 1 else 0 := by
  rw [take_get a0 h, aL_app, aL_cons, aL_nil, Nat.zero_add]
theorem cN_take {A : List Ac} {n : Nat} (k i : Int) (h : n < A.length) : cN (A.take (n + 1)) k i = cN (A.take n) k i + if (A.getD n a0).1 = k ∧ (A.getD n a0).2.1 = i then 1 else 0 := by
  rw [take_get a0 h, cN_app, cN_cons, cN_nil, Nat.zero_add]
theorem aL_le (A : List Ac) (k : Int) : aL A k ≤ A.length := List.countP_le_length
theorem cN_le (A : List Ac) (k i : Int) : cN A k i ≤ A.length := List.countP_le_length
theorem all_b {β : Type} (A : List Ac) (k : Int) (hl : A.length ≤ 5000) (f : Int → Option β) : bindO (dialtonelaw23_all (A, k)) f = f ((aL A k : Nat) : Int) := by
  rw [all_eq]
  have e : loopO (laB A k) ((0 : Int), (0 : Int)) = some (.inl ((aL A k : Nat) : Int)) := by
    refine loopO_from (fun n => (((n : Nat) : Int), ((aL (A.take n) k : Nat) : Int))) A.length rfl (fun n hn => ?_) ?_
    · obtain ⟨x, hx, hb⟩ := get_at a0 hn
      have hn1 : ((n : Int) + 1) = ((n + 1 : Nat) : Int) := rfl
      have hle := aL_le (A.take n) k
      have hlt : (A.take n).length ≤ n := by rw [List.length_take]; omega
      simp only [aL_take k hn, hx]
      unfold laB
      by_cases c : x.1 = k
      · simp (disch := (first | omega | (simp only [List.length_append, List.length_cons, List.length_nil, List.nil_append, List.length_take, List.length_drop]; omega))) only [↓bindO_some, ↓bindO_none, ↓joinO_inl, ↓joinO_inr, ↓joinO_none, ↓outO_some, ↓outO_none, ↓cond_true, ↓cond_false, ↓cond_and, ↓cond_or, ↓cond_not, ↓cond_ite, ↓if_pos, ↓if_neg, ↓if_true, ↓if_false, List.take_length, Nat.le_refl, Bool.not_true, Bool.not_false, if_pos, if_neg, ↓hb, wrap_i64', hn1, c]
        rfl
      · simp (disch := (first | omega | (simp only [List.length_append, List.length_cons, List.length_nil, List.nil_append, List.length_take, List.length_drop]; omega))) only [↓bindO_some, ↓bindO_none, ↓joinO_inl, ↓joinO_inr, ↓joinO_none, ↓outO_some, ↓outO_none, ↓cond_true, ↓cond_false, ↓cond_and, ↓cond_or, ↓cond_not, ↓cond_ite, ↓if_pos, ↓if_neg, ↓if_true, ↓if_false, List.take_length, Nat.le_refl, Bool.not_true, Bool.not_false, if_pos, if_neg, ↓hb, wrap_i64', hn1, c, Nat.add_zero]
    · unfold laB
      simp (disch := (first | omega | (simp only [List.length_append, List.length_cons, List.length_nil, List.nil_append, List.length_take, List.length_drop]; omega))) only [↓bindO_some, ↓bindO_none, ↓joinO_inl, ↓joinO_inr, ↓joinO_none, ↓outO_some, ↓outO_none, ↓cond_true, ↓cond_false, ↓cond_and, ↓cond_or, ↓cond_not, ↓cond_ite, ↓if_pos, ↓if_neg, ↓if_true, ↓if_false, List.take_length, Nat.le_refl, Bool.not_true, Bool.not_false, if_neg]
  rw [e]; rfl
theorem count_b {β : Type} (A : List Ac) (k i : Int) (hl : A.length ≤ 5000) (f : Int → Option β) : bindO (dialtonelaw23_count (A, (k, i))) f = f ((cN A k i : Nat) : Int) := by
  rw [count_eq]
  have e : loopO (lcB A k i) ((0 : Int), (0 : Int)) = some (.inl ((cN A k i : Nat) : Int)) := by
    refine loopO_from (fun n => (((n : Nat) : Int), ((cN (A.take n) k i : Nat) : Int))) A.length rfl (fun n hn => ?_) ?_
    · obtain ⟨x, hx, hb⟩ := get_at a0 hn
      have hn1 : ((n : Int) + 1) = ((n + 1 : Nat) : Int) := rfl
      have hle := cN_le (A.take n) k i
      have hlt : (A.take n).length ≤ n := by rw [List.length_take]; omega
      simp only [cN_take k i hn, hx]
      unfold lcB
      by_cases c : x.1 = k
      · by_cases c2 : x.2.1 = i
        · simp (disch := (first | omega | (simp only [List.length_append, List.length_cons, List.length_nil, List.nil_append, List.length_take, List.length_drop]; omega))) only [↓bindO_some, ↓bindO_none, ↓joinO_inl, ↓joinO_inr, ↓joinO_none, ↓outO_some, ↓outO_none, ↓cond_true, ↓cond_false, ↓cond_and, ↓cond_or, ↓cond_not, ↓cond_ite, ↓if_pos, ↓if_neg, ↓if_true, ↓if_false, List.take_length, Nat.le_refl, Bool.not_true, Bool.not_false, if_pos, if_neg, ↓hb, wrap_i64', hn1, c, c2, and_self]
          rfl
        · simp (disch := (first | omega | (simp only [List.length_append, List.length_cons, List.length_nil, List.nil_append, List.length_take, List.length_drop]; omega))) only [↓bindO_some, ↓bindO_none, ↓joinO_inl, ↓joinO_inr, ↓joinO_none, ↓outO_some, ↓outO_none, ↓cond_true, ↓cond_false, ↓cond_and, ↓cond_or, ↓cond_not, ↓cond_ite, ↓if_pos, ↓if_neg, ↓if_true, ↓if_false, List.take_length, Nat.le_refl, Bool.not_true, Bool.not_false, if_pos, if_neg, ↓hb, wrap_i64', hn1, c, c2, and_false, Nat.add_zero]
      · simp (disch := (first | omega | (simp only [List.length_append, List.length_cons, List.length_nil, List.nil_append, List.length_take, List.length_drop]; omega))) only [↓bindO_some, ↓bindO_none, ↓joinO_inl, ↓joinO_inr, ↓joinO_none, ↓outO_some, ↓outO_none, ↓cond_true, ↓cond_false, ↓cond_and, ↓cond_or, ↓cond_not, ↓cond_ite, ↓if_pos, ↓if_neg, ↓if_true, ↓if_false, List.take_length, Nat.le_refl, Bool.not_true, Bool.not_false, if_pos, if_neg, ↓hb, wrap_i64', hn1, c, false_and, Nat.add_zero]
    · unfold lcB
      simp (disch := (first | omega | (simp only [List.length_append, List.length_cons, List.length_nil, List.nil_append, List.length_take, List.length_drop]; omega))) only [↓bindO_some, ↓bindO_none, ↓joinO_inl, ↓joinO_inr, ↓joinO_none, ↓outO_some, ↓outO_none, ↓cond_true, ↓cond_false, ↓cond_and, ↓cond_or, ↓cond_not, ↓cond_ite, ↓if_pos, ↓if_neg, ↓if_true, ↓if_false, List.take_length, Nat.le_refl, Bool.not_true, Bool.not_false, if_neg]
  rw [e]; rfl
end Go.Proofs.Ytheicchelhjcjaa
