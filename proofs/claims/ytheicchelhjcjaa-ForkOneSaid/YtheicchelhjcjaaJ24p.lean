import Derived.Test.YtheicchelhjcjaaJ23p
import Derived.Test.YtheicchelhjcjaaZ7p
import Derived.Test.YtheicchelhjcjaaJ19p
set_option linter.unusedVariables false
set_option linter.unusedSimpArgs false
set_option maxRecDepth 100000
namespace Go.Proofs.Ytheicchelhjcjaa
open Go.RowKit
noncomputable def laB (a1 : List Ac) (a2 : Int) : (Int × Int) → Option ((Int × Int) ⊕ (Int ⊕ Int)) :=
(fun (v3, v4) =>
    bif (decide (v3 < (((List.length a1) : Nat) : Int))) then
     bif (decide (((0 : Int) ≤ v3) ∧ (v3 < (((List.length a1) : Nat) : Int)))) then 
      bindO a1[(Int.toNat v3)]? fun x5 =>
      bif (decide (x5.1 = a2)) then
       some (Sum.inl ((Go.IntKind.wrap .i64 (v3 + (1 : Int))), (Go.IntKind.wrap .i64 (v4 + (1 : Int)))))
      else
       some (Sum.inl ((Go.IntKind.wrap .i64 (v3 + (1 : Int))), v4))
     else none
    else
     outO (some (Sum.inl v4)))
theorem all_eq (a1 : List Ac) (a2 : Int) : dialtonelaw23_all (a1, a2) =

  joinO (loopO (laB a1 a2) ((0 : Int), (0 : Int))) fun v9 =>
  some v9 := rfl
noncomputable def lcB (a1 : List Ac) (a2 a3 : Int) : (Int × Int) → Option ((Int × Int) ⊕ (Int ⊕ Int)) :=
(fun (v4, v5) =>
    bif (decide (v4 < (((List.length a1) : Nat) : Int))) then
     bif (decide (((0 : Int) ≤ v4) ∧ (v4 < (((List.length a1) : Nat) : Int)))) then 
      bindO a1[(Int.toNat v4)]? fun x6 =>
      bif (decide (x6.1 = a2)) then
       bif (decide (((0 : Int) ≤ v4) ∧ (v4 < (((List.length a1) : Nat) : Int)))) then 
        bindO a1[(Int.toNat v4)]? fun x7 =>
        bif (decide (x7.2.1 = a3)) then
         some (Sum.inl ((Go.IntKind.wrap .i64 (v4 + (1 : Int))), (Go.IntKind.wrap .i64 (v5 + (1 : Int)))))
        else
         some (Sum.inl ((Go.IntKind.wrap .i64 (v4 + (1 : Int))), v5))
       else none
      else
       some (Sum.inl ((Go.IntKind.wrap .i64 (v4 + (1 : Int))), v5))
     else none
    else
     outO (some (Sum.inl v5)))
theorem count_eq (a1 : List Ac) (a2 a3 : Int) : dialtonelaw23_count (a1, (a2, a3)) =

  joinO (loopO (lcB a1 a2 a3) ((0 : Int), (0 : Int))) fun v12 =>
  some v12 := rfl
noncomputable def loB (x4 : List Br) (x5 : Int) (x9 : List Ac) : Int → Option (Int ⊕ (Unit ⊕ Bool)) :=
(fun v18 =>
     bif (decide (v18 < (((List.length x4) : Nat) : Int))) then
      bif (decide (((0 : Int) ≤ v18) ∧ (v18 < (((List.length x4) : Nat) : Int)))) then 
       bindO x4[(Int.toNat v18)]? fun x19 =>
       bif (decide (x19.2.2.1 = (5 : Int))) then
        bindO (dialtonelaw23_count (x9, ((4 : Int), v18))) fun x20 =>
        bindO (dialtonelaw23_count (x9, ((5 : Int), v18))) fun x21 =>
        bif (decide (x19.2.2.2 < (300 : Int))) then
         bif (decide ((Go.IntKind.wrap .i64 (x20 + x21)) ≠ (1 : Int))) then
          outO (outO (some Bool.false))
         else
          bif (!(decide (x19.2.2.2 < (300 : Int)))) then
           bif (decide ((Go.IntKind.wrap .i64 (x20 + x21)) ≠ (0 : Int))) then
            outO (outO (some Bool.false))
           else
            bif ((decide (x20 = (1 : Int))) != (decide (x5 = v18))) then
             outO (outO (some Bool.false))
            else
             some (Sum.inl (Go.IntKind.wrap .i64 (v18 + (1 : Int))))
          else
           bif ((decide (x20 = (1 : Int))) != (decide (x5 = v18))) then
            outO (outO (some Bool.false))
           else
            some (Sum.inl (Go.IntKind.wrap .i64 (v18 + (1 : Int))))
        else
         bif (!(decide (x19.2.2.2 < (300 : Int)))) then
          bif (decide ((Go.IntKind.wrap .i64 (x20 + x21)) ≠ (0 : Int))) then
           outO (outO (some Bool.false))
          else
           bif ((decide (x20 = (1 : Int))) != (decide (x5 = v18))) then
            outO (outO (some Bool.false))
           else
            some (Sum.inl (Go.IntKind.wrap .i64 (v18 + (1 : Int))))
         else
          bif ((decide (x20 = (1 : Int))) != (decide (x5 = v18))) then
           outO (outO (some Bool.false))
          else
           some (Sum.inl (Go.IntKind.wrap .i64 (v18 + (1 : Int))))
       else
        bindO (dialtonelaw23_count (x9, ((4 : Int), v18))) fun x29 =>
        bindO (dialtonelaw23_count (x9, ((5 : Int), v18))) fun x30 =>
        bif (decide ((Go.IntKind.wrap .i64 (x29 + x30)) ≠ (0 : Int))) then
         outO (outO (some Bool.false))
        else
         bif ((decide (x29 = (1 : Int))) != (decide (x5 = v18))) then
          outO (outO (some Bool.false))
         else
          some (Sum.inl (Go.IntKind.wrap .i64 (v18 + (1 : Int))))
      else none
     else
      outO (some (Sum.inl ())))
theorem one_eq (a1 : List Tg) (a2 : List In) : dialtonelaw23_ForkOne (a1, a2) =

  bindO (dialtonelaw23_run (a1, a2)) fun ((x4, (x5, (x6, (x7, x8)))), (x9, (x10, x11))) =>
  bif (!x11) then
   some Bool.true
  else
   bindO (dialtonelaw23_all (x9, (4 : Int))) fun x13 =>
   bindO (dialtonelaw23_all (x9, (6 : Int))) fun x14 =>
   joinO (bif (decide ((Go.IntKind.wrap .i64 (x13 + x14)) > (1 : Int))) then
     outO (some Bool.false)
    else
     bindO (dialtoneref23_AnyOpen (x4, (x5, (x6, (x7, x8))))) fun x16 =>
     bif (!x16) then
      bif (decide ((Go.IntKind.wrap .i64 (x13 + x14)) ≠ (1 : Int))) then
       outO (some Bool.false)
      else
       some (Sum.inl ())
     else
      some (Sum.inl ())) fun _ =>
   joinO (loopO (loB x4 x5 x9) (0 : Int)) fun _ =>
   some Bool.true := rfl
theorem take_get {α : Type} {A : List α} {n : Nat} (d : α) (h : n < A.length) : A.take (n + 1) = A.take n ++ [A.getD n d] := by
  rw [List.take_add_one, List.getElem?_eq_getElem h, List.getD_eq_getElem?_getD, List.getElem?_eq_getElem h]; rfl
theorem aL_take {A : List Ac} {n : Nat} (k : Int) (h : n < A.length) : aL (A.take (n + 1)) k = aL (A.take n) k + if (A.getD n a0).1 = k then 1 else 0 := by
  rw [take_get a0 h, aL_app, aL_cons, aL_nil, Nat.zero_add]
theorem cN_take {A : List Ac} {n : Nat} (k i : Int) (h : n < A.length) : cN (A.take (n + 1)) k i = cN (A.take n) k i + if (A.getD n a0).1 = k ∧ (A.getD n a0).2.1 = i then 1 else 0 := by
  rw [take_get a0 h, cN_app, cN_cons, cN_nil, Nat.zero_add]
theorem aL_le (A : List Ac) (k : Int) : aL A k ≤ A.length := List.countP_le_length
theorem cN_le (A : List Ac) (k i : Int) : cN A k i ≤ A.length := List.countP_le_length
theorem all_b {β : Type} (A : List Ac) (k : Int) (hl : A.length ≤ 5000) (f : Int → Option β) : bindO (dialtonelaw23_all (A, k)) f = f ((aL A k : Nat) : Int) := by
  rw [all_eq]
  have e : loopO (laB A k) ((0 : Int), (0 : Int)) = some (.inl ((aL A k : Nat) : Int)) := by
    refine loopO_from (fun n => (((n : Nat) : Int), ((aL (A.take n) k : Nat) : Int))) A.length rfl (fun n hn => ?_) ?_
    · obtain ⟨x, hx, hb⟩ := get_at a0 hn
      have hn1 : ((n : Int) + 1) = ((n + 1 : Nat) : Int) := rfl
      have hle := aL_le (A.take n) k
      have hlt : (A.take n).length ≤ n := by rw [List.length_take]; omega
      simp only [aL_take k hn, hx]
      unfold laB
      by_cases c : x.1 = k
      · simp (disch := (first | omega | (simp only [List.length_append, List.length_cons, List.length_nil, List.nil_append, List.length_take, List.length_drop]; omega))) only [↓bindO_some, ↓bindO_none, ↓joinO_inl, ↓joinO_inr, ↓joinO_none, ↓outO_some, ↓outO_none, ↓cond_true, ↓cond_false, ↓cond_and, ↓cond_or, ↓cond_not, ↓cond_ite, ↓if_pos, ↓if_neg, ↓if_true, ↓if_false, List.take_length, Nat.le_refl, Bool.not_true, Bool.not_false, if_pos, if_neg, ↓hb, wrap_i64', hn1, c]
        rfl
      · simp (disch := (first | omega | (simp only [List.length_append, List.length_cons, List.length_nil, List.nil_append, List.length_take, List.length_drop]; omega))) only [↓bindO_some, ↓bindO_none, ↓joinO_inl, ↓joinO_inr, ↓joinO_none, ↓outO_some, ↓outO_none, ↓cond_true, ↓cond_false, ↓cond_and, ↓cond_or, ↓cond_not, ↓cond_ite, ↓if_pos, ↓if_neg, ↓if_true, ↓if_false, List.take_length, Nat.le_refl, Bool.not_true, Bool.not_false, if_pos, if_neg, ↓hb, wrap_i64', hn1, c, Nat.add_zero]
    · unfold laB
      simp (disch := (first | omega | (simp only [List.length_append, List.length_cons, List.length_nil, List.nil_append, List.length_take, List.length_drop]; omega))) only [↓bindO_some, ↓bindO_none, ↓joinO_inl, ↓joinO_inr, ↓joinO_none, ↓outO_some, ↓outO_none, ↓cond_true, ↓cond_false, ↓cond_and, ↓cond_or, ↓cond_not, ↓cond_ite, ↓if_pos, ↓if_neg, ↓if_true, ↓if_false, List.take_length, Nat.le_refl, Bool.not_true, Bool.not_false, if_neg]
  rw [e]; rfl
theorem count_b {β : Type} (A : List Ac) (k i : Int) (hl : A.length ≤ 5000) (f : Int → Option β) : bindO (dialtonelaw23_count (A, (k, i))) f = f ((cN A k i : Nat) : Int) := by
  rw [count_eq]
  have e : loopO (lcB A k i) ((0 : Int), (0 : Int)) = some (.inl ((cN A k i : Nat) : Int)) := by
    refine loopO_from (fun n => (((n : Nat) : Int), ((cN (A.take n) k i : Nat) : Int))) A.length rfl (fun n hn => ?_) ?_
    · obtain ⟨x, hx, hb⟩ := get_at a0 hn
      have hn1 : ((n : Int) + 1) = ((n + 1 : Nat) : Int) := rfl
      have hle := cN_le (A.take n) k i
      have hlt : (A.take n).length ≤ n := by rw [List.length_take]; omega
      simp only [cN_take k i hn, hx]
      unfold lcB
      by_cases c : x.1 = k
      · by_cases c2 : x.2.1 = i
        · simp (disch := (first | omega | (simp only [List.length_append, List.length_cons, List.length_nil, List.nil_append, List.length_take, List.length_drop]; omega))) only [↓bindO_some, ↓bindO_none, ↓joinO_inl, ↓joinO_inr, ↓joinO_none, ↓outO_some, ↓outO_none, ↓cond_true, ↓cond_false, ↓cond_and, ↓cond_or, ↓cond_not, ↓cond_ite, ↓if_pos, ↓if_neg, ↓if_true, ↓if_false, List.take_length, Nat.le_refl, Bool.not_true, Bool.not_false, if_pos, if_neg, ↓hb, wrap_i64', hn1, c, c2, and_self]
          rfl
        · simp (disch := (first | omega | (simp only [List.length_append, List.length_cons, List.length_nil, List.nil_append, List.length_take, List.length_drop]; omega))) only [↓bindO_some, ↓bindO_none, ↓joinO_inl, ↓joinO_inr, ↓joinO_none, ↓outO_some, ↓outO_none, ↓cond_true, ↓cond_false, ↓cond_and, ↓cond_or, ↓cond_not, ↓cond_ite, ↓if_pos, ↓if_neg, ↓if_true, ↓if_false, List.take_length, Nat.le_refl, Bool.not_true, Bool.not_false, if_pos, if_neg, ↓hb, wrap_i64', hn1, c, c2, and_false, Nat.add_zero]
      · simp (disch := (first | omega | (simp only [List.length_append, List.length_cons, List.length_nil, List.nil_append, List.length_take, List.length_drop]; omega))) only [↓bindO_some, ↓bindO_none, ↓joinO_inl, ↓joinO_inr, ↓joinO_none, ↓outO_some, ↓outO_none, ↓cond_true, ↓cond_false, ↓cond_and, ↓cond_or, ↓cond_not, ↓cond_ite, ↓if_pos, ↓if_neg, ↓if_true, ↓if_false, List.take_length, Nat.le_refl, Bool.not_true, Bool.not_false, if_pos, if_neg, ↓hb, wrap_i64', hn1, c, false_and, Nat.add_zero]
    · unfold lcB
      simp (disch := (first | omega | (simp only [List.length_append, List.length_cons, List.length_nil, List.nil_append, List.length_take, List.length_drop]; omega))) only [↓bindO_some, ↓bindO_none, ↓joinO_inl, ↓joinO_inr, ↓joinO_none, ↓outO_some, ↓outO_none, ↓cond_true, ↓cond_false, ↓cond_and, ↓cond_or, ↓cond_not, ↓cond_ite, ↓if_pos, ↓if_neg, ↓if_true, ↓if_false, List.take_length, Nat.le_refl, Bool.not_true, Bool.not_false, if_neg]
  rw [e]; rfl
theorem one_j (a1 : List Tg) (a2 : List In) : dialtonelaw23_ForkOne (a1, a2) = some true := by
  rw [one_eq]
  rcases run_j a1 a2 with ⟨F, e⟩ | ⟨⟨l, w, b3, b4, b5⟩, A, tk, e, hR, hA, hF, ht⟩
  · simp only [e, ↓bindO_some, ↓bindO_none, ↓joinO_inl, ↓joinO_inr, ↓joinO_none, ↓outO_some, ↓outO_none, ↓cond_true, ↓cond_false, ↓cond_and, ↓cond_or, ↓cond_not, ↓cond_ite, ↓if_pos, ↓if_neg, ↓if_true, ↓if_false, List.take_length, Nat.le_refl, Bool.not_true, Bool.not_false]
  · obtain ⟨hv, hN, hI⟩ := hR.inv
    have hl : l.length ≤ 16 := hF
    have hfa : aL A 4 + aL A 6 = b1 b5 := hI.fa
    have hb5 := b1_le b5
    have hw : IntKind.wrap .i64 (((aL A 4 : Nat) : Int) + ((aL A 6 : Nat) : Int)) = ((b1 b5 : Nat) : Int) := by rw [wrap_i64' (by omega)]; omega
    have hloop : loopO (loB l w A) (0 : Int) = some (.inl ()) := by
      refine loopO_from (fun n => ((n : Nat) : Int)) l.length rfl (fun n hn => ?_) ?_
      · obtain ⟨x, hx, hb⟩ := get_at d0 hn
        have hn1 : ((n : Int) + 1) = ((n + 1 : Nat) : Int) := rfl
        have hBI : BI (l.getD n d0).2.2.1 (l.getD n d0).2.2.2 w n (cN A 4 n) (cN A 5 n) (cN A 2 n) (rn tk n) (b1 b4) := hI.br n hn
        rw [hx] at hBI
        have z4 := cN_le A 4 n
        have z5 := cN_le A 5 n
        unfold BI at hBI
        unfold loB
        have hq : ((decide (((cN A 4 n : Nat) : Int) = 1)) != (decide (w = (n : Int)))) = false := by
          rw [bne_eq_false_iff_eq]
          exact decide_eq_decide.2 (by omega)
        by_cases c1 : x.2.2.1 = 5
        · by_cases c2 : x.2.2.2 < 300
          · have hs : (((cN A 4 n : Nat) : Int) + ((cN A 5 n : Nat) : Int)) = 1 := by omega
            simp (disch := (first | omega | (simp only [List.length_append, List.length_cons, List.length_nil, List.nil_append, List.length_take, List.length_drop]; omega))) only [↓bindO_some, ↓bindO_none, ↓joinO_inl, ↓joinO_inr, ↓joinO_none, ↓outO_some, ↓outO_none, ↓cond_true, ↓cond_false, ↓cond_and, ↓cond_or, ↓cond_not, ↓cond_ite, ↓if_pos, ↓if_neg, ↓if_true, ↓if_false, List.take_length, Nat.le_refl, Bool.not_true, Bool.not_false, if_pos, if_neg, ↓hb, ↓count_b _ _ _ (show A.length ≤ 5000 by omega), c1, c2, hs, hq, wrap_i64', hn1, decide_true]
          · have hs : (((cN A 4 n : Nat) : Int) + ((cN A 5 n : Nat) : Int)) = 0 := by omega
            simp (disch := (first | omega | (simp only [List.length_append, List.length_cons, List.length_nil, List.nil_append, List.length_take, List.length_drop]; omega))) only [↓bindO_some, ↓bindO_none, ↓joinO_inl, ↓joinO_inr, ↓joinO_none, ↓outO_some, ↓outO_none, ↓cond_true, ↓cond_false, ↓cond_and, ↓cond_or, ↓cond_not, ↓cond_ite, ↓if_pos, ↓if_neg, ↓if_true, ↓if_false, List.take_length, Nat.le_refl, Bool.not_true, Bool.not_false, if_pos, if_neg, ↓hb, ↓count_b _ _ _ (show A.length ≤ 5000 by omega), c1, c2, hs, hq, wrap_i64', hn1, decide_false]
        · have hs : (((cN A 4 n : Nat) : Int) + ((cN A 5 n : Nat) : Int)) = 0 := by omega
          simp (disch := (first | omega | (simp only [List.length_append, List.length_cons, List.length_nil, List.nil_append, List.length_take, List.length_drop]; omega))) only [↓bindO_some, ↓bindO_none, ↓joinO_inl, ↓joinO_inr, ↓joinO_none, ↓outO_some, ↓outO_none, ↓cond_true, ↓cond_false, ↓cond_and, ↓cond_or, ↓cond_not, ↓cond_ite, ↓if_pos, ↓if_neg, ↓if_true, ↓if_false, List.take_length, Nat.le_refl, Bool.not_true, Bool.not_false, if_pos, if_neg, ↓hb, ↓count_b _ _ _ (show A.length ≤ 5000 by omega), c1, hs, hq, wrap_i64', hn1, decide_false]
      · unfold loB
        simp (disch := (first | omega | (simp only [List.length_append, List.length_cons, List.length_nil, List.nil_append, List.length_take, List.length_drop]; omega))) only [↓bindO_some, ↓bindO_none, ↓joinO_inl, ↓joinO_inr, ↓joinO_none, ↓outO_some, ↓outO_none, ↓cond_true, ↓cond_false, ↓cond_and, ↓cond_or, ↓cond_not, ↓cond_ite, ↓if_pos, ↓if_neg, ↓if_true, ↓if_false, List.take_length, Nat.le_refl, Bool.not_true, Bool.not_false, if_neg]
    have hA5 : A.length ≤ 5000 := by omega
    simp only [e, ↓bindO_some, ↓bindO_none, ↓joinO_inl, ↓joinO_inr, ↓joinO_none, ↓outO_some, ↓outO_none, ↓cond_true, ↓cond_false, ↓cond_and, ↓cond_or, ↓cond_not, ↓cond_ite, ↓if_pos, ↓if_neg, ↓if_true, ↓if_false, List.take_length, Nat.le_refl, Bool.not_true, Bool.not_false, all_b _ _ hA5, hw, any_j l w b3 b4 b5 (by omega)]
    by_cases ho : 0 ≤ fdx Op l
    · simp (disch := omega) only [↓bindO_some, ↓bindO_none, ↓joinO_inl, ↓joinO_inr, ↓joinO_none, ↓outO_some, ↓outO_none, ↓cond_true, ↓cond_false, ↓cond_and, ↓cond_or, ↓cond_not, ↓cond_ite, ↓if_pos, ↓if_neg, ↓if_true, ↓if_false, List.take_length, Nat.le_refl, Bool.not_true, Bool.not_false, if_pos, if_neg, ho, decide_true, hloop]
    · have h5 : b5 = true := by
        cases b5 with
        | true => rfl
        | false =>
          have := fdx_neg.1 (show fdx Op l < 0 by omega)
          exact (this (hv.nd rfl)).elim
      rw [h5, b1_t]
      simp (disch := omega) only [↓bindO_some, ↓bindO_none, ↓joinO_inl, ↓joinO_inr, ↓joinO_none, ↓outO_some, ↓outO_none, ↓cond_true, ↓cond_false, ↓cond_and, ↓cond_or, ↓cond_not, ↓cond_ite, ↓if_pos, ↓if_neg, ↓if_true, ↓if_false, List.take_length, Nat.le_refl, Bool.not_true, Bool.not_false, if_pos, if_neg, ho, decide_false, hloop]
theorem one_main (a : List Tg × List In) (_ : WfIs [(.tmp 0 false [(.dat (.list (.pair .str (.int .i64))))]), (.tmp 1 false [(.dat (.list (.pair (.int .u8) (.pair (.int .i64) (.int .i64)))))])] a) : dialtonelaw23_ForkOne a = some true := one_j a.1 a.2
end Go.Proofs.Ytheicchelhjcjaa
