import Derived.Test.YtheicchelhjcjaaJ24p
set_option linter.unusedVariables false
set_option linter.unusedSimpArgs false
set_option maxRecDepth 100000
namespace Go.Proofs.Ytheicchelhjcjaa
open Go.RowKit
noncomputable def svB (x10 : List In) : (Int × Bool) → Option ((Int × Bool) ⊕ (Bool ⊕ Bool)) :=
(fun (v13, v14) =>
 bif (decide (v13 < (((List.length x10) : Nat) : Int))) then
 bif v14 then
 some (Sum.inl ((Go.IntKind.wrap .i64 (v13 + (1 : Int))), Bool.true))
 else
 bif (decide (((0 : Int) ≤ v13) ∧ (v13 < (((List.length x10) : Nat) : Int)))) then 
 bindO x10[(Int.toNat v13)]? fun x16 =>
 bif (decide (x16.1 = (4 : Int))) then
 some (Sum.inl ((Go.IntKind.wrap .i64 (v13 + (1 : Int))), Bool.true))
 else
 bif (decide (((0 : Int) ≤ v13) ∧ (v13 < (((List.length x10) : Nat) : Int)))) then 
 bindO x10[(Int.toNat v13)]? fun x18 =>
 bif (decide (x18.1 = (2 : Int))) then
 bif (decide (((0 : Int) ≤ v13) ∧ (v13 < (((List.length x10) : Nat) : Int)))) then 
 bindO x10[(Int.toNat v13)]? fun x19 =>
 some (Sum.inl ((Go.IntKind.wrap .i64 (v13 + (1 : Int))), (decide (x19.2.2 ≥ (600 : Int)))))
 else none
 else
 some (Sum.inl ((Go.IntKind.wrap .i64 (v13 + (1 : Int))), Bool.false))
 else none
 else none
 else
 outO (some (Sum.inl v14)))
noncomputable def srB {γ : Type} (x10 : List In) (v23 : Int) : (Int × Bool) → Option ((Int × Bool) ⊕ ((Int × Bool) ⊕ γ)) :=
(fun (v24, v25) =>
 bif (decide (v24 < (((List.length x10) : Nat) : Int))) then
 bif v25 then
 some (Sum.inl ((Go.IntKind.wrap .i64 (v24 + (1 : Int))), Bool.true))
 else
 bif (decide (((0 : Int) ≤ v24) ∧ (v24 < (((List.length x10) : Nat) : Int)))) then 
 bindO x10[(Int.toNat v24)]? fun x27 =>
 bif (decide (x27.1 = (1 : Int))) then
 bif (decide (((0 : Int) ≤ v24) ∧ (v24 < (((List.length x10) : Nat) : Int)))) then 
 bindO x10[(Int.toNat v24)]? fun x28 =>
 some (Sum.inl ((Go.IntKind.wrap .i64 (v24 + (1 : Int))), (decide (x28.2.1 = v23))))
 else none
 else
 some (Sum.inl ((Go.IntKind.wrap .i64 (v24 + (1 : Int))), Bool.false))
 else none
 else
 outO (some (Sum.inl (v24, v25))))
noncomputable def s1B (x4 : List Br) (x9 : List Ac) (x10 : List In) : Int → Option (Int ⊕ (Unit ⊕ Bool)) :=
(fun v23 =>
 bif (decide (v23 < (((List.length x4) : Nat) : Int))) then
 joinO (joinO (loopO (srB x10 v23) ((0 : Int), Bool.false)) fun (v31, v32) =>
 bindO (dialtonelaw23_count (x9, ((2 : Int), v23))) fun x33 =>
 bif (decide (x33 > (1 : Int))) then
 outO (outO (outO (some Bool.false)))
 else
 bif (decide (x33 = (1 : Int))) then
 bif (!v32) then
 outO (outO (outO (some Bool.false)))
 else
 bif v32 then
 bif (decide (((0 : Int) ≤ v23) ∧ (v23 < (((List.length x4) : Nat) : Int)))) then 
 bindO x4[(Int.toNat v23)]? fun x34 =>
 bif (decide (x34.2.2.1 ≠ (5 : Int))) then
 bif (decide (x33 ≠ (1 : Int))) then
 outO (outO (outO (some Bool.false)))
 else
 some (Sum.inl (x33, v32))
 else
 some (Sum.inl (x33, v32))
 else none
 else
 some (Sum.inl (x33, v32))
 else
 bif v32 then
 bif (decide (((0 : Int) ≤ v23) ∧ (v23 < (((List.length x4) : Nat) : Int)))) then 
 bindO x4[(Int.toNat v23)]? fun x35 =>
 bif (decide (x35.2.2.1 ≠ (5 : Int))) then
 bif (decide (x33 ≠ (1 : Int))) then
 outO (outO (outO (some Bool.false)))
 else
 some (Sum.inl (x33, v32))
 else
 some (Sum.inl (x33, v32))
 else none
 else
 some (Sum.inl (x33, v32))) fun (v36, v37) =>
 some (Sum.inl (Go.IntKind.wrap .i64 (v23 + (1 : Int))))
 else
 outO (some (Sum.inl ())))
noncomputable def s2B (x4 : List Br) (x9 : List Ac) (x10 : List In) (x40 : Int) : Int → Option (Int ⊕ (Unit ⊕ Bool)) :=
(fun v41 =>
 bif (decide (v41 < (((List.length x4) : Nat) : Int))) then
 joinO (joinO (loopO (srB x10 v41) ((0 : Int), Bool.false)) fun (v49, v50) =>
 bindO (dialtonelaw23_count (x9, ((2 : Int), v41))) fun x51 =>
 bif (decide (x51 > (1 : Int))) then
 outO (outO (outO (some Bool.false)))
 else
 bif (decide (x51 = (1 : Int))) then
 bif (!v50) then
 outO (outO (outO (some Bool.false)))
 else
 bif (decide (x40 > (0 : Int))) then
 bif v50 then
 bif (decide (((0 : Int) ≤ v41) ∧ (v41 < (((List.length x4) : Nat) : Int)))) then 
 bindO x4[(Int.toNat v41)]? fun x52 =>
 bif (decide (x52.2.2.1 ≠ (5 : Int))) then
 bif (decide (x51 ≠ (1 : Int))) then
 outO (outO (outO (some Bool.false)))
 else
 bif (!(decide (x40 > (0 : Int)))) then
 bif (decide (x51 ≠ (0 : Int))) then
 outO (outO (outO (some Bool.false)))
 else
 some (Sum.inl (x51, v50))
 else
 some (Sum.inl (x51, v50))
 else
 bif (!(decide (x40 > (0 : Int)))) then
 bif (decide (x51 ≠ (0 : Int))) then
 outO (outO (outO (some Bool.false)))
 else
 some (Sum.inl (x51, v50))
 else
 some (Sum.inl (x51, v50))
 else none
 else
 bif (!(decide (x40 > (0 : Int)))) then
 bif (decide (x51 ≠ (0 : Int))) then
 outO (outO (outO (some Bool.false)))
 else
 some (Sum.inl (x51, v50))
 else
 some (Sum.inl (x51, v50))
 else
 bif (!(decide (x40 > (0 : Int)))) then
 bif (decide (x51 ≠ (0 : Int))) then
 outO (outO (outO (some Bool.false)))
 else
 some (Sum.inl (x51, v50))
 else
 some (Sum.inl (x51, v50))
 else
 bif (decide (x40 > (0 : Int))) then
 bif v50 then
 bif (decide (((0 : Int) ≤ v41) ∧ (v41 < (((List.length x4) : Nat) : Int)))) then 
 bindO x4[(Int.toNat v41)]? fun x53 =>
 bif (decide (x53.2.2.1 ≠ (5 : Int))) then
 bif (decide (x51 ≠ (1 : Int))) then
 outO (outO (outO (some Bool.false)))
 else
 bif (!(decide (x40 > (0 : Int)))) then
 bif (decide (x51 ≠ (0 : Int))) then
 outO (outO (outO (some Bool.false)))
 else
 some (Sum.inl (x51, v50))
 else
 some (Sum.inl (x51, v50))
 else
 bif (!(decide (x40 > (0 : Int)))) then
 bif (decide (x51 ≠ (0 : Int))) then
 outO (outO (outO (some Bool.false)))
 else
 some (Sum.inl (x51, v50))
 else
 some (Sum.inl (x51, v50))
 else none
 else
 bif (!(decide (x40 > (0 : Int)))) then
 bif (decide (x51 ≠ (0 : Int))) then
 outO (outO (outO (some Bool.false)))
 else
 some (Sum.inl (x51, v50))
 else
 some (Sum.inl (x51, v50))
 else
 bif (!(decide (x40 > (0 : Int)))) then
 bif (decide (x51 ≠ (0 : Int))) then
 outO (outO (outO (some Bool.false)))
 else
 some (Sum.inl (x51, v50))
 else
 some (Sum.inl (x51, v50))) fun (v54, v55) =>
 some (Sum.inl (Go.IntKind.wrap .i64 (v41 + (1 : Int))))
 else
 outO (some (Sum.inl ())))
theorem stops_eq (a1 : List Tg) (a2 : List In) : dialtonelaw23_ForkStops (a1, a2) =

  bindO (dialtonelaw23_run (a1, a2)) fun ((x4, (x5, (x6, (x7, x8)))), (x9, (x10, x11))) =>
  bif (!x11) then
   some Bool.true
  else
   joinO (loopO (svB x10) ((0 : Int), Bool.false)) fun v22 =>
   bif v22 then
    joinO (loopO (s1B x4 x9 x10) (0 : Int)) fun _ =>
    some Bool.true
   else
    bindO (dialtonelaw23_all (x9, (4 : Int))) fun x40 =>
    joinO (loopO (s2B x4 x9 x10 x40) (0 : Int)) fun _ =>
    some Bool.true := rfl
theorem ovn_take {A : List In} {n : Nat} (h : n < A.length) : ovn (A.take (n + 1)) = ovn (A.take n) + if (A.getD n i0).1 = 4 ∨ ((A.getD n i0).1 = 2 ∧ (A.getD n i0).2.2 ≥ 600) then 1 else 0 := by
  rw [take_get i0 h, ovn_app, ovn_one]
theorem rn_take {A : List In} {n : Nat} (i : Int) (h : n < A.length) : rn (A.take (n + 1)) i = rn (A.take n) i + if (A.getD n i0).1 = 1 ∧ (A.getD n i0).2.1 = i then 1 else 0 := by
  rw [take_get i0 h, rn_app, rn_one]
theorem sv_j (tk : List In) (hl : tk.length ≤ 1000) : loopO (svB tk) ((0 : Int), false) = some (.inl (decide (0 < ovn tk))) := by
  refine loopO_from (fun n => (((n : Nat) : Int), decide (0 < ovn (tk.take n)))) tk.length rfl (fun n hn => ?_) ?_
  · obtain ⟨x, hx, hb⟩ := get_at i0 hn
    have hn1 : ((n : Int) + 1) = ((n + 1 : Nat) : Int) := rfl
    simp only [ovn_take hn, hx]
    unfold svB
    by_cases c0 : 0 < ovn (tk.take n)
    · have c0' : 0 < ovn (tk.take n) + if x.1 = 4 ∨ x.1 = 2 ∧ x.2.2 ≥ 600 then 1 else 0 := by omega
      simp (disch := (first | omega | (simp only [List.length_append, List.length_cons, List.length_nil, List.nil_append, List.length_take, List.length_drop]; omega))) only [↓bindO_some, ↓bindO_none, ↓joinO_inl, ↓joinO_inr, ↓joinO_none, ↓outO_some, ↓outO_none, ↓cond_true, ↓cond_false, ↓cond_and, ↓cond_or, ↓cond_not, ↓cond_ite, ↓if_pos, ↓if_neg, ↓if_true, ↓if_false, List.take_length, Nat.le_refl, Bool.not_true, Bool.not_false, if_pos, if_neg, ↓hb, wrap_i64', hn1, c0, c0', decide_true]
    · have c0' : ovn (tk.take n) = 0 := by omega
      simp only [c0', Nat.lt_irrefl, Nat.zero_add, decide_false]
      by_cases c1 : x.1 = 4
      · simp (disch := (first | omega | (simp only [List.length_append, List.length_cons, List.length_nil, List.nil_append, List.length_take, List.length_drop]; omega))) only [↓bindO_some, ↓bindO_none, ↓joinO_inl, ↓joinO_inr, ↓joinO_none, ↓outO_some, ↓outO_none, ↓cond_true, ↓cond_false, ↓cond_and, ↓cond_or, ↓cond_not, ↓cond_ite, ↓if_pos, ↓if_neg, ↓if_true, ↓if_false, List.take_length, Nat.le_refl, Bool.not_true, Bool.not_false, if_pos, if_neg, ↓hb, wrap_i64', hn1, c1, true_or, Nat.zero_lt_one, decide_true]
      · by_cases c2 : x.1 = 2
        · by_cases c3 : x.2.2 ≥ 600
          · simp (disch := (first | omega | (simp only [List.length_append, List.length_cons, List.length_nil, List.nil_append, List.length_take, List.length_drop]; omega))) only [↓bindO_some, ↓bindO_none, ↓joinO_inl, ↓joinO_inr, ↓joinO_none, ↓outO_some, ↓outO_none, ↓cond_true, ↓cond_false, ↓cond_and, ↓cond_or, ↓cond_not, ↓cond_ite, ↓if_pos, ↓if_neg, ↓if_true, ↓if_false, List.take_length, Nat.le_refl, Bool.not_true, Bool.not_false, if_pos, if_neg, ↓hb, wrap_i64', hn1, c2, c3, and_self, or_true, Nat.zero_lt_one, decide_true]
          · have c4 : ¬ ((2 : Int) = 4 ∨ (2 : Int) = 2 ∧ x.2.2 ≥ 600) := by omega
            simp (disch := (first | omega | (simp only [List.length_append, List.length_cons, List.length_nil, List.nil_append, List.length_take, List.length_drop]; omega))) only [↓bindO_some, ↓bindO_none, ↓joinO_inl, ↓joinO_inr, ↓joinO_none, ↓outO_some, ↓outO_none, ↓cond_true, ↓cond_false, ↓cond_and, ↓cond_or, ↓cond_not, ↓cond_ite, ↓if_pos, ↓if_neg, ↓if_true, ↓if_false, List.take_length, Nat.le_refl, Bool.not_true, Bool.not_false, if_pos, if_neg, ↓hb, wrap_i64', hn1, c2, c3, c4, Nat.lt_irrefl, decide_false]
        · have c4 : ¬ (x.1 = 4 ∨ x.1 = 2 ∧ x.2.2 ≥ 600) := by omega
          simp (disch := (first | omega | (simp only [List.length_append, List.length_cons, List.length_nil, List.nil_append, List.length_take, List.length_drop]; omega))) only [↓bindO_some, ↓bindO_none, ↓joinO_inl, ↓joinO_inr, ↓joinO_none, ↓outO_some, ↓outO_none, ↓cond_true, ↓cond_false, ↓cond_and, ↓cond_or, ↓cond_not, ↓cond_ite, ↓if_pos, ↓if_neg, ↓if_true, ↓if_false, List.take_length, Nat.le_refl, Bool.not_true, Bool.not_false, if_pos, if_neg, ↓hb, wrap_i64', hn1, c4, Nat.lt_irrefl, decide_false]
  · rw [List.take_length]
    unfold svB
    simp (disch := (first | omega | (simp only [List.length_append, List.length_cons, List.length_nil, List.nil_append, List.length_take, List.length_drop]; omega))) only [↓bindO_some, ↓bindO_none, ↓joinO_inl, ↓joinO_inr, ↓joinO_none, ↓outO_some, ↓outO_none, ↓cond_true, ↓cond_false, ↓cond_and, ↓cond_or, ↓cond_not, ↓cond_ite, ↓if_pos, ↓if_neg, ↓if_true, ↓if_false, List.take_length, Nat.le_refl, Bool.not_true, Bool.not_false, if_neg]
theorem sr_j {γ : Type} (tk : List In) (i : Int) (hl : tk.length ≤ 1000) : loopO (srB (γ := γ) tk i) ((0 : Int), false) = some (.inl ((tk.length : Int), decide (0 < rn tk i))) := by
  refine loopO_from (fun n => (((n : Nat) : Int), decide (0 < rn (tk.take n) i))) tk.length rfl (fun n hn => ?_) ?_
  · obtain ⟨x, hx, hb⟩ := get_at i0 hn
    have hn1 : ((n : Int) + 1) = ((n + 1 : Nat) : Int) := rfl
    simp only [rn_take i hn, hx]
    unfold srB
    by_cases c0 : 0 < rn (tk.take n) i
    · have c0' : 0 < rn (tk.take n) i + if x.1 = 1 ∧ x.2.1 = i then 1 else 0 := by omega
      simp (disch := (first | omega | (simp only [List.length_append, List.length_cons, List.length_nil, List.nil_append, List.length_take, List.length_drop]; omega))) only [↓bindO_some, ↓bindO_none, ↓joinO_inl, ↓joinO_inr, ↓joinO_none, ↓outO_some, ↓outO_none, ↓cond_true, ↓cond_false, ↓cond_and, ↓cond_or, ↓cond_not, ↓cond_ite, ↓if_pos, ↓if_neg, ↓if_true, ↓if_false, List.take_length, Nat.le_refl, Bool.not_true, Bool.not_false, if_pos, if_neg, ↓hb, wrap_i64', hn1, c0, c0', decide_true]
    · have c0' : rn (tk.take n) i = 0 := by omega
      simp only [c0', Nat.lt_irrefl, Nat.zero_add, decide_false]
      by_cases c1 : x.1 = 1
      · by_cases c2 : x.2.1 = i
        · simp (disch := (first | omega | (simp only [List.length_append, List.length_cons, List.length_nil, List.nil_append, List.length_take, List.length_drop]; omega))) only [↓bindO_some, ↓bindO_none, ↓joinO_inl, ↓joinO_inr, ↓joinO_none, ↓outO_some, ↓outO_none, ↓cond_true, ↓cond_false, ↓cond_and, ↓cond_or, ↓cond_not, ↓cond_ite, ↓if_pos, ↓if_neg, ↓if_true, ↓if_false, List.take_length, Nat.le_refl, Bool.not_true, Bool.not_false, if_pos, if_neg, ↓hb, wrap_i64', hn1, c1, c2, and_self, Nat.zero_lt_one, decide_true]
        · simp (disch := (first | omega | (simp only [List.length_append, List.length_cons, List.length_nil, List.nil_append, List.length_take, List.length_drop]; omega))) only [↓bindO_some, ↓bindO_none, ↓joinO_inl, ↓joinO_inr, ↓joinO_none, ↓outO_some, ↓outO_none, ↓cond_true, ↓cond_false, ↓cond_and, ↓cond_or, ↓cond_not, ↓cond_ite, ↓if_pos, ↓if_neg, ↓if_true, ↓if_false, List.take_length, Nat.le_refl, Bool.not_true, Bool.not_false, if_pos, if_neg, ↓hb, wrap_i64', hn1, c1, c2, and_false, Nat.lt_irrefl, decide_false]
      · simp (disch := (first | omega | (simp only [List.length_append, List.length_cons, List.length_nil, List.nil_append, List.length_take, List.length_drop]; omega))) only [↓bindO_some, ↓bindO_none, ↓joinO_inl, ↓joinO_inr, ↓joinO_none, ↓outO_some, ↓outO_none, ↓cond_true, ↓cond_false, ↓cond_and, ↓cond_or, ↓cond_not, ↓cond_ite, ↓if_pos, ↓if_neg, ↓if_true, ↓if_false, List.take_length, Nat.le_refl, Bool.not_true, Bool.not_false, if_pos, if_neg, ↓hb, wrap_i64', hn1, c1, false_and, Nat.lt_irrefl, decide_false]
  · rw [List.take_length]
    unfold srB
    simp (disch := (first | omega | (simp only [List.length_append, List.length_cons, List.length_nil, List.nil_append, List.length_take, List.length_drop]; omega))) only [↓bindO_some, ↓bindO_none, ↓joinO_inl, ↓joinO_inr, ↓joinO_none, ↓outO_some, ↓outO_none, ↓cond_true, ↓cond_false, ↓cond_and, ↓cond_or, ↓cond_not, ↓cond_ite, ↓if_pos, ↓if_neg, ↓if_true, ↓if_false, List.take_length, Nat.le_refl, Bool.not_true, Bool.not_false, if_neg]
theorem stops_j (a1 : List Tg) (a2 : List In) : dialtonelaw23_ForkStops (a1, a2) = some true := by
  rw [stops_eq]
  rcases run_j a1 a2 with ⟨F, e⟩ | ⟨⟨l, w, b3, b4, b5⟩, A, tk, e, hR, hA, hF, ht⟩
  · simp only [e, ↓bindO_some, ↓bindO_none, ↓joinO_inl, ↓joinO_inr, ↓joinO_none, ↓outO_some, ↓outO_none, ↓cond_true, ↓cond_false, ↓cond_and, ↓cond_or, ↓cond_not, ↓cond_ite, ↓if_pos, ↓if_neg, ↓if_true, ↓if_false, List.take_length, Nat.le_refl, Bool.not_true, Bool.not_false]
  · obtain ⟨hv, hN, hI⟩ := hR.inv
    have hl : l.length ≤ 16 := hF
    have ht2 : tk.length ≤ 1000 := by omega
    have hA5 : A.length ≤ 5000 := by omega
    have hov : b4 = true ↔ 0 < ovn tk + aL A 4 := hI.ov
    simp only [e, ↓bindO_some, ↓bindO_none, ↓joinO_inl, ↓joinO_inr, ↓joinO_none, ↓outO_some, ↓outO_none, ↓cond_true, ↓cond_false, ↓cond_and, ↓cond_or, ↓cond_not, ↓cond_ite, ↓if_pos, ↓if_neg, ↓if_true, ↓if_false, List.take_length, Nat.le_refl, Bool.not_true, Bool.not_false, sv_j tk ht2]
    have hB : ∀ n : Nat, n < l.length → ∃ x, l.getD n d0 = x ∧ (∀ {β : Type} (f : Br → Option β), bindO l[Int.toNat (n : Int)]? f = f x) ∧ cN A 2 n ≤ 1 ∧ (cN A 2 n = 1 → 0 < rn tk n ∧ b4 = true) ∧ (b4 = true → 0 < rn tk n → x.2.2.1 ≠ 5 → cN A 2 n = 1) := fun n hn => by
      obtain ⟨x, hx, hb⟩ := get_at d0 hn
      have hBI : BI (l.getD n d0).2.2.1 (l.getD n d0).2.2.2 w n (cN A 4 n) (cN A 5 n) (cN A 2 n) (rn tk n) (b1 b4) := hI.br n hn
      have hb3 := (hv.br n hn).2.2
      rw [hx] at hBI
      have hb3 : B3 w b3 b4 b5 (l.getD n d0) := hb3
      rw [hx] at hb3
      unfold BI at hBI
      refine ⟨x, hx, hb, by omega, fun g => ⟨by omega, ?_⟩, fun g1 g2 g3 => ?_⟩
      · cases b4 with
        | true => rfl
        | false => rw [b1_f] at hBI; omega
      · have := hb3.li g1
        omega
    by_cases c0 : 0 < ovn tk
    · have h4 : b4 = true := hov.2 (by omega)
      simp only [↓bindO_some, ↓bindO_none, ↓joinO_inl, ↓joinO_inr, ↓joinO_none, ↓outO_some, ↓outO_none, ↓cond_true, ↓cond_false, ↓cond_and, ↓cond_or, ↓cond_not, ↓cond_ite, ↓if_pos, ↓if_neg, ↓if_true, ↓if_false, List.take_length, Nat.le_refl, Bool.not_true, Bool.not_false, c0, decide_true]
      have hloop : loopO (s1B l A tk) (0 : Int) = some (.inl ()) := by
        refine loopO_from (fun n => ((n : Nat) : Int)) l.length rfl (fun n hn => ?_) ?_
        · obtain ⟨x, hx, hb, q1, q2, q3⟩ := hB n hn
          have q3 := q3 h4
          have hn1 : ((n : Int) + 1) = ((n + 1 : Nat) : Int) := rfl
          unfold s1B
          simp only [sr_j tk (n : Int) ht2]
          by_cases c2 : cN A 2 n = 1
          · have r := (q2 c2).1
            by_cases c5 : x.2.2.1 = 5
            · simp (disch := (first | omega | (simp only [List.length_append, List.length_cons, List.length_nil, List.nil_append, List.length_take, List.length_drop]; omega))) only [↓bindO_some, ↓bindO_none, ↓joinO_inl, ↓joinO_inr, ↓joinO_none, ↓outO_some, ↓outO_none, ↓cond_true, ↓cond_false, ↓cond_and, ↓cond_or, ↓cond_not, ↓cond_ite, ↓if_pos, ↓if_neg, ↓if_true, ↓if_false, List.take_length, Nat.le_refl, Bool.not_true, Bool.not_false, if_pos, if_neg, ↓hb, ↓count_b _ _ _ hA5, c2, c5, r, decide_true, wrap_i64', hn1]
            · simp (disch := (first | omega | (simp only [List.length_append, List.length_cons, List.length_nil, List.nil_append, List.length_take, List.length_drop]; omega))) only [↓bindO_some, ↓bindO_none, ↓joinO_inl, ↓joinO_inr, ↓joinO_none, ↓outO_some, ↓outO_none, ↓cond_true, ↓cond_false, ↓cond_and, ↓cond_or, ↓cond_not, ↓cond_ite, ↓if_pos, ↓if_neg, ↓if_true, ↓if_false, List.take_length, Nat.le_refl, Bool.not_true, Bool.not_false, if_pos, if_neg, ↓hb, ↓count_b _ _ _ hA5, c2, c5, r, decide_true, wrap_i64', hn1]
          · have c3 : cN A 2 n = 0 := by omega
            by_cases r : 0 < rn tk n
            · have c5 : x.2.2.1 = 5 := Classical.byContradiction fun g => by have := q3 r g; omega
              simp (disch := (first | omega | (simp only [List.length_append, List.length_cons, List.length_nil, List.nil_append, List.length_take, List.length_drop]; omega))) only [↓bindO_some, ↓bindO_none, ↓joinO_inl, ↓joinO_inr, ↓joinO_none, ↓outO_some, ↓outO_none, ↓cond_true, ↓cond_false, ↓cond_and, ↓cond_or, ↓cond_not, ↓cond_ite, ↓if_pos, ↓if_neg, ↓if_true, ↓if_false, List.take_length, Nat.le_refl, Bool.not_true, Bool.not_false, if_pos, if_neg, ↓hb, ↓count_b _ _ _ hA5, c3, c5, r, decide_true, wrap_i64', hn1]
            · simp (disch := (first | omega | (simp only [List.length_append, List.length_cons, List.length_nil, List.nil_append, List.length_take, List.length_drop]; omega))) only [↓bindO_some, ↓bindO_none, ↓joinO_inl, ↓joinO_inr, ↓joinO_none, ↓outO_some, ↓outO_none, ↓cond_true, ↓cond_false, ↓cond_and, ↓cond_or, ↓cond_not, ↓cond_ite, ↓if_pos, ↓if_neg, ↓if_true, ↓if_false, List.take_length, Nat.le_refl, Bool.not_true, Bool.not_false, if_pos, if_neg, ↓hb, ↓count_b _ _ _ hA5, c3, r, decide_false, wrap_i64', hn1]
        · unfold s1B
          simp (disch := (first | omega | (simp only [List.length_append, List.length_cons, List.length_nil, List.nil_append, List.length_take, List.length_drop]; omega))) only [↓bindO_some, ↓bindO_none, ↓joinO_inl, ↓joinO_inr, ↓joinO_none, ↓outO_some, ↓outO_none, ↓cond_true, ↓cond_false, ↓cond_and, ↓cond_or, ↓cond_not, ↓cond_ite, ↓if_pos, ↓if_neg, ↓if_true, ↓if_false, List.take_length, Nat.le_refl, Bool.not_true, Bool.not_false, if_neg]
      rw [hloop]; rfl
    · simp only [↓bindO_some, ↓bindO_none, ↓joinO_inl, ↓joinO_inr, ↓joinO_none, ↓outO_some, ↓outO_none, ↓cond_true, ↓cond_false, ↓cond_and, ↓cond_or, ↓cond_not, ↓cond_ite, ↓if_pos, ↓if_neg, ↓if_true, ↓if_false, List.take_length, Nat.le_refl, Bool.not_true, Bool.not_false, c0, decide_false, all_b _ _ hA5]
      have hloop : loopO (s2B l A tk ((aL A 4 : Nat) : Int)) (0 : Int) = some (.inl ()) := by
        refine loopO_from (fun n => ((n : Nat) : Int)) l.length rfl (fun n hn => ?_) ?_
        · obtain ⟨x, hx, hb, q1, q2, q3⟩ := hB n hn
          have hn1 : ((n : Int) + 1) = ((n + 1 : Nat) : Int) := rfl
          unfold s2B
          simp only [sr_j tk (n : Int) ht2]
          by_cases c2 : cN A 2 n = 1
          · obtain ⟨r, h4⟩ := q2 c2
            have q3 := q3 h4
            have h44 := hov.1 h4
            have hx40 : ((aL A 4 : Nat) : Int) > 0 := by omega
            by_cases c5 : x.2.2.1 = 5
            · simp (disch := (first | omega | (simp only [List.length_append, List.length_cons, List.length_nil, List.nil_append, List.length_take, List.length_drop]; omega))) only [↓bindO_some, ↓bindO_none, ↓joinO_inl, ↓joinO_inr, ↓joinO_none, ↓outO_some, ↓outO_none, ↓cond_true, ↓cond_false, ↓cond_and, ↓cond_or, ↓cond_not, ↓cond_ite, ↓if_pos, ↓if_neg, ↓if_true, ↓if_false, List.take_length, Nat.le_refl, Bool.not_true, Bool.not_false, if_pos, if_neg, ↓hb, ↓count_b _ _ _ hA5, c2, c5, r, hx40, decide_true, wrap_i64', hn1]
            · simp (disch := (first | omega | (simp only [List.length_append, List.length_cons, List.length_nil, List.nil_append, List.length_take, List.length_drop]; omega))) only [↓bindO_some, ↓bindO_none, ↓joinO_inl, ↓joinO_inr, ↓joinO_none, ↓outO_some, ↓outO_none, ↓cond_true, ↓cond_false, ↓cond_and, ↓cond_or, ↓cond_not, ↓cond_ite, ↓if_pos, ↓if_neg, ↓if_true, ↓if_false, List.take_length, Nat.le_refl, Bool.not_true, Bool.not_false, if_pos, if_neg, ↓hb, ↓count_b _ _ _ hA5, c2, c5, r, hx40, decide_true, wrap_i64', hn1]
          · have c3 : cN A 2 n = 0 := by omega
            by_cases hx40 : ((aL A 4 : Nat) : Int) > 0
            · have h4 : b4 = true := hov.2 (by omega)
              have q3 := q3 h4
              by_cases r : 0 < rn tk n
              · have c5 : x.2.2.1 = 5 := Classical.byContradiction fun g => by have := q3 r g; omega
                simp (disch := (first | omega | (simp only [List.length_append, List.length_cons, List.length_nil, List.nil_append, List.length_take, List.length_drop]; omega))) only [↓bindO_some, ↓bindO_none, ↓joinO_inl, ↓joinO_inr, ↓joinO_none, ↓outO_some, ↓outO_none, ↓cond_true, ↓cond_false, ↓cond_and, ↓cond_or, ↓cond_not, ↓cond_ite, ↓if_pos, ↓if_neg, ↓if_true, ↓if_false, List.take_length, Nat.le_refl, Bool.not_true, Bool.not_false, if_pos, if_neg, ↓hb, ↓count_b _ _ _ hA5, c3, c5, r, hx40, decide_true, wrap_i64', hn1]
              · simp (disch := (first | omega | (simp only [List.length_append, List.length_cons, List.length_nil, List.nil_append, List.length_take, List.length_drop]; omega))) only [↓bindO_some, ↓bindO_none, ↓joinO_inl, ↓joinO_inr, ↓joinO_none, ↓outO_some, ↓outO_none, ↓cond_true, ↓cond_false, ↓cond_and, ↓cond_or, ↓cond_not, ↓cond_ite, ↓if_pos, ↓if_neg, ↓if_true, ↓if_false, List.take_length, Nat.le_refl, Bool.not_true, Bool.not_false, if_pos, if_neg, ↓hb, ↓count_b _ _ _ hA5, c3, r, hx40, decide_true, decide_false, wrap_i64', hn1]
            · simp (disch := (first | omega | (simp only [List.length_append, List.length_cons, List.length_nil, List.nil_append, List.length_take, List.length_drop]; omega))) only [↓bindO_some, ↓bindO_none, ↓joinO_inl, ↓joinO_inr, ↓joinO_none, ↓outO_some, ↓outO_none, ↓cond_true, ↓cond_false, ↓cond_and, ↓cond_or, ↓cond_not, ↓cond_ite, ↓if_pos, ↓if_neg, ↓if_true, ↓if_false, List.take_length, Nat.le_refl, Bool.not_true, Bool.not_false, if_pos, if_neg, ↓hb, ↓count_b _ _ _ hA5, c3, hx40, decide_false, wrap_i64', hn1]
        · unfold s2B
          simp (disch := (first | omega | (simp only [List.length_append, List.length_cons, List.length_nil, List.nil_append, List.length_take, List.length_drop]; omega))) only [↓bindO_some, ↓bindO_none, ↓joinO_inl, ↓joinO_inr, ↓joinO_none, ↓outO_some, ↓outO_none, ↓cond_true, ↓cond_false, ↓cond_and, ↓cond_or, ↓cond_not, ↓cond_ite, ↓if_pos, ↓if_neg, ↓if_true, ↓if_false, List.take_length, Nat.le_refl, Bool.not_true, Bool.not_false, if_neg]
      rw [hloop]; rfl
theorem stops_main (a : List Tg × List In) (_ : WfIs [(.tmp 0 false [(.dat (.list (.pair .str (.int .i64))))]), (.tmp 1 false [(.dat (.list (.pair (.int .u8) (.pair (.int .i64) (.int .i64)))))])] a) : dialtonelaw23_ForkStops a = some true := stops_j a.1 a.2
end Go.Proofs.Ytheicchelhjcjaa
