import Derived.Test.YtheicchelhjcjaaJ2p
set_option linter.unusedVariables false
set_option linter.unusedSimpArgs false
set_option maxRecDepth 100000
namespace Go.Proofs.Ytheicchelhjcjaa
open Go.RowKit
abbrev Bs := Bool × (Int × (Bool × Int))
noncomputable def beB (a1 : List Br) : (Int × Bs) → Option ((Int × Bs) ⊕ (Bs ⊕ Int)) :=
(fun (v6, (v7, (v8, (v9, v10)))) =>
 bif (decide (v6 < (((List.length a1) : Nat) : Int))) then
 bif (decide (((0 : Int) ≤ v6) ∧ (v6 < (((List.length a1) : Nat) : Int)))) then 
 bindO a1[(Int.toNat v6)]? fun x11 =>
 bif (decide (x11.2.2.1 ≠ (5 : Int))) then
 some (Sum.inl ((Go.IntKind.wrap .i64 (v6 + (1 : Int))), (v7, (v8, (v9, v10)))))
 else
 bif (decide (x11.2.2.2 ≥ (600 : Int))) then
 bif (!v9) then
 some (Sum.inl ((Go.IntKind.wrap .i64 (v6 + (1 : Int))), (v7, (v8, (Bool.true, x11.2.2.2)))))
 else
 bif (decide (x11.2.2.2 < v10)) then
 some (Sum.inl ((Go.IntKind.wrap .i64 (v6 + (1 : Int))), (v7, (v8, (Bool.true, x11.2.2.2)))))
 else
 some (Sum.inl ((Go.IntKind.wrap .i64 (v6 + (1 : Int))), (v7, (v8, (Bool.true, v10)))))
 else
 bif (decide (x11.2.2.2 = (503 : Int))) then
 bif (!v7) then
 some (Sum.inl ((Go.IntKind.wrap .i64 (v6 + (1 : Int))), (Bool.true, ((500 : Int), (v9, v10)))))
 else
 bif (decide ((500 : Int) < v8)) then
 some (Sum.inl ((Go.IntKind.wrap .i64 (v6 + (1 : Int))), (Bool.true, ((500 : Int), (v9, v10)))))
 else
 some (Sum.inl ((Go.IntKind.wrap .i64 (v6 + (1 : Int))), (Bool.true, (v8, (v9, v10)))))
 else
 bif (!v7) then
 some (Sum.inl ((Go.IntKind.wrap .i64 (v6 + (1 : Int))), (Bool.true, (x11.2.2.2, (v9, v10)))))
 else
 bif (decide (x11.2.2.2 < v8)) then
 some (Sum.inl ((Go.IntKind.wrap .i64 (v6 + (1 : Int))), (Bool.true, (x11.2.2.2, (v9, v10)))))
 else
 some (Sum.inl ((Go.IntKind.wrap .i64 (v6 + (1 : Int))), (Bool.true, (v8, (v9, v10)))))
 else none
 else
 outO (some (Sum.inl (v7, (v8, (v9, v10))))))
theorem be_eq (a1 : List Br) (a2 : Int) (a3 a4 a5 : Bool) : fork_Best (a1, (a2, (a3, (a4, a5)))) =

  bif a3 then
   some (487 : Int)
  else
   joinO (loopO (beB a1) ((0 : Int), (Bool.false, ((0 : Int), (Bool.false, (0 : Int)))))) fun (v22, (v23, (v24, v25))) =>
   bif v24 then
    some v25
   else
    bif v22 then
     some v23
    else
     some (480 : Int) := rfl
noncomputable def brfB (a1 : List Br) : (Int × (List Int × List Int)) → Option ((Int × (List Int × List Int)) ⊕ ((List Int × List Int) ⊕ Int)) :=
(fun (v6, (v7, v8)) =>
 bif (decide (v6 < (((List.length a1) : Nat) : Int))) then
 bif (decide (((0 : Int) ≤ v6) ∧ (v6 < (((List.length a1) : Nat) : Int)))) then 
 bindO a1[(Int.toNat v6)]? fun x9 =>
 bif (decide (((0 : Int) ≤ v6) ∧ (v6 < (((List.length a1) : Nat) : Int)))) then 
 bindO a1[(Int.toNat v6)]? fun x10 =>
 bif (decide (x10.2.2.1 ≠ (5 : Int))) then
 bif ((decide ((List.length v7) ≤ (List.length v7))) && (decide ((List.length v8) ≤ (List.length v8)))) then 
 some (Sum.inl ((Go.IntKind.wrap .i64 (v6 + (1 : Int))), ((List.take (List.length v7) v7), (List.take (List.length v8) v8))))
 else none
 else
 joinO (bif (decide (x9.2.2.2 = (503 : Int))) then
 some (Sum.inl (500 : Int))
 else
 some (Sum.inl x9.2.2.2)) fun v12 =>
 bif (decide ((List.length v7) ≤ (List.length v7))) then 
 bif (decide (((List.length ((List.take (List.length v7) v7) ++ (v12 :: ([] : List Int)))) * 8) ≤ 140737488355328)) then 
 bindO (some ((List.take (List.length v7) v7) ++ (v12 :: ([] : List Int)))) fun x13 =>
 bif (decide (v12 ≥ (600 : Int))) then
 bif (decide ((List.length v8) ≤ (List.length v8))) then 
 bif (decide (((List.length ((List.take (List.length v8) v8) ++ (v12 :: ([] : List Int)))) * 8) ≤ 140737488355328)) then 
 bindO (some ((List.take (List.length v8) v8) ++ (v12 :: ([] : List Int)))) fun x14 =>
 bif ((decide ((List.length x13) ≤ (List.length x13))) && (decide ((List.length x14) ≤ (List.length x14)))) then 
 some (Sum.inl ((Go.IntKind.wrap .i64 (v6 + (1 : Int))), ((List.take (List.length x13) x13), (List.take (List.length x14) x14))))
 else none
 else none
 else none
 else
 bif ((decide ((List.length x13) ≤ (List.length x13))) && (decide ((List.length v8) ≤ (List.length v8)))) then 
 some (Sum.inl ((Go.IntKind.wrap .i64 (v6 + (1 : Int))), ((List.take (List.length x13) x13), (List.take (List.length v8) v8))))
 else none
 else none
 else none
 else none
 else none
 else
 outO (bif ((decide ((List.length v7) ≤ (List.length v7))) && (decide ((List.length v8) ≤ (List.length v8)))) then 
 some (Sum.inl ((List.take (List.length v7) v7), (List.take (List.length v8) v8)))
 else none))
noncomputable def brmB (v19 : List Int) : (Int × Int) → Option ((Int × Int) ⊕ (Int ⊕ Int)) :=
(fun (v21, v22) =>
 bif (decide (v21 < (((List.length v19) : Nat) : Int))) then
 bif (decide (((0 : Int) ≤ v21) ∧ (v21 < (((List.length v19) : Nat) : Int)))) then 
 bindO v19[(Int.toNat v21)]? fun x23 =>
 some (Sum.inl ((Go.IntKind.wrap .i64 (v21 + (1 : Int))), (minA v22 x23)))
 else none
 else
 outO (some (Sum.inl v22)))
theorem brf_eq (a1 : List Br) (a2 : Int) (a3 a4 a5 : Bool) : dialtoneref23_Best (a1, (a2, (a3, (a4, a5)))) =

  bif a3 then
   some (487 : Int)
  else
   joinO (loopO (brfB a1) ((0 : Int), (([] : List Int), ([] : List Int)))) fun (v17, v18) =>
   joinO (bif (decide ((((List.length v18) : Nat) : Int) > (0 : Int))) then
     bif (decide ((List.length v18) ≤ (List.length v18))) then 
      some (Sum.inl (List.take (List.length v18) v18))
     else none
    else
     bif (decide ((List.length v17) ≤ (List.length v17))) then 
      some (Sum.inl (List.take (List.length v17) v17))
     else none) fun v19 =>
   bif (decide ((((List.length v19) : Nat) : Int) = (0 : Int))) then
    some (480 : Int)
   else
    bif (decide (((0 : Int) ≤ (0 : Int)) ∧ ((0 : Int) < (((List.length v19) : Nat) : Int)))) then 
     bindO v19[0]? fun x20 =>
     joinO (loopO (brmB v19) ((1 : Int), x20)) fun v25 =>
     some v25
    else none := rfl
def upd (s : Bool × Int) (c : Int) : Bool × Int := (true, if s.1 = false then c else if c < s.2 then c else s.2)
def ms (l : List Int) : Bool × Int := l.foldl upd (false, 0)
theorem ms_app (l : List Int) (c : Int) : ms (l ++ [c]) = upd (ms l) c := by unfold ms; rw [List.foldl_append]; rfl
theorem ms_fst {l : List Int} : (ms l).1 = !l.isEmpty := by
  rcases List.eq_nil_or_concat l with h | ⟨l', c, h⟩
  · subst h; rfl
  · subst h; rw [List.concat_eq_append, ms_app]; unfold upd; cases l' <;> rfl
def fz (x : Br) : Int := if x.2.2.2 = 503 then 500 else x.2.2.2
def CC (l : List Br) : Nat → List Int
  | 0 => []
  | k + 1 => CC l k ++ (if (l.getD k d0).2.2.1 = 5 then [fz (l.getD k d0)] else [])
def HS (l : List Br) : Nat → List Int
  | 0 => []
  | k + 1 => HS l k ++ (if (l.getD k d0).2.2.1 = 5 ∧ (l.getD k d0).2.2.2 ≥ 600 then [(l.getD k d0).2.2.2] else [])
def LS (l : List Br) : Nat → List Int
  | 0 => []
  | k + 1 => LS l k ++ (if (l.getD k d0).2.2.1 = 5 ∧ ¬ (l.getD k d0).2.2.2 ≥ 600 then [fz (l.getD k d0)] else [])
theorem CS_succ (l : List Br) (k : Nat) : CC l (k + 1) = CC l k ++ (if (l.getD k d0).2.2.1 = 5 then [fz (l.getD k d0)] else []) := rfl
theorem HS_succ (l : List Br) (k : Nat) : HS l (k + 1) = HS l k ++ (if (l.getD k d0).2.2.1 = 5 ∧ (l.getD k d0).2.2.2 ≥ 600 then [(l.getD k d0).2.2.2] else []) := rfl
theorem LS_succ (l : List Br) (k : Nat) : LS l (k + 1) = LS l k ++ (if (l.getD k d0).2.2.1 = 5 ∧ ¬ (l.getD k d0).2.2.2 ≥ 600 then [fz (l.getD k d0)] else []) := rfl
theorem CS_len (l : List Br) (k : Nat) : (CC l k).length ≤ k := by
  induction k with
  | zero => exact Nat.le_refl _
  | succ k ih => rw [CS_succ, List.length_append]; split <;> simp <;> omega
theorem HS_len (l : List Br) (k : Nat) : (HS l k).length ≤ k := by
  induction k with
  | zero => exact Nat.le_refl _
  | succ k ih => rw [HS_succ, List.length_append]; split <;> simp <;> omega
theorem CS_LS {l : List Br} {k : Nat} (h : HS l k = []) : CC l k = LS l k := by
  induction k with
  | zero => rfl
  | succ k ih =>
    rw [HS_succ, List.append_eq_nil_iff] at h
    rw [CS_succ, LS_succ, ih h.1]
    have h2 := h.2
    by_cases g : (l.getD k d0).2.2.1 = 5
    · by_cases g2 : (l.getD k d0).2.2.2 ≥ 600
      · rw [if_pos ⟨g, g2⟩] at h2; cases h2
      · rw [if_pos g, if_pos ⟨g, g2⟩]
    · rw [if_neg g, if_neg (fun k => g k.1)]
def bst (l : List Br) (k : Nat) : Bs := ((ms (LS l k)).1, ((ms (LS l k)).2, ((ms (HS l k)).1, (ms (HS l k)).2)))
theorem be_round {l : List Br} {i : Nat} (hi : i < l.length) (hl : l.length ≤ 10000000000000) : beB l ((i : Int), bst l i) = some (.inl (((i + 1 : Nat) : Int), bst l (i + 1))) := by
  unfold bst beB
  obtain ⟨x, hx, hb⟩ := get_at d0 hi
  simp only [HS_succ, LS_succ, hx]
  simp (disch := omega) only [↓bindO_some, ↓bindO_none, ↓joinO_inl, ↓joinO_inr, ↓joinO_none, ↓outO_some, ↓outO_none, ↓cond_true, ↓cond_false, ↓cond_and, ↓cond_or, ↓cond_not, ↓cond_ite, ↓if_pos, ↓if_neg, ↓if_true, ↓if_false, List.take_length, Nat.le_refl, Bool.not_true, Bool.not_false, ↓hb, wrap_i64']
  have hn : ((i : Int) + 1) = ((i + 1 : Nat) : Int) := rfl
  rw [hn]
  obtain ⟨u, q, s, c⟩ := x
  rcases hm : ms (LS l i) with ⟨m1, m2⟩
  rcases hh : ms (HS l i) with ⟨n1, n2⟩
  by_cases h1 : s = 5
  · by_cases h2 : c ≥ 600
    · have h4 : ¬ c < 600 := by omega
      simp [h1, h2, h4, fz, ms_app, upd, hm, hh, joinO]
      cases n1 <;> simp
      split <;> rfl
    · have h4 : c < 600 := by omega
      by_cases h3 : c = 503
      · subst h3
        simp [h1, fz, ms_app, upd, hm, hh, joinO]
        cases m1 <;> simp
        split <;> rfl
      · simp [h1, h2, h4, h3, fz, ms_app, upd, hm, hh, joinO]
        cases m1 <;> simp
        split <;> rfl
  · simp [h1, hm, hh]
theorem be_j (l : List Br) (a2 : Int) (a3 a4 a5 : Bool) (hl : l.length ≤ 10000000000000) : fork_Best (l, (a2, (a3, (a4, a5)))) = some (if a3 = true then 487 else if HS l l.length ≠ [] then (ms (HS l l.length)).2 else if LS l l.length ≠ [] then (ms (LS l l.length)).2 else 480) := by
  rw [be_eq]
  cases a3
  · rw [cond_false, loopO_from (body := beB l) (fun k => ((k : Int), bst l k)) l.length (x := ((0 : Int), (false, ((0 : Int), (false, (0 : Int)))))) (r := .inl (bst l l.length)) rfl (fun i hi => be_round hi hl) (by unfold beB bst; simp (disch := omega) only [↓bindO_some, ↓bindO_none, ↓joinO_inl, ↓joinO_inr, ↓joinO_none, ↓outO_some, ↓outO_none, ↓cond_true, ↓cond_false, ↓cond_and, ↓cond_or, ↓cond_not, ↓cond_ite, ↓if_pos, ↓if_neg, ↓if_true, ↓if_false, List.take_length, Nat.le_refl, Bool.not_true, Bool.not_false])]
    show (bif (ms (HS l l.length)).1 then some (ms (HS l l.length)).2 else bif (ms (LS l l.length)).1 then some (ms (LS l l.length)).2 else some 480) = _
    rw [ms_fst, ms_fst]
    cases HS l l.length <;> cases LS l l.length <;> simp
  · rfl
theorem brf_round {l : List Br} {i : Nat} (hi : i < l.length) (hl : l.length ≤ 10000000000000) : brfB l ((i : Int), (CC l i, HS l i)) = some (.inl (((i + 1 : Nat) : Int), (CC l (i + 1), HS l (i + 1)))) := by
  unfold brfB
  have h1 := CS_len l i
  have h2 := HS_len l i
  obtain ⟨x, hx, hb⟩ := get_at d0 hi
  simp only [HS_succ, CS_succ, hx]
  have hn : ((i : Int) + 1) = ((i + 1 : Nat) : Int) := rfl
  obtain ⟨u, q, s, c⟩ := x
  generalize CC l i = cs at *
  generalize HS l i = hs at *
  have k1 : (cs.length + 1) * 8 ≤ 140737488355328 := by omega
  have k2 : (hs.length + 1) * 8 ≤ 140737488355328 := by omega
  simp (disch := omega) only [↓bindO_some, ↓bindO_none, ↓joinO_inl, ↓joinO_inr, ↓joinO_none, ↓outO_some, ↓outO_none, ↓cond_true, ↓cond_false, ↓cond_and, ↓cond_or, ↓cond_not, ↓cond_ite, ↓if_pos, ↓if_neg, ↓if_true, ↓if_false, List.take_length, Nat.le_refl, Bool.not_true, Bool.not_false, ↓hb, wrap_i64', hn, decide_true, Bool.and_self]
  by_cases g1 : s = 5
  · by_cases g2 : c = 503
    · simp [g1, g2, fz, k1, k2, joinO]
    · by_cases g3 : c ≥ 600
      · have g4 : 600 ≤ c := g3
        simp [g1, g2, g4, fz, k1, k2, joinO]
      · have g4 : ¬ 600 ≤ c := g3
        simp [g1, g2, g4, fz, k1, k2, joinO]
  · simp [g1]
theorem brm_round {v : List Int} {i : Nat} (hi : i + 1 < v.length) (hl : v.length ≤ 10000000000000) : brmB v (((i + 1 : Nat) : Int), (ms (v.take (i + 1))).2) = some (.inl (((i + 1 + 1 : Nat) : Int), (ms (v.take (i + 1 + 1))).2)) := by
  unfold brmB
  obtain ⟨x, hx, hb⟩ := get_at (0 : Int) hi
  have hn : (((i + 1 : Nat) : Int) + 1) = ((i + 1 + 1 : Nat) : Int) := rfl
  have ht : v.take (i + 1 + 1) = v.take (i + 1) ++ [x] := by
    rw [List.take_add_one, ← hx, List.getD_eq_getElem?_getD, List.getElem?_eq_getElem hi]; rfl
  have hf : (ms (v.take (i + 1))).1 = true := by
    rw [ms_fst]
    cases v with
    | nil => simp at hi
    | cons a v => rfl
  simp (disch := omega) only [↓bindO_some, ↓bindO_none, ↓joinO_inl, ↓joinO_inr, ↓joinO_none, ↓outO_some, ↓outO_none, ↓cond_true, ↓cond_false, ↓cond_and, ↓cond_or, ↓cond_not, ↓cond_ite, ↓if_pos, ↓if_neg, ↓if_true, ↓if_false, List.take_length, Nat.le_refl, Bool.not_true, Bool.not_false, ↓hb, wrap_i64', hn]
  rw [ht, ms_app]
  unfold upd minA
  rw [hf]
  rfl
theorem brm_j {v : List Int} (h : v ≠ []) (hl : v.length ≤ 10000000000000) : (bindO v[0]? fun x => joinO (loopO (brmB v) ((1 : Int), x)) fun v25 => some v25) = some (ms v).2 := by
  cases v with
  | nil => exact (h rfl).elim
  | cons a v =>
    show joinO (loopO (brmB (a :: v)) ((1 : Int), a)) (fun v25 => some v25) = _
    rw [loopO_from (body := brmB (a :: v)) (fun k => (((k + 1 : Nat) : Int), (ms ((a :: v).take (k + 1))).2)) v.length (x := ((1 : Int), a)) (r := .inl (ms (a :: v)).2) rfl (fun i hi => brm_round (by rw [List.length_cons]; omega) hl) (by
      unfold brmB
      have : (a :: v).take (v.length + 1) = a :: v := by rw [← List.length_cons (a := a), List.take_length]
      have hlen : (a :: v).length = v.length + 1 := rfl
      simp (disch := omega) only [↓bindO_some, ↓bindO_none, ↓joinO_inl, ↓joinO_inr, ↓joinO_none, ↓outO_some, ↓outO_none, ↓cond_true, ↓cond_false, ↓cond_and, ↓cond_or, ↓cond_not, ↓cond_ite, ↓if_pos, ↓if_neg, ↓if_true, ↓if_false, List.take_length, Nat.le_refl, Bool.not_true, Bool.not_false, this])]
    rfl
theorem brf_j (l : List Br) (a2 : Int) (a3 a4 a5 : Bool) (hl : l.length ≤ 10000000000000) : dialtoneref23_Best (l, (a2, (a3, (a4, a5)))) = some (if a3 = true then 487 else if HS l l.length ≠ [] then (ms (HS l l.length)).2 else if LS l l.length ≠ [] then (ms (LS l l.length)).2 else 480) := by
  rw [brf_eq]
  cases a3
  · have h1 := CS_len l l.length
    have h2 := HS_len l l.length
    rw [cond_false, loopO_from (body := brfB l) (fun k => ((k : Int), (CC l k, HS l k))) l.length (x := ((0 : Int), (([] : List Int), ([] : List Int)))) (r := .inl (CC l l.length, HS l l.length)) rfl (fun i hi => brf_round hi hl) (by
      unfold brfB; simp (disch := omega) only [↓bindO_some, ↓bindO_none, ↓joinO_inl, ↓joinO_inr, ↓joinO_none, ↓outO_some, ↓outO_none, ↓cond_true, ↓cond_false, ↓cond_and, ↓cond_or, ↓cond_not, ↓cond_ite, ↓if_pos, ↓if_neg, ↓if_true, ↓if_false, List.take_length, Nat.le_refl, Bool.not_true, Bool.not_false, decide_true, Bool.and_self])]
    by_cases hh : HS l l.length = []
    · by_cases hc : LS l l.length = []
      · have hcs := CS_LS hh
        simp only [↓bindO_some, ↓bindO_none, ↓joinO_inl, ↓joinO_inr, ↓joinO_none, ↓outO_some, ↓outO_none, ↓cond_true, ↓cond_false, ↓cond_and, ↓cond_or, ↓cond_not, ↓cond_ite, ↓if_pos, ↓if_neg, ↓if_true, ↓if_false, List.take_length, Nat.le_refl, Bool.not_true, Bool.not_false, hh, hc, hcs, List.length_nil]
        rfl
      · have hcs := CS_LS hh
        rw [hcs] at h1 ⊢
        generalize LS l l.length = v at *
        have hp : 0 < v.length := List.length_pos_iff.2 hc
        rw [hh]
        simp (disch := omega) only [↓bindO_some, ↓bindO_none, ↓joinO_inl, ↓joinO_inr, ↓joinO_none, ↓outO_some, ↓outO_none, ↓cond_true, ↓cond_false, ↓cond_and, ↓cond_or, ↓cond_not, ↓cond_ite, ↓if_pos, ↓if_neg, ↓if_true, ↓if_false, List.take_length, Nat.le_refl, Bool.not_true, Bool.not_false, List.length_nil, decide_true, Bool.and_self]
        have := brm_j hc (by omega)
        simp only [ne_eq, hc, not_false_eq_true, not_true, if_true, if_false]
        simpa using this
    · generalize HS l l.length = v at *
      have hp : 0 < v.length := List.length_pos_iff.2 hh
      simp (disch := omega) only [↓bindO_some, ↓bindO_none, ↓joinO_inl, ↓joinO_inr, ↓joinO_none, ↓outO_some, ↓outO_none, ↓cond_true, ↓cond_false, ↓cond_and, ↓cond_or, ↓cond_not, ↓cond_ite, ↓if_pos, ↓if_neg, ↓if_true, ↓if_false, List.take_length, Nat.le_refl, Bool.not_true, Bool.not_false, List.length_nil, decide_true, Bool.and_self]
      have := brm_j hh (by omega)

      simpa using this
  · rfl
end Go.Proofs.Ytheicchelhjcjaa
