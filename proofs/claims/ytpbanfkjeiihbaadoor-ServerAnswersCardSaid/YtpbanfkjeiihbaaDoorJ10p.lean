import Derived.Test.YtpbanfkjeiihbaaDoorJ9p
set_option linter.unusedVariables false
set_option linter.unusedSimpArgs false
set_option maxRecDepth 1000000
set_option maxHeartbeats 4000000
namespace Go.Proofs.YtpbanfkjeiihbaaDoor
open Go.RowKit
noncomputable def stepB (a1 a2 a3 a4 a5 a6 : Int) : Int → Option (Int ⊕ (Unit ⊕ ((Int × (Int × Int)) × List Ou))) :=
(fun v8 =>
 bif (decide (v8 < (9 : Int))) then
 bif (decide (((0 : Int) ≤ v8) ∧ (v8 < (9 : Int)))) then 
 bindO rowsL[(0 + (Int.toNat v8))]? fun x9 =>
 joinO (bif (decide (x9.1 ≠ a1)) then
 some (Sum.inl Bool.false)
 else
 bif (decide (x9.2.1 ≠ a4)) then
 some (Sum.inl Bool.false)
 else
 bif (decide (a4 = (4 : Int))) then
 bif (decide (a5 ≥ x9.2.2.1)) then
 some (Sum.inl (decide (a5 ≤ x9.2.2.2.1)))
 else
 some (Sum.inl Bool.false)
 else
 bif (decide (a4 = (5 : Int))) then
 some (Sum.inl (decide (a6 = x9.2.2.2.2.1)))
 else
 some (Sum.inl Bool.true)) fun v10 =>
 bif v10 then
 joinO (joinO (bif (decide (x9.2.2.2.2.2.1 ≠ (0 : Int))) then
 some (Sum.inl (x9.2.2.2.2.2.1, (a2, a3)))
 else
 some (Sum.inl (a1, (a2, a3)))) fun (v11, (v12, v13)) =>
 joinO (bif (decide (x9.2.1 = (4 : Int))) then
 some (Sum.inl (v11, (v12, a5)))
 else
 some (Sum.inl (v11, (v12, v13)))) fun (v14, (v15, v16)) =>
 joinO (bif (decide (x9.2.2.2.2.2.2.1 = (0 : Int))) then
 bif (decide (x9.2.2.2.2.2.2.2 = (0 : Int))) then
 some (Sum.inl ([] : List (Int × (Int × (Int × Int)))))
 else
 bif (decide (x9.2.2.2.2.2.2.2 = (1 : Int))) then
 bindO (some ((x9.2.2.2.2.2.2.2, (v16, ((0 : Int), (0 : Int)))) :: ([] : List (Int × (Int × (Int × Int)))))) fun x17 =>
 bif (decide ((List.length x17) ≤ (List.length x17))) then 
 some (Sum.inl (List.take (List.length x17) x17))
 else none
 else
 bif (decide (x9.2.2.2.2.2.2.2 = (4 : Int))) then
 bindO (some ((x9.2.2.2.2.2.2.2, ((0 : Int), ((10 : Int), (32000 : Int)))) :: ([] : List (Int × (Int × (Int × Int)))))) fun x18 =>
 bif (decide ((List.length x18) ≤ (List.length x18))) then 
 some (Sum.inl (List.take (List.length x18) x18))
 else none
 else
 bindO (some ((x9.2.2.2.2.2.2.2, ((0 : Int), ((0 : Int), (0 : Int)))) :: ([] : List (Int × (Int × (Int × Int)))))) fun x19 =>
 bif (decide ((List.length x19) ≤ (List.length x19))) then 
 some (Sum.inl (List.take (List.length x19) x19))
 else none
 else
 bif (decide (x9.2.2.2.2.2.2.1 = (1 : Int))) then
 bindO (some ((x9.2.2.2.2.2.2.1, (v16, ((0 : Int), (0 : Int)))) :: ([] : List (Int × (Int × (Int × Int)))))) fun x20 =>
 bif (decide (x9.2.2.2.2.2.2.2 = (0 : Int))) then
 bif (decide ((List.length x20) ≤ (List.length x20))) then 
 some (Sum.inl (List.take (List.length x20) x20))
 else none
 else
 bif (decide (x9.2.2.2.2.2.2.2 = (1 : Int))) then
 bif (decide ((List.length x20) ≤ (List.length x20))) then 
 bif (decide (((List.length ((List.take (List.length x20) x20) ++ ((x9.2.2.2.2.2.2.2, (v16, ((0 : Int), (0 : Int)))) :: ([] : List (Int × (Int × (Int × Int))))))) * 32) ≤ 140737488355328)) then 
 bindO (some ((List.take (List.length x20) x20) ++ ((x9.2.2.2.2.2.2.2, (v16, ((0 : Int), (0 : Int)))) :: ([] : List (Int × (Int × (Int × Int))))))) fun x21 =>
 bif (decide ((List.length x21) ≤ (List.length x21))) then 
 some (Sum.inl (List.take (List.length x21) x21))
 else none
 else none
 else none
 else
 bif (decide (x9.2.2.2.2.2.2.2 = (4 : Int))) then
 bif (decide ((List.length x20) ≤ (List.length x20))) then 
 bif (decide (((List.length ((List.take (List.length x20) x20) ++ ((x9.2.2.2.2.2.2.2, ((0 : Int), ((10 : Int), (32000 : Int)))) :: ([] : List (Int × (Int × (Int × Int))))))) * 32) ≤ 140737488355328)) then 
 bindO (some ((List.take (List.length x20) x20) ++ ((x9.2.2.2.2.2.2.2, ((0 : Int), ((10 : Int), (32000 : Int)))) :: ([] : List (Int × (Int × (Int × Int))))))) fun x22 =>
 bif (decide ((List.length x22) ≤ (List.length x22))) then 
 some (Sum.inl (List.take (List.length x22) x22))
 else none
 else none
 else none
 else
 bif (decide ((List.length x20) ≤ (List.length x20))) then 
 bif (decide (((List.length ((List.take (List.length x20) x20) ++ ((x9.2.2.2.2.2.2.2, ((0 : Int), ((0 : Int), (0 : Int)))) :: ([] : List (Int × (Int × (Int × Int))))))) * 32) ≤ 140737488355328)) then 
 bindO (some ((List.take (List.length x20) x20) ++ ((x9.2.2.2.2.2.2.2, ((0 : Int), ((0 : Int), (0 : Int)))) :: ([] : List (Int × (Int × (Int × Int))))))) fun x23 =>
 bif (decide ((List.length x23) ≤ (List.length x23))) then 
 some (Sum.inl (List.take (List.length x23) x23))
 else none
 else none
 else none
 else
 bif (decide (x9.2.2.2.2.2.2.1 = (4 : Int))) then
 bindO (some ((x9.2.2.2.2.2.2.1, ((0 : Int), ((10 : Int), (32000 : Int)))) :: ([] : List (Int × (Int × (Int × Int)))))) fun x24 =>
 bif (decide (x9.2.2.2.2.2.2.2 = (0 : Int))) then
 bif (decide ((List.length x24) ≤ (List.length x24))) then 
 some (Sum.inl (List.take (List.length x24) x24))
 else none
 else
 bif (decide (x9.2.2.2.2.2.2.2 = (1 : Int))) then
 bif (decide ((List.length x24) ≤ (List.length x24))) then 
 bif (decide (((List.length ((List.take (List.length x24) x24) ++ ((x9.2.2.2.2.2.2.2, (v16, ((0 : Int), (0 : Int)))) :: ([] : List (Int × (Int × (Int × Int))))))) * 32) ≤ 140737488355328)) then 
 bindO (some ((List.take (List.length x24) x24) ++ ((x9.2.2.2.2.2.2.2, (v16, ((0 : Int), (0 : Int)))) :: ([] : List (Int × (Int × (Int × Int))))))) fun x25 =>
 bif (decide ((List.length x25) ≤ (List.length x25))) then 
 some (Sum.inl (List.take (List.length x25) x25))
 else none
 else none
 else none
 else
 bif (decide (x9.2.2.2.2.2.2.2 = (4 : Int))) then
 bif (decide ((List.length x24) ≤ (List.length x24))) then 
 bif (decide (((List.length ((List.take (List.length x24) x24) ++ ((x9.2.2.2.2.2.2.2, ((0 : Int), ((10 : Int), (32000 : Int)))) :: ([] : List (Int × (Int × (Int × Int))))))) * 32) ≤ 140737488355328)) then 
 bindO (some ((List.take (List.length x24) x24) ++ ((x9.2.2.2.2.2.2.2, ((0 : Int), ((10 : Int), (32000 : Int)))) :: ([] : List (Int × (Int × (Int × Int))))))) fun x26 =>
 bif (decide ((List.length x26) ≤ (List.length x26))) then 
 some (Sum.inl (List.take (List.length x26) x26))
 else none
 else none
 else none
 else
 bif (decide ((List.length x24) ≤ (List.length x24))) then 
 bif (decide (((List.length ((List.take (List.length x24) x24) ++ ((x9.2.2.2.2.2.2.2, ((0 : Int), ((0 : Int), (0 : Int)))) :: ([] : List (Int × (Int × (Int × Int))))))) * 32) ≤ 140737488355328)) then 
 bindO (some ((List.take (List.length x24) x24) ++ ((x9.2.2.2.2.2.2.2, ((0 : Int), ((0 : Int), (0 : Int)))) :: ([] : List (Int × (Int × (Int × Int))))))) fun x27 =>
 bif (decide ((List.length x27) ≤ (List.length x27))) then 
 some (Sum.inl (List.take (List.length x27) x27))
 else none
 else none
 else none
 else
 bindO (some ((x9.2.2.2.2.2.2.1, ((0 : Int), ((0 : Int), (0 : Int)))) :: ([] : List (Int × (Int × (Int × Int)))))) fun x28 =>
 bif (decide (x9.2.2.2.2.2.2.2 = (0 : Int))) then
 bif (decide ((List.length x28) ≤ (List.length x28))) then 
 some (Sum.inl (List.take (List.length x28) x28))
 else none
 else
 bif (decide (x9.2.2.2.2.2.2.2 = (1 : Int))) then
 bif (decide ((List.length x28) ≤ (List.length x28))) then 
 bif (decide (((List.length ((List.take (List.length x28) x28) ++ ((x9.2.2.2.2.2.2.2, (v16, ((0 : Int), (0 : Int)))) :: ([] : List (Int × (Int × (Int × Int))))))) * 32) ≤ 140737488355328)) then 
 bindO (some ((List.take (List.length x28) x28) ++ ((x9.2.2.2.2.2.2.2, (v16, ((0 : Int), (0 : Int)))) :: ([] : List (Int × (Int × (Int × Int))))))) fun x29 =>
 bif (decide ((List.length x29) ≤ (List.length x29))) then 
 some (Sum.inl (List.take (List.length x29) x29))
 else none
 else none
 else none
 else
 bif (decide (x9.2.2.2.2.2.2.2 = (4 : Int))) then
 bif (decide ((List.length x28) ≤ (List.length x28))) then 
 bif (decide (((List.length ((List.take (List.length x28) x28) ++ ((x9.2.2.2.2.2.2.2, ((0 : Int), ((10 : Int), (32000 : Int)))) :: ([] : List (Int × (Int × (Int × Int))))))) * 32) ≤ 140737488355328)) then 
 bindO (some ((List.take (List.length x28) x28) ++ ((x9.2.2.2.2.2.2.2, ((0 : Int), ((10 : Int), (32000 : Int)))) :: ([] : List (Int × (Int × (Int × Int))))))) fun x30 =>
 bif (decide ((List.length x30) ≤ (List.length x30))) then 
 some (Sum.inl (List.take (List.length x30) x30))
 else none
 else none
 else none
 else
 bif (decide ((List.length x28) ≤ (List.length x28))) then 
 bif (decide (((List.length ((List.take (List.length x28) x28) ++ ((x9.2.2.2.2.2.2.2, ((0 : Int), ((0 : Int), (0 : Int)))) :: ([] : List (Int × (Int × (Int × Int))))))) * 32) ≤ 140737488355328)) then 
 bindO (some ((List.take (List.length x28) x28) ++ ((x9.2.2.2.2.2.2.2, ((0 : Int), ((0 : Int), (0 : Int)))) :: ([] : List (Int × (Int × (Int × Int))))))) fun x31 =>
 bif (decide ((List.length x31) ≤ (List.length x31))) then 
 some (Sum.inl (List.take (List.length x31) x31))
 else none
 else none
 else none) fun v32 =>
 bif (decide ((List.length v32) ≤ (List.length v32))) then 
 some (Sum.inl ((v14, (v15, v16)), (List.take (List.length v32) v32)))
 else none) fun ((v33, (v34, v35)), v36) =>
 outO (outO (bif (decide ((List.length v36) ≤ (List.length v36))) then 
 some ((v33, (v34, v35)), (List.take (List.length v36) v36))
 else none))
 else
 some (Sum.inl (Go.IntKind.wrap .i64 (v8 + (1 : Int))))
 else none
 else
 outO (some (Sum.inl ())))
theorem step_eq (a1 a2 a3 a4 a5 a6 : Int) : server_Step ((a1, (a2, a3)), (a4, (a5, a6))) =

  bindO (server_May (a1, (a2, a3))) fun x7 =>
  bif (!x7) then
   some (((0 : Int), ((0 : Int), (0 : Int))), ([] : List (Int × (Int × (Int × Int)))))
  else
   joinO (loopO (stepB a1 a2 a3 a4 a5 a6) (0 : Int)) fun _ =>
   some ((a1, (a2, a3)), ([] : List (Int × (Int × (Int × Int))))) := rfl
def row0 : uRow.T := (0, (0, (0, (0, (0, (0, (0, 0)))))))
def Miss (r : Int × (Int × (Int × (Int × (Int × (Int × (Int × Int))))))) (a1 a4 a5 a6 : Int) : Prop := r.1 ≠ a1 ∨ r.2.1 ≠ a4 ∨ (a4 = 4 ∧ ¬ (r.2.2.1 ≤ a5 ∧ a5 ≤ r.2.2.2.1)) ∨ (a4 = 5 ∧ a6 ≠ r.2.2.2.2.1)
theorem row_at (i : Nat) (hi : i < 9) {β : Type} (f : (Int × (Int × (Int × (Int × (Int × (Int × (Int × Int))))))) → Option β) : bindO rowsL[0 + Int.toNat (i : Int)]? f = f (rowsL.getD i row0) := by
  rw [Nat.zero_add, Int.toNat_natCast, List.getElem?_eq_getElem (show i < rowsL.length from hi)]
  rw [List.getD_eq_getElem?_getD, List.getElem?_eq_getElem (show i < rowsL.length from hi)]
  rfl
theorem miss_j (a1 a2 a3 a4 a5 a6 : Int) (i : Nat) (hi : i < 9) (h : Miss (rowsL.getD i row0) a1 a4 a5 a6) : stepB a1 a2 a3 a4 a5 a6 (i : Int) = some (.inl ((i + 1 : Nat) : Int)) := by
  have hb := fun {β : Type} (f : (Int × (Int × (Int × (Int × (Int × (Int × (Int × Int))))))) → Option β) => row_at i hi f
  obtain ⟨r, hr⟩ : ∃ r : Int × (Int × (Int × (Int × (Int × (Int × (Int × Int)))))), rowsL.getD i row0 = r := ⟨_, rfl⟩
  rw [hr] at h
  simp only [hr] at hb
  have hn : ((i : Int) + 1) = ((i + 1 : Nat) : Int) := rfl
  unfold stepB
  simp (disch := (first | omega | (simp only [LNl]; omega))) only [↓SDl, SDr, if_pos, if_neg, ↓hb]
  unfold Miss at h
  by_cases h1 : r.1 = a1
  · by_cases h2 : r.2.1 = a4
    · by_cases h4 : a4 = 4
      · by_cases h5 : a5 ≥ r.2.2.1
        · have h6 : ¬ a5 ≤ r.2.2.2.1 := by omega
          simp (disch := (first | omega | (simp only [LNl]; omega))) only [↓SDl, SDr, if_pos, if_neg, h1, h2, h4, h5, h6, ne_eq, not_true_eq_false, decide_false, decide_true, wrap_i64', hn]
        · simp (disch := (first | omega | (simp only [LNl]; omega))) only [↓SDl, SDr, if_pos, if_neg, h1, h2, h4, h5, ne_eq, not_true_eq_false, decide_false, decide_true, wrap_i64', hn]
      · have h5 : a4 = 5 := by omega
        have h6 : ¬ a6 = r.2.2.2.2.1 := by omega
        simp (disch := (first | omega | (simp only [LNl]; omega))) only [↓SDl, SDr, if_pos, if_neg, h1, h2, h4, h5, h6, ne_eq, not_true_eq_false, decide_false, decide_true, wrap_i64', hn]
    · simp (disch := (first | omega | (simp only [LNl]; omega))) only [↓SDl, SDr, if_pos, if_neg, h1, h2, ne_eq, not_true_eq_false, not_false_eq_true, decide_false, decide_true, wrap_i64', hn]
  · simp (disch := (first | omega | (simp only [LNl]; omega))) only [↓SDl, SDr, if_pos, if_neg, h1, ne_eq, not_false_eq_true, decide_false, decide_true, wrap_i64', hn]
theorem step_hit {a1 a2 a3 a4 a5 a6 : Int} (hm : server_May (a1, (a2, a3)) = some true) (n : Nat) (hn : n < 9) (hmiss : ∀ i, i < n → Miss (rowsL.getD i row0) a1 a4 a5 a6) {R : (Int × (Int × Int)) × List Ou} (hh : stepB a1 a2 a3 a4 a5 a6 (n : Int) = some (.inr (.inr R))) : server_Step ((a1, (a2, a3)), (a4, (a5, a6))) = some R := by
  have hl : loopO (stepB a1 a2 a3 a4 a5 a6) 0 = some (.inr R) := loopO_from (fun i => (i : Int)) n rfl (fun i hi => miss_j a1 a2 a3 a4 a5 a6 i (by omega) (hmiss i hi)) hh
  rw [step_eq, hm, bindO_some, hl]
  rfl
theorem step_none {a1 a2 a3 a4 a5 a6 : Int} (hm : server_May (a1, (a2, a3)) = some true) (hmiss : ∀ i, i < 9 → Miss (rowsL.getD i row0) a1 a4 a5 a6) : server_Step ((a1, (a2, a3)), (a4, (a5, a6))) = some ((a1, (a2, a3)), []) := by
  have hl : loopO (stepB a1 a2 a3 a4 a5 a6) 0 = some (.inl ()) := loopO_from (fun i => (i : Int)) 9 rfl (fun i hi => miss_j a1 a2 a3 a4 a5 a6 i (by omega) (hmiss i hi)) (by rfl)
  rw [step_eq, hm, bindO_some, hl]
  rfl
theorem all_lt {n : Nat} {p : Nat → Prop} (h : ∀ i, i < n → p i) (hn : p n) : ∀ i, i < n + 1 → p i := fun i hi => by
  rcases Nat.lt_or_ge i n with g | g
  · exact h i g
  · rw [show i = n by omega]; exact hn
theorem all_0 {p : Nat → Prop} : ∀ i, i < 0 → p i := fun i hi => absurd hi (by omega)
theorem may2 : server_May (2, (0, 0)) = some true := rfl
theorem may3 {c : Int} (h : 100 ≤ c ∧ c ≤ 199) : server_May (3, (0, c)) = some true := by
  have e : server_May (3, (0, c)) = bif decide (c ≥ 100) then some (decide (c ≤ 199)) else some false := rfl
  rw [e, decide_eq_true h.1, decide_eq_true h.2]; rfl
theorem may5 {c : Int} (h : 200 ≤ c ∧ c ≤ 699) : server_May (5, (0, c)) = some true := by
  have e : server_May (5, (0, c)) = bif decide (c ≥ 200) then some (decide (c ≤ 699)) else some false := rfl
  rw [e, decide_eq_true h.1, decide_eq_true h.2]; rfl
theorem may7 {c : Int} (h : 100 ≤ c ∧ c ≤ 699) : server_May (7, (0, c)) = some true := by
  have e : server_May (7, (0, c)) = bif decide (c ≥ 100) then some (decide (c ≤ 699)) else some false := rfl
  rw [e, decide_eq_true h.1, decide_eq_true h.2]; rfl
theorem m_k {r : Int × (Int × (Int × (Int × (Int × (Int × (Int × Int))))))} {a1 a4 a5 a6 : Int} (h : r.1 ≠ a1) : Miss r a1 a4 a5 a6 := .inl h
theorem m_i {r : Int × (Int × (Int × (Int × (Int × (Int × (Int × Int))))))} {a1 a4 a5 a6 : Int} (h : r.2.1 ≠ a4) : Miss r a1 a4 a5 a6 := .inr (.inl h)
theorem m_c {r : Int × (Int × (Int × (Int × (Int × (Int × (Int × Int))))))} {a1 a5 a6 : Int} (h : ¬ (r.2.2.1 ≤ a5 ∧ a5 ≤ r.2.2.2.1)) : Miss r a1 4 a5 a6 := .inr (.inr (.inl ⟨rfl, h⟩))
theorem sv_2_1 (cd : Int) : server_Step ((2, (0, 0)), (1, (cd, 0))) = some ((2, (0, 0)), []) :=
  step_none may2 (all_lt (all_lt (all_lt (all_lt (all_lt (all_lt (all_lt (all_lt (all_lt all_0 (m_i (by decide))) (m_i (by decide))) (m_i (by decide))) (m_i (by decide))) (m_k (by decide))) (m_k (by decide))) (m_k (by decide))) (m_k (by decide))) (m_k (by decide)))
theorem sv_7_1 {c : Int} (h : 100 ≤ c ∧ c ≤ 699) (cd : Int) : server_Step ((7, (0, c)), (1, (cd, 0))) = some ((7, (0, c)), []) :=
  step_none (may7 h) (all_lt (all_lt (all_lt (all_lt (all_lt (all_lt (all_lt (all_lt (all_lt all_0 (m_k (by decide))) (m_k (by decide))) (m_k (by decide))) (m_k (by decide))) (m_k (by decide))) (m_k (by decide))) (m_k (by decide))) (m_k (by decide))) (m_k (by decide)))
theorem sv_7_4 {c : Int} (h : 100 ≤ c ∧ c ≤ 699) (cd : Int) : server_Step ((7, (0, c)), (4, (cd, 0))) = some ((7, (0, c)), []) :=
  step_none (may7 h) (all_lt (all_lt (all_lt (all_lt (all_lt (all_lt (all_lt (all_lt (all_lt all_0 (m_k (by decide))) (m_k (by decide))) (m_k (by decide))) (m_k (by decide))) (m_k (by decide))) (m_k (by decide))) (m_k (by decide))) (m_k (by decide))) (m_k (by decide)))
theorem sv_5_4 {c : Int} (h : 200 ≤ c ∧ c ≤ 699) (cd : Int) : server_Step ((5, (0, c)), (4, (cd, 0))) = some ((5, (0, c)), []) :=
  step_none (may5 h) (all_lt (all_lt (all_lt (all_lt (all_lt (all_lt (all_lt (all_lt (all_lt all_0 (m_k (by decide))) (m_k (by decide))) (m_k (by decide))) (m_k (by decide))) (m_i (by decide))) (m_i (by decide))) (m_i (by decide))) (m_i (by decide))) (m_i (by decide)))
theorem sv_3_1 {c : Int} (h : 100 ≤ c ∧ c ≤ 199) (cd : Int) : server_Step ((3, (0, c)), (1, (cd, 0))) = some ((3, (0, c)), [(1, c, 0, 0)]) :=
  step_hit (may3 h) 4 (by omega) (all_lt (all_lt (all_lt (all_lt all_0 (m_i (by decide))) (m_i (by decide))) (m_i (by decide))) (m_i (by decide))) rfl
theorem sv_5_1 {c : Int} (h : 200 ≤ c ∧ c ≤ 699) (cd : Int) : server_Step ((5, (0, c)), (1, (cd, 0))) = some ((5, (0, c)), [(1, c, 0, 0)]) :=
  step_hit (may5 h) 5 (by omega) (all_lt (all_lt (all_lt (all_lt (all_lt all_0 (m_i (by decide))) (m_i (by decide))) (m_i (by decide))) (m_i (by decide))) (m_k (by decide))) rfl
theorem sv_5_5 {c : Int} (h : 200 ≤ c ∧ c ≤ 699) : server_Step ((5, (0, c)), (5, (0, 10))) = some ((7, (0, c)), [(7, 0, 0, 0)]) :=
  step_hit (may5 h) 8 (by omega) (all_lt (all_lt (all_lt (all_lt (all_lt (all_lt (all_lt (all_lt all_0 (m_i (by decide))) (m_i (by decide))) (m_i (by decide))) (m_i (by decide))) (m_i (by decide))) (m_i (by decide))) (m_i (by decide))) (m_i (by decide))) rfl
theorem hit_c {a1 a2 a3 cd : Int} (n : Nat) (R : (Int × (Int × Int)) × List Ou) (h : ((100 ≤ cd ∧ cd ≤ 199) ∧ ((n = 0 ∧ a1 = 2) ∨ (n = 1 ∧ a1 = 3)) ∧ R = ((3, (a2, cd)), [(1, cd, 0, 0)])) ∨ ((200 ≤ cd ∧ cd ≤ 699) ∧ ((n = 2 ∧ a1 = 2) ∨ (n = 3 ∧ a1 = 3)) ∧ R = ((5, (a2, cd)), [(1, cd, 0, 0), (4, 0, 10, 32000)]))) : stepB a1 a2 a3 4 cd 0 (n : Int) = some (.inr (.inr R)) := by
  rcases h with ⟨⟨h1, h2⟩, ⟨rfl, rfl⟩ | ⟨rfl, rfl⟩, rfl⟩ | ⟨⟨h1, h2⟩, ⟨rfl, rfl⟩ | ⟨rfl, rfl⟩, rfl⟩
  all_goals
    unfold stepB
    rw [row_at _ (by omega)]
    simp only [rowsL, List.getD_cons_zero, List.getD_cons_succ]
    simp (disch := (first | omega | (simp only [LNl]; omega))) only [↓SDl, SDr, if_pos, if_neg, ne_eq, not_true_eq_false, decide_false, decide_true, h1, h2, ge_iff_le]
    first | done | rfl
theorem sv_2_4a {cd : Int} (h : 100 ≤ cd ∧ cd ≤ 199) : server_Step ((2, (0, 0)), (4, (cd, 0))) = some ((3, (0, cd)), [(1, cd, 0, 0)]) :=
  step_hit may2 0 (by omega) all_0 (hit_c 0 _ (.inl ⟨h, .inl ⟨rfl, rfl⟩, rfl⟩))
theorem sv_2_4b {cd : Int} (h : 200 ≤ cd ∧ cd ≤ 699) : server_Step ((2, (0, 0)), (4, (cd, 0))) = some ((5, (0, cd)), [(1, cd, 0, 0), (4, 0, 10, 32000)]) :=
  step_hit may2 2 (by omega) (all_lt (all_lt all_0 (m_c (by show ¬ ((100 : Int) ≤ cd ∧ cd ≤ 199); omega))) (m_k (by decide))) (hit_c 2 _ (.inr ⟨h, .inl ⟨rfl, rfl⟩, rfl⟩))
theorem sv_3_4a {c cd : Int} (hc : 100 ≤ c ∧ c ≤ 199) (h : 100 ≤ cd ∧ cd ≤ 199) : server_Step ((3, (0, c)), (4, (cd, 0))) = some ((3, (0, cd)), [(1, cd, 0, 0)]) :=
  step_hit (may3 hc) 1 (by omega) (all_lt all_0 (m_k (by decide))) (hit_c 1 _ (.inl ⟨h, .inr ⟨rfl, rfl⟩, rfl⟩))
theorem sv_3_4b {c cd : Int} (hc : 100 ≤ c ∧ c ≤ 199) (h : 200 ≤ cd ∧ cd ≤ 699) : server_Step ((3, (0, c)), (4, (cd, 0))) = some ((5, (0, cd)), [(1, cd, 0, 0), (4, 0, 10, 32000)]) :=
  step_hit (may3 hc) 3 (by omega) (all_lt (all_lt (all_lt all_0 (m_k (by decide))) (m_c (by show ¬ ((100 : Int) ≤ cd ∧ cd ≤ 199); omega))) (m_k (by decide))) (hit_c 3 _ (.inr ⟨h, .inr ⟨rfl, rfl⟩, rfl⟩))
end Go.Proofs.YtpbanfkjeiihbaaDoor
