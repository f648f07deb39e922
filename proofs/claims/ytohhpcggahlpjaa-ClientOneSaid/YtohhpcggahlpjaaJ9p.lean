import Derived.Test.YtohhpcggahlpjaaJ8p
set_option linter.unusedVariables false
set_option linter.unusedSimpArgs false
set_option maxRecDepth 1000000
set_option maxHeartbeats 4000000
namespace Go.Proofs.Ytohhpcggahlpjaa
open Go.RowKit
abbrev p5 (e t : Int) : Int := if 0 ≤ e ∧ e ≤ t then 5 else -1
abbrev p6 (e f t : Int) : Int := if (0 ≤ f ∧ f ≤ t) ∧ (p5 e t < 0 ∨ f < e) then 6 else p5 e t
def pk (e f k t : Int) : Int := if (0 ≤ k ∧ k ≤ t) ∧ (p6 e f t < 0 ∨ k < (if p6 e f t = 5 then e else f)) then 11 else p6 e f t
def ps (e f k t : Int) (i : Nat) : Int := if i ≤ 5 then -1 else if i ≤ 6 then p5 e t else if i ≤ 11 then p6 e f t else pk e f k t
noncomputable abbrev pkB {δ : Type} (e f k now t : Int) := pickB (δ := δ) (-1) (-1) (-1) (-1) (-1) e f (-1) (-1) (-1) (-1) k (-1) (-1) now t
section
variable {δ : Type} (e f k now t : Int)
theorem pick0 (i : Int) (j : Int) (h : i = 0 ∨ i = 1 ∨ i = 2 ∨ i = 3 ∨ i = 4 ∨ i = 7 ∨ i = 8 ∨ i = 9 ∨ i = 10 ∨ i = 12 ∨ i = 13) : pkB (δ := δ) e f k now t (i, j) = some (.inl (i + 1, j)) := by
  rcases h with rfl | rfl | rfl | rfl | rfl | rfl | rfl | rfl | rfl | rfl | rfl <;> rfl
theorem pick5 : pkB (δ := δ) e f k now t (5, -1) = some (.inl (6, p5 e t)) := by
  have e1 : pkB (δ := δ) e f k now t (5, -1) = bif decide (e ≥ 0) then (bif decide (e ≤ t) then some (.inl (6, 5)) else some (.inl (6, -1))) else some (.inl (6, -1)) := rfl
  rw [e1]
  unfold p5
  by_cases h1 : e ≥ 0 <;> by_cases h2 : e ≤ t <;> simp [h1, h2] <;> omega
theorem pick6 : pkB (δ := δ) e f k now t (6, p5 e t) = some (.inl (7, p6 e f t)) := by
  have e1 : pkB (δ := δ) e f k now t (6, -1) = bif decide (f ≥ 0) then (bif decide (f ≤ t) then some (.inl (7, 6)) else some (.inl (7, -1))) else some (.inl (7, -1)) := rfl
  have e2 : pkB (δ := δ) e f k now t (6, 5) = bif decide (f ≥ 0) then (bif decide (f ≤ t) then (bif decide (f < e) then some (.inl (7, 6)) else some (.inl (7, 5))) else some (.inl (7, 5))) else some (.inl (7, 5)) := rfl
  by_cases h0 : 0 ≤ e ∧ e ≤ t
  · have h5 : p5 e t = 5 := if_pos h0
    unfold p6
    rw [h5, e2]
    by_cases h1 : f ≥ 0 <;> by_cases h2 : f ≤ t <;> by_cases h3 : f < e <;> simp [h1, h2, h3] <;> omega
  · have h5 : p5 e t = -1 := if_neg h0
    unfold p6
    rw [h5, e1]
    by_cases h1 : f ≥ 0 <;> by_cases h2 : f ≤ t <;> simp [h1, h2] <;> omega
theorem pick11 : pkB (δ := δ) e f k now t (11, p6 e f t) = some (.inl (12, pk e f k t)) := by
  have e1 : pkB (δ := δ) e f k now t (11, -1) = bif decide (k ≥ 0) then (bif decide (k ≤ t) then some (.inl (12, 11)) else some (.inl (12, -1))) else some (.inl (12, -1)) := rfl
  have e2 : pkB (δ := δ) e f k now t (11, 5) = bif decide (k ≥ 0) then (bif decide (k ≤ t) then (bif decide (k < e) then some (.inl (12, 11)) else some (.inl (12, 5))) else some (.inl (12, 5))) else some (.inl (12, 5)) := rfl
  have e3 : pkB (δ := δ) e f k now t (11, 6) = bif decide (k ≥ 0) then (bif decide (k ≤ t) then (bif decide (k < f) then some (.inl (12, 11)) else some (.inl (12, 6))) else some (.inl (12, 6))) else some (.inl (12, 6)) := rfl
  have h6 : p6 e f t = -1 ∨ p6 e f t = 5 ∨ p6 e f t = 6 := by unfold p6 p5; split <;> (try split) <;> simp
  unfold pk
  rcases h6 with h | h | h
  · rw [h, e1]
    by_cases h1 : k ≥ 0 <;> by_cases h2 : k ≤ t <;> simp [h1, h2] <;> omega
  · rw [h, e2]
    by_cases h1 : k ≥ 0 <;> by_cases h2 : k ≤ t <;> by_cases h3 : k < e <;> simp [h1, h2, h3] <;> omega
  · rw [h, e3]
    by_cases h1 : k ≥ 0 <;> by_cases h2 : k ≤ t <;> by_cases h3 : k < f <;> simp [h1, h2, h3] <;> omega
theorem pick_j : loopO (pkB (δ := δ) e f k now t) (0, -1) = some (.inl (14, pk e f k t)) := by
  refine loopO_from (fun i => ((i : Int), ps e f k t i)) 14 rfl (fun i hi => ?_) rfl
  have hc : i = 5 ∨ i = 6 ∨ i = 11 ∨ (i = 0 ∨ i = 1 ∨ i = 2 ∨ i = 3 ∨ i = 4 ∨ i = 7 ∨ i = 8 ∨ i = 9 ∨ i = 10 ∨ i = 12 ∨ i = 13) := by omega
  rcases hc with rfl | rfl | rfl | hc
  · exact pick5 e f k now t
  · exact pick6 e f k now t
  · exact pick11 e f k now t
  · have hp : ps e f k t (i + 1) = ps e f k t i := by
      rcases hc with rfl | rfl | rfl | rfl | rfl | rfl | rfl | rfl | rfl | rfl | rfl <;> rfl
    rw [hp]
    exact pick0 e f k now t i _ (by omega)
end
section
variable {δ : Type} (s w c e f k now : Int) (log : List EnT) (hl : log.length ≤ 100000)
include hl
omit hl in
theorem take_end (O : List Ou) : takeB (δ := δ) O ((O.length : Int), mkS s w c e f k now log) = some (.inr (.inl (mkS s w c e f k now log))) := by
  unfold takeB mkS
  simp (disch := (first | omega | (simp only [List.length_append, List.length_cons, List.length_nil, List.nil_append, List.length_take, List.length_drop]; omega))) only [↓bindO_some, ↓bindO_none, ↓joinO_inl, ↓joinO_inr, ↓joinO_none, ↓outO_some, ↓outO_none, ↓cond_true, ↓cond_false, ↓cond_and, ↓cond_or, ↓cond_not, ↓cond_ite, ↓if_pos, ↓if_neg, ↓if_true, ↓if_false, List.take_length, Nat.le_refl, Bool.not_true, Bool.not_false, if_neg]
theorem take_one (O : List Ou) (i : Nat) (x : Ou) (hi : i < O.length) (hi2 : i < 1000) (hx : O.getD i (0, 0, 0, 0) = x) (hk : x.1 ≠ 4) : takeB (δ := δ) O ((i : Int), mkS s w c e f k now log) = some (.inl (((i + 1 : Nat) : Int), mkS s w c e f k now (log ++ [(now, x)]))) := by
  have hxb : ∀ {β : Type} (f : Ou → Option β), bindO O[Int.toNat (i : Int)]? f = f x := fun f => by rw [← hx]; exact get_bz _ f (by omega)
  have hn : ((i : Int) + 1) = ((i + 1 : Nat) : Int) := rfl
  unfold takeB mkS
  simp (disch := (first | omega | (simp only [List.length_append, List.length_cons, List.length_nil, List.nil_append, List.length_take, List.length_drop]; omega))) only [↓bindO_some, ↓bindO_none, ↓joinO_inl, ↓joinO_inr, ↓joinO_none, ↓outO_some, ↓outO_none, ↓cond_true, ↓cond_false, ↓cond_and, ↓cond_or, ↓cond_not, ↓cond_ite, ↓if_pos, ↓if_neg, ↓if_true, ↓if_false, List.take_length, Nat.le_refl, Bool.not_true, Bool.not_false, if_pos, if_neg, ↓hxb, hk, decide_false, wrap_i64', hn]
theorem take_E (O : List Ou) (i : Nat) (a : Int) (hi : i < O.length) (hi2 : i < 1000) (hx : O.getD i (0, 0, 0, 0) = (4, 0, 5, a)) : takeB (δ := δ) O ((i : Int), mkS s w c e f k now log) = some (.inl (((i + 1 : Nat) : Int), mkS s w c (IntKind.wrap .i64 (now + maxA 1 a)) f k now (log ++ [(now, (4, 0, 5, a))]))) := by
  have hxb : ∀ {β : Type} (f : Ou → Option β), bindO O[Int.toNat (i : Int)]? f = f (4, 0, 5, a) := fun f => by rw [← hx]; exact get_bz _ f (by omega)
  have hn : ((i : Int) + 1) = ((i + 1 : Nat) : Int) := rfl
  unfold takeB mkS
  simp (disch := (first | omega | (simp only [List.length_append, List.length_cons, List.length_nil, List.nil_append, List.length_take, List.length_drop]; omega))) only [↓bindO_some, ↓bindO_none, ↓joinO_inl, ↓joinO_inr, ↓joinO_none, ↓outO_some, ↓outO_none, ↓cond_true, ↓cond_false, ↓cond_and, ↓cond_or, ↓cond_not, ↓cond_ite, ↓if_pos, ↓if_neg, ↓if_true, ↓if_false, List.take_length, Nat.le_refl, Bool.not_true, Bool.not_false, if_pos, if_neg, ↓hxb, decide_true, wrap_i64', hn]
  rfl
theorem take_K (O : List Ou) (i : Nat) (a : Int) (hi : i < O.length) (hi2 : i < 1000) (hx : O.getD i (0, 0, 0, 0) = (4, 0, 11, a)) : takeB (δ := δ) O ((i : Int), mkS s w c e f k now log) = some (.inl (((i + 1 : Nat) : Int), mkS s w c e f (IntKind.wrap .i64 (now + maxA 1 a)) now (log ++ [(now, (4, 0, 11, a))]))) := by
  have hxb : ∀ {β : Type} (f : Ou → Option β), bindO O[Int.toNat (i : Int)]? f = f (4, 0, 11, a) := fun f => by rw [← hx]; exact get_bz _ f (by omega)
  have hn : ((i : Int) + 1) = ((i + 1 : Nat) : Int) := rfl
  unfold takeB mkS
  simp (disch := (first | omega | (simp only [List.length_append, List.length_cons, List.length_nil, List.nil_append, List.length_take, List.length_drop]; omega))) only [↓bindO_some, ↓bindO_none, ↓joinO_inl, ↓joinO_inr, ↓joinO_none, ↓outO_some, ↓outO_none, ↓cond_true, ↓cond_false, ↓cond_and, ↓cond_or, ↓cond_not, ↓cond_ite, ↓if_pos, ↓if_neg, ↓if_true, ↓if_false, List.take_length, Nat.le_refl, Bool.not_true, Bool.not_false, if_pos, if_neg, ↓hxb, decide_true, wrap_i64', hn]
  rfl
end
end Go.Proofs.Ytohhpcggahlpjaa
