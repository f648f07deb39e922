import Derived.Test.YtpbanfkjeiihbaaDoorJ8p
set_option linter.unusedVariables false
set_option linter.unusedSimpArgs false
set_option maxRecDepth 1000000
set_option maxHeartbeats 4000000
namespace Go.Proofs.YtpbanfkjeiihbaaDoor
open Go.RowKit
def pk (k t : Int) : Int := if 0 ≤ k ∧ k ≤ t then 10 else -1
def ps (k t : Int) (i : Nat) : Int := if i ≤ 10 then -1 else pk k t
noncomputable abbrev pkB {δ : Type} (k now t : Int) := pickB (δ := δ) (-1) (-1) (-1) (-1) (-1) (-1) (-1) (-1) (-1) (-1) k (-1) (-1) (-1) now t
section
variable {δ : Type} (k now t : Int)
theorem pick0 (i : Int) (j : Int) (h : i = 0 ∨ i = 1 ∨ i = 2 ∨ i = 3 ∨ i = 4 ∨ i = 5 ∨ i = 6 ∨ i = 7 ∨ i = 8 ∨ i = 9 ∨ i = 11 ∨ i = 12 ∨ i = 13) : pkB (δ := δ) k now t (i, j) = some (.inl (i + 1, j)) := by
  rcases h with rfl | rfl | rfl | rfl | rfl | rfl | rfl | rfl | rfl | rfl | rfl | rfl | rfl <;> rfl
theorem pick10 : pkB (δ := δ) k now t (10, -1) = some (.inl (11, pk k t)) := by
  have e1 : pkB (δ := δ) k now t (10, -1) = bif decide (k ≥ 0) then (bif decide (k ≤ t) then some (.inl (11, 10)) else some (.inl (11, -1))) else some (.inl (11, -1)) := rfl
  rw [e1]
  unfold pk
  by_cases h1 : k ≥ 0 <;> by_cases h2 : k ≤ t <;> simp [h1, h2] <;> omega
theorem pick_j : loopO (pkB (δ := δ) k now t) (0, -1) = some (.inl (14, pk k t)) := by
  refine loopO_from (fun i => ((i : Int), ps k t i)) 14 rfl (fun i hi => ?_) rfl
  have hc : i = 10 ∨ (i = 0 ∨ i = 1 ∨ i = 2 ∨ i = 3 ∨ i = 4 ∨ i = 5 ∨ i = 6 ∨ i = 7 ∨ i = 8 ∨ i = 9 ∨ i = 11 ∨ i = 12 ∨ i = 13) := by omega
  rcases hc with rfl | hc
  · exact pick10 k now t
  · have hp : ps k t (i + 1) = ps k t i := by
      rcases hc with rfl | rfl | rfl | rfl | rfl | rfl | rfl | rfl | rfl | rfl | rfl | rfl | rfl <;> rfl
    rw [hp]
    exact pick0 k now t i _ (by omega)
end
section
variable {δ : Type} (s c k now : Int) (log : List EnT) (hl : log.length ≤ 100000)
theorem take_end (O : List Ou) : takeB (δ := δ) O ((O.length : Int), mkS s c k now log) = some (.inr (.inl (mkS s c k now log))) := by
  unfold takeB mkS
  simp (disch := (first | omega | (simp only [LNl]; omega))) only [↓SDl, SDr, if_neg]
include hl
theorem take_one (O : List Ou) (i : Nat) (x : Ou) (hi : i < O.length) (hi2 : i < 1000) (hx : O.getD i (0, 0, 0, 0) = x) (hk : x.1 ≠ 4) : takeB (δ := δ) O ((i : Int), mkS s c k now log) = some (.inl (((i + 1 : Nat) : Int), mkS s c k now (log ++ [(now, x)]))) := by
  have hxb : ∀ {β : Type} (f : Ou → Option β), bindO O[Int.toNat (i : Int)]? f = f x := fun f => by rw [← hx]; exact get_bz _ f (by omega)
  have hn : ((i : Int) + 1) = ((i + 1 : Nat) : Int) := rfl
  unfold takeB mkS
  simp (disch := (first | omega | (simp only [LNl]; omega))) only [↓SDl, SDr, if_pos, if_neg, ↓hxb, hk, decide_false, wrap_i64', hn]
theorem take_K (O : List Ou) (i : Nat) (a : Int) (hi : i < O.length) (hi2 : i < 1000) (hx : O.getD i (0, 0, 0, 0) = (4, 0, 10, a)) : takeB (δ := δ) O ((i : Int), mkS s c k now log) = some (.inl (((i + 1 : Nat) : Int), mkS s c (IntKind.wrap .i64 (now + maxA 1 a)) now (log ++ [(now, (4, 0, 10, a))]))) := by
  have hxb : ∀ {β : Type} (f : Ou → Option β), bindO O[Int.toNat (i : Int)]? f = f (4, 0, 10, a) := fun f => by rw [← hx]; exact get_bz _ f (by omega)
  have hn : ((i : Int) + 1) = ((i + 1 : Nat) : Int) := rfl
  unfold takeB mkS
  simp (disch := (first | omega | (simp only [LNl]; omega))) only [↓SDl, SDr, if_pos, if_neg, ↓hxb, decide_true, wrap_i64', hn]
  rfl
omit hl in
theorem take_nil : loopO (takeB (δ := δ) []) (0, mkS s c k now log) = some (.inl (mkS s c k now log)) :=
  loopO_from (fun _ => ((0 : Int), mkS s c k now log)) 0 rfl (fun i hi => absurd hi (by omega)) (take_end s c k now log [])
theorem take_1 (x : Ou) (hx : x.1 ≠ 4) : loopO (takeB (δ := δ) [x]) (0, mkS s c k now log) = some (.inl (mkS s c k now (log ++ [(now, x)]))) := by
  rw [loopO_eq, show ((0 : Int), mkS s c k now log) = (((0 : Nat) : Int), mkS s c k now log) from rfl, take_one s c k now log hl [x] 0 x (by simp) (by omega) rfl hx]
  simp only
  rw [loopO_eq, show (((0 + 1 : Nat) : Int), mkS s c k now (log ++ [(now, x)])) = (([x].length : Int), mkS s c k now (log ++ [(now, x)])) from rfl, take_end]
theorem take_xK (x : Ou) (a : Int) (hx : x.1 ≠ 4) (hl : log.length ≤ 90000) : loopO (takeB (δ := δ) [x, (4, 0, 10, a)]) (0, mkS s c k now log) = some (.inl (mkS s c (IntKind.wrap .i64 (now + maxA 1 a)) now (log ++ [(now, x), (now, (4, 0, 10, a))]))) := by
  have hl2 : (log ++ [(now, x)]).length ≤ 100000 := by rw [List.length_append]; show log.length + 1 ≤ _; omega
  rw [loopO_eq, show ((0 : Int), mkS s c k now log) = (((0 : Nat) : Int), mkS s c k now log) from rfl, take_one s c k now log (by omega) [x, (4, 0, 10, a)] 0 x (by simp) (by omega) rfl hx]
  simp only
  rw [loopO_eq, take_K s c k now _ hl2 [x, (4, 0, 10, a)] (0 + 1) a (by simp) (by omega) rfl]
  simp only
  rw [List.append_assoc, loopO_eq, show (((0 + 1 + 1 : Nat) : Int), mkS s c (IntKind.wrap .i64 (now + maxA 1 a)) now (log ++ ([(now, x)] ++ [(now, (4, 0, 10, a))]))) = (([x, (4, 0, 10, a)].length : Int), mkS s c (IntKind.wrap .i64 (now + maxA 1 a)) now (log ++ [(now, x), (now, (4, 0, 10, a))])) from rfl, take_end]
end
section
variable {γ : Type} (s c k now t : Int) (log : List EnT) (n : Nat) (hn : n < 200)
include hn
theorem until_end (h : pk k t = -1) : untilB (γ := γ) t ((n : Int), mkS s c k now log) = some (.inr (.inl (mkS s c k now log))) := by
  have hp := pick_j (δ := (Int × Int × NT) ⊕ (Int × NT) ⊕ (NT ⊕ γ)) k now t
  rw [h] at hp
  unfold untilB mkS
  unfold pkB at hp
  simp (disch := (first | omega | (simp only [LNl]; omega))) only [↓SDl, SDr, if_pos, if_neg, hp]
theorem until_K {s' c' k' now' : Int} {log' : List EnT} {O : List Ou} (h : pk k t = 10) (hs : server_Step ((s, (0, c)), (5, (0, 10))) = some ((s', (0, c')), O)) (ht : ∀ {δ : Type}, loopO (takeB (δ := δ) O) (0, mkS s' c' (-1) k log) = some (.inl (mkS s' c' k' now' log'))) :
    untilB (γ := γ) t ((n : Int), mkS s c k now log) = some (.inl (((n + 1 : Nat) : Int), mkS s' c' k' now' log')) := by
  have hp := pick_j (δ := (Int × Int × NT) ⊕ (Int × NT) ⊕ (NT ⊕ γ)) k now t
  rw [h] at hp
  unfold pkB at hp
  have ht := ht (δ := (Int × Int × NT) ⊕ (Int × NT) ⊕ (NT ⊕ γ))
  have hn' : ((n : Int) + 1) = ((n + 1 : Nat) : Int) := rfl
  have hg : ∀ {β : Type} (g : Int → Option β), bindO [-1, -1, -1, -1, -1, -1, -1, -1, -1, -1, k, -1, -1, -1, now][Int.toNat 10]? g = g k := fun g => rfl
  have hu : IntKind.wrap .u8 10 = 10 := rfl
  unfold mkS at ht
  unfold untilB mkS
  simp (disch := (first | omega | (simp only [LNl]; omega))) only [↓SDl, SDr, if_pos, if_neg, hp, hg, hu, hs]
  refine joinO_eq (a := ((14 : Int), ((10 : Int), mkS s' c' k' now' log'))) (joinO_eq ht rfl) ?_
  simp (disch := (first | omega | (simp only [LNl]; omega))) only [wrap_i64', hn']
  rfl
end
end Go.Proofs.YtpbanfkjeiihbaaDoor
