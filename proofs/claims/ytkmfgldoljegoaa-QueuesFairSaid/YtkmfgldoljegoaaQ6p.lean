import Derived.Test.YtkmfgldoljegoaaQ2p
import Derived.Test.YtkmfgldoljegoaaZ7p
set_option linter.unusedVariables false
set_option linter.unusedSimpArgs false
set_option maxRecDepth 100000
set_option maxHeartbeats 4000000
namespace Go.Proofs.Ytkmfgldoljegoaa
open Go.RowKit
noncomputable def rngI (a1 : List Ca) (a2 : List Se) (v8 : Int) : (Int × Int) → Option ((Int × Int) ⊕ ((Int × Int) ⊕ ((Int × Int) ⊕ ((Int × Int) ⊕ (Int ⊕ Bool))))) :=
(fun (v10, v11) =>
 bif (decide (v10 < (((List.length a2) : Nat) : Int))) then
 bif (decide (((0 : Int) ≤ v10) ∧ (v10 < (((List.length a2) : Nat) : Int)))) then 
 bindO a2[(Int.toNat v10)]? fun x12 =>
 bif (decide (x12.2.1 = (2 : Int))) then
 bif (decide (((0 : Int) ≤ v10) ∧ (v10 < (((List.length a2) : Nat) : Int)))) then 
 bindO a2[(Int.toNat v10)]? fun x13 =>
 bif (decide (((0 : Int) ≤ v8) ∧ (v8 < (((List.length a1) : Nat) : Int)))) then 
 bindO a1[(Int.toNat v8)]? fun x14 =>
 bif (decide (x13.2.2.2.1 = x14.1)) then
 some (Sum.inl ((Go.IntKind.wrap .i64 (v10 + (1 : Int))), (Go.IntKind.wrap .i64 (v11 + (1 : Int)))))
 else
 some (Sum.inl ((Go.IntKind.wrap .i64 (v10 + (1 : Int))), v11))
 else none
 else none
 else
 some (Sum.inl ((Go.IntKind.wrap .i64 (v10 + (1 : Int))), v11))
 else none
 else
 outO (some (Sum.inl (v10, v11))))
noncomputable def rngA (a1 : List Ca) (a2 : List Se) : (Int × Int) → Option ((Int × Int) ⊕ (Int ⊕ Bool)) :=
(fun (v8, v9) =>
 bif (decide (v8 < (((List.length a1) : Nat) : Int))) then
 joinO (joinO (loopO (rngI a1 a2 v8) ((0 : Int), (0 : Int))) fun (v19, v20) =>
 bif (decide (v20 > (1 : Int))) then
 outO (outO (outO (some Bool.false)))
 else
 bif (decide (((0 : Int) ≤ v8) ∧ (v8 < (((List.length a1) : Nat) : Int)))) then 
 bindO a1[(Int.toNat v8)]? fun x21 =>
 bif ((decide (v20 = (1 : Int))) != (decide (x21.2.2.2 ≠ (0 : Int)))) then
 outO (outO (outO (some Bool.false)))
 else
 bif (decide (v20 = (0 : Int))) then
 some (Sum.inl ((Go.IntKind.wrap .i64 (v9 + (1 : Int))), v20))
 else
 some (Sum.inl (v9, v20))
 else none) fun (v23, v24) =>
 some (Sum.inl ((Go.IntKind.wrap .i64 (v8 + (1 : Int))), v23))
 else
 outO (some (Sum.inl v9)))
noncomputable def rngF (a2 : List Se) : (Int × Int) → Option ((Int × Int) ⊕ (Int ⊕ Bool)) :=
(fun (v27, v28) =>
 bif (decide (v27 < (((List.length a2) : Nat) : Int))) then
 bif (decide (((0 : Int) ≤ v27) ∧ (v27 < (((List.length a2) : Nat) : Int)))) then 
 bindO a2[(Int.toNat v27)]? fun x29 =>
 bif (decide (x29.2.1 = (1 : Int))) then
 some (Sum.inl ((Go.IntKind.wrap .i64 (v27 + (1 : Int))), (Go.IntKind.wrap .i64 (v28 + (1 : Int)))))
 else
 some (Sum.inl ((Go.IntKind.wrap .i64 (v27 + (1 : Int))), v28))
 else none
 else
 outO (some (Sum.inl v28)))
theorem rings_eq (a1 : List Ca) (a2 : List Se) (a3 a4 a5 a6 a7 : Int) : dialtonelaw36_rings (a1, (a2, (a3, (a4, (a5, (a6, a7)))))) =

  joinO (loopO (rngA a1 a2) ((0 : Int), (0 : Int))) fun v26 =>
  joinO (loopO (rngF a2) ((0 : Int), (0 : Int))) fun v33 =>
  bif (decide (v33 = (0 : Int))) then
   some Bool.true
  else
   some (decide (v26 = (0 : Int))) := by kernel_rfl
def cnt (p : Nat → Bool) : Nat → Nat
  | 0 => 0
  | n + 1 => cnt p n + if p n = true then 1 else 0
theorem cnt_le (p : Nat → Bool) : ∀ n, cnt p n ≤ n := by
  intro n
  induction n with
  | zero => exact Nat.le_refl _
  | succ n ih => unfold cnt; split <;> omega
theorem cnt_zero (p : Nat → Bool) : ∀ n, (∀ i, i < n → p i = false) → cnt p n = 0 := by
  intro n
  induction n with
  | zero => intro _; rfl
  | succ n ih => intro h; unfold cnt; rw [ih (fun i hi => h i (by omega)), h n (by omega)]; rfl
theorem cnt_one (p : Nat → Bool) (q : Nat) : ∀ n, (∀ i, i < n → (p i = true ↔ i = q)) → cnt p n = if q < n then 1 else 0 := by
  intro n
  induction n with
  | zero => intro _; simp [cnt]
  | succ n ih =>
    intro h
    unfold cnt
    rw [ih (fun i hi => h i (by omega))]
    by_cases e : n = q
    · rw [if_neg (by omega), if_pos ((h n (by omega)).2 e), if_pos (by omega)]
    · rw [if_neg (fun g => e ((h n (by omega)).1 g))]
      by_cases g : q < n
      · rw [if_pos g, if_pos (by omega)]
      · rw [if_neg g, if_neg (by omega)]
def ringsFor (cs : List Ca) (ss : List Se) (i k : Nat) : Bool := decide ((ss.getD k dS).2.1 = 2) && decide ((ss.getD k dS).2.2.2.1 = (cs.getD i dC).1)
theorem rngI_j (cs : List Ca) (ss : List Se) {i : Nat} (hi : i < cs.length) (h1 : cs.length ≤ 1000) (h2 : ss.length ≤ 1000) : loopO (rngI cs ss (i : Int)) (0, 0) = some (.inl ((ss.length : Int), ((cnt (ringsFor cs ss i) ss.length : Nat) : Int))) := by
  refine loopO_from (fun k => ((k : Int), ((cnt (ringsFor cs ss i) k : Nat) : Int))) ss.length rfl (fun k hk => ?_) ?_
  · obtain ⟨x, hx, hxb⟩ := get_at dS hk
    obtain ⟨c, hc, hcb⟩ := get_at dC hi
    have hle := cnt_le (ringsFor cs ss i) k
    show rngI cs ss (i : Int) _ = some (Sum.inl (_, ((cnt (ringsFor cs ss i) k + if ringsFor cs ss i k = true then 1 else 0 : Nat) : Int)))
    unfold ringsFor at hle ⊢
    rw [hx, hc] at *
    unfold rngI
    by_cases e1 : x.2.1 = 2
    · by_cases e2 : x.2.2.2.1 = c.1
      · simp (disch := (first | omega | (simp only [LNl]; omega))) only [↓SDl, SDr, if_pos, if_neg, ↓hxb, ↓hcb, decide_eq_true e1, decide_eq_true e2, Bool.and_self, wrap_i64']
        rfl
      · simp (disch := (first | omega | (simp only [LNl]; omega))) only [↓SDl, SDr, if_pos, if_neg, ↓hxb, ↓hcb, decide_eq_true e1, decide_eq_false e2, Bool.and_false, Bool.false_eq_true, wrap_i64', Nat.add_zero]
        rfl
    · simp (disch := (first | omega | (simp only [LNl]; omega))) only [↓SDl, SDr, if_pos, if_neg, ↓hxb, ↓hcb, decide_eq_false e1, Bool.false_and, Bool.false_eq_true, wrap_i64', Nat.add_zero]
      rfl
  · unfold rngI
    simp (disch := (first | omega | (simp only [LNl]; omega))) only [↓SDl, SDr, if_neg]
theorem rngs_cnt {cs : List Ca} {ss : List Se} {now : Int} (h : VQ cs ss now) {i : Nat} (hi : i < cs.length) : cnt (ringsFor cs ss i) ss.length = if (cs.getD i dC).2.2.2 = 0 then 0 else 1 := by
  by_cases ha : (cs.getD i dC).2.2.2 = 0
  · rw [if_pos ha]
    refine cnt_zero _ _ fun k hk => ?_
    cases hb : ringsFor cs ss i k with
    | false => rfl
    | true =>
      exfalso
      unfold ringsFor at hb
      simp only [Bool.and_eq_true, decide_eq_true_eq] at hb
      obtain ⟨j, j1, j2, j3, j4⟩ := ringee h hk hb.1
      have hij : j = i := VF.cinj h j1 hi (by show (cs.getD j dC).1 = (cs.getD i dC).1; rw [j3]; exact hb.2)
      subst hij
      have := VF.se h k hk
      have e : (ss.getD k dS).1 = 0 := by rw [← j4]; exact ha
      have this : 1 ≤ (ss.getD k dS).1 := this.1
      omega
  · rw [if_neg ha]
    obtain ⟨q, q1, q2, q3, q4, q5⟩ := ringer h hi ha
    rw [cnt_one _ q _ fun k hk => ?_, if_pos q1]
    unfold ringsFor
    simp only [Bool.and_eq_true, decide_eq_true_eq]
    constructor
    · rintro ⟨e1, e2⟩
      obtain ⟨j, j1, j2, j3, j4⟩ := ringee h hk e1
      have hij : j = i := VF.cinj h j1 hi (by show (cs.getD j dC).1 = (cs.getD i dC).1; rw [j3]; exact e2)
      subst hij
      exact VF.sinj h hk q1 (by show (ss.getD k dS).1 = (ss.getD q dS).1; rw [← j4, q3])
    · rintro rfl
      exact ⟨q4, q5⟩
theorem rings_j {cs : List Ca} {ss : List Se} {mo mw ri re now : Int} (h : VQ cs ss now) (h1 : cs.length ≤ 1000) (h2 : ss.length ≤ 1000) (hm : nextC cs = none ∨ nextS ss = none) : dialtonelaw36_rings (cs, (ss, (mo, (mw, (ri, (re, now)))))) = some true := by
  rw [rings_eq]
  have hA : loopO (rngA cs ss) (0, 0) = some (.inl ((cnt (fun i => decide ((cs.getD i dC).2.2.2 = 0)) cs.length : Nat) : Int)) := by
    refine loopO_from (fun k => ((k : Int), ((cnt (fun i => decide ((cs.getD i dC).2.2.2 = 0)) k : Nat) : Int))) cs.length rfl (fun k hk => ?_) ?_
    · obtain ⟨c, hc, hcb⟩ := get_at dC hk
      have hle := cnt_le (fun i => decide ((cs.getD i dC).2.2.2 = 0)) k
      have hI := rngI_j cs ss hk h1 h2
      rw [rngs_cnt h hk] at hI
      show rngA cs ss _ = some (Sum.inl (_, ((cnt (fun i => decide ((cs.getD i dC).2.2.2 = 0)) k + if decide ((cs.getD k dC).2.2.2 = 0) = true then 1 else 0 : Nat) : Int)))
      generalize cnt (fun i => decide ((cs.getD i dC).2.2.2 = 0)) k = n at hle ⊢
      rw [hc] at hI ⊢
      unfold rngA
      by_cases e : c.2.2.2 = 0
      · rw [if_pos e] at hI
        have t1 : decide (((0 : Nat) : Int) = 1) = false := rfl
        have t2 : decide (c.2.2.2 ≠ 0) = false := decide_eq_false (fun q => q e)
        have t3 : decide (((0 : Nat) : Int) = 0) = true := rfl
        simp (disch := (first | omega | (simp only [LNl]; omega))) only [↓SDl, SDr, if_pos, if_neg, ↓hcb, hI, decide_eq_true e, t1, t2, t3, bne_self_eq_false, wrap_i64']
        rfl
      · rw [if_neg e] at hI
        have t1 : decide (((1 : Nat) : Int) = 1) = true := rfl
        have t2 : decide (c.2.2.2 ≠ 0) = true := decide_eq_true e
        have t3 : decide (((1 : Nat) : Int) = 0) = false := rfl
        simp (disch := (first | omega | (simp only [LNl]; omega))) only [↓SDl, SDr, if_pos, if_neg, ↓hcb, hI, decide_eq_false e, t1, t2, t3, bne_self_eq_false, wrap_i64', Bool.false_eq_true, Nat.add_zero]
        rfl
    · unfold rngA
      simp (disch := (first | omega | (simp only [LNl]; omega))) only [↓SDl, SDr, if_neg]
  have hF : loopO (rngF ss) (0, 0) = some (.inl ((cnt (fun i => decide ((ss.getD i dS).2.1 = 1)) ss.length : Nat) : Int)) := by
    refine loopO_from (fun k => ((k : Int), ((cnt (fun i => decide ((ss.getD i dS).2.1 = 1)) k : Nat) : Int))) ss.length rfl (fun k hk => ?_) ?_
    · obtain ⟨x, hx, hxb⟩ := get_at dS hk
      have hle := cnt_le (fun i => decide ((ss.getD i dS).2.1 = 1)) k
      show rngF ss _ = some (Sum.inl (_, ((cnt (fun i => decide ((ss.getD i dS).2.1 = 1)) k + if decide ((ss.getD k dS).2.1 = 1) = true then 1 else 0 : Nat) : Int)))
      generalize cnt (fun i => decide ((ss.getD i dS).2.1 = 1)) k = n at hle ⊢
      rw [hx]
      unfold rngF
      by_cases e : x.2.1 = 1
      · simp (disch := (first | omega | (simp only [LNl]; omega))) only [↓SDl, SDr, if_pos, if_neg, ↓hxb, decide_eq_true e, wrap_i64']
        rfl
      · simp (disch := (first | omega | (simp only [LNl]; omega))) only [↓SDl, SDr, if_pos, if_neg, ↓hxb, decide_eq_false e, wrap_i64', Bool.false_eq_true, Nat.add_zero]
        rfl
    · unfold rngF
      simp (disch := (first | omega | (simp only [LNl]; omega))) only [↓SDl, SDr, if_neg]
  simp only [hA, hF, joinO_inl]
  rcases hm with hm | hm
  · rcases nextC_cases cs with ⟨_, g⟩ | ⟨i, g, _⟩
    · rw [cnt_zero _ cs.length fun i hi => decide_eq_false (g i hi)]
      by_cases e : ((cnt (fun i => decide ((ss.getD i dS).2.1 = 1)) ss.length : Nat) : Int) = 0
      · rw [decide_eq_true e]; rfl
      · rw [decide_eq_false e]; rfl
    · rw [hm] at g; cases g
  · rcases nextS_cases ss with ⟨_, g⟩ | ⟨i, g, _⟩
    · rw [cnt_zero _ ss.length fun i hi => decide_eq_false (g i hi)]; rfl
    · rw [hm] at g; cases g
end Go.Proofs.Ytkmfgldoljegoaa
