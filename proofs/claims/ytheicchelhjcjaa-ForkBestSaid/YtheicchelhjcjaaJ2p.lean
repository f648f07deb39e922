import Derived.Test.YtheicchelhjcjaaJ1p
set_option linter.unusedVariables false
set_option linter.unusedSimpArgs false
set_option maxRecDepth 100000
namespace Go.Proofs.Ytheicchelhjcjaa
open Go.RowKit
theorem get_at {α : Type} {l : List α} {i : Nat} (d : α) (h : i < l.length) : ∃ x, l.getD i d = x ∧ ∀ {β : Type} (f : α → Option β), bindO l[Int.toNat (i : Int)]? f = f x := ⟨_, rfl, fun f => get_bz d f (by omega)⟩
theorem mem_addK {ks : List (List UInt8)} {k u : List UInt8} : u ∈ addK ks k ↔ u = k ∨ u ∈ ks := by
  unfold addK
  by_cases h : k ∈ ks
  · rw [if_pos h]; exact ⟨.inr, fun x => x.elim (fun e => e ▸ h) id⟩
  · rw [if_neg h]; simp [or_comm]
def urls (l : List Br) : Nat → List (List UInt8)
  | 0 => []
  | k + 1 => addK (urls l k) (l.getD k d0).1
theorem mem_urls {l : List Br} {u : List UInt8} {k : Nat} : u ∈ urls l k ↔ ∃ i, i < k ∧ (l.getD i d0).1 = u := by
  induction k with
  | zero => exact ⟨fun h => (by cases h), fun ⟨i, h, _⟩ => by omega⟩
  | succ k ih =>
    unfold urls
    rw [mem_addK, ih]
    constructor
    · rintro (h | ⟨i, h1, h2⟩)
      · exact ⟨k, by omega, h.symm⟩
      · exact ⟨i, by omega, h2⟩
    · rintro ⟨i, h1, h2⟩
      by_cases e : i = k
      · exact .inl (e ▸ h2.symm)
      · exact .inr ⟨i, by omega, h2⟩
noncomputable def vbB (a1 : List Br) : (Int × List (List UInt8)) → Option ((Int × List (List UInt8)) ⊕ ((List (List UInt8)) ⊕ Bool)) :=
(fun (v2, v3) =>
 bif (decide (v2 < (((List.length a1) : Nat) : Int))) then
 bif (decide (((0 : Int) ≤ v2) ∧ (v2 < (((List.length a1) : Nat) : Int)))) then 
 bindO a1[(Int.toNat v2)]? fun x4 =>
 joinO (bif (decide (x4.1 = ([] : List UInt8))) then
 outO (outO (outO (some Bool.false)))
 else
 bif (decide (Membership.mem v3 x4.1)) then
 outO (outO (outO (some Bool.false)))
 else
 bif (decide (x4.2.1 < (0 : Int))) then
 outO (outO (outO (some Bool.false)))
 else
 bif (decide (x4.2.1 > (1000 : Int))) then
 outO (outO (outO (some Bool.false)))
 else
 some (Sum.inl ())) fun _ =>
 joinO (bif (decide (v2 > (0 : Int))) then
 bindO (some (Go.IntKind.wrap .i64 (v2 - (1 : Int)))) fun x5 =>
 bif (decide (((0 : Int) ≤ x5) ∧ (x5 < (((List.length a1) : Nat) : Int)))) then 
 bindO a1[(Int.toNat x5)]? fun x6 =>
 bif (decide (x4.2.1 > x6.2.1)) then
 outO (outO (outO (some Bool.false)))
 else
 bif (decide (x4.2.2.1 > (6 : Int))) then
 outO (outO (outO (some Bool.false)))
 else
 some (Sum.inl ())
 else none
 else
 bif (decide (x4.2.2.1 > (6 : Int))) then
 outO (outO (outO (some Bool.false)))
 else
 some (Sum.inl ())) fun _ =>
 bif (decide (x4.2.2.1 = (5 : Int))) then
 bif (decide (x4.2.2.2 < (200 : Int))) then
 outO (outO (some Bool.false))
 else
 bif (decide (x4.2.2.2 > (699 : Int))) then
 outO (outO (some Bool.false))
 else
 bif (decide (x4.2.2.1 ≠ (5 : Int))) then
 bif (decide (x4.2.2.2 ≠ (0 : Int))) then
 outO (outO (some Bool.false))
 else
 some (Sum.inl ((Go.IntKind.wrap .i64 (v2 + (1 : Int))), (addK v3 x4.1)))
 else
 some (Sum.inl ((Go.IntKind.wrap .i64 (v2 + (1 : Int))), (addK v3 x4.1)))
 else
 bif (decide (x4.2.2.1 ≠ (5 : Int))) then
 bif (decide (x4.2.2.2 ≠ (0 : Int))) then
 outO (outO (some Bool.false))
 else
 some (Sum.inl ((Go.IntKind.wrap .i64 (v2 + (1 : Int))), (addK v3 x4.1)))
 else
 some (Sum.inl ((Go.IntKind.wrap .i64 (v2 + (1 : Int))), (addK v3 x4.1)))
 else none
 else
 outO (some (Sum.inl v3)))
noncomputable def vbX (a1 : List Br) (v2 : Int) (v3 : List (List UInt8)) (x4 : Br) : Option ((Int × List (List UInt8)) ⊕ ((List (List UInt8)) ⊕ Bool)) :=
 joinO (bif (decide (x4.1 = ([] : List UInt8))) then
 outO (outO (outO (some Bool.false)))
 else
 bif (decide (Membership.mem v3 x4.1)) then
 outO (outO (outO (some Bool.false)))
 else
 bif (decide (x4.2.1 < (0 : Int))) then
 outO (outO (outO (some Bool.false)))
 else
 bif (decide (x4.2.1 > (1000 : Int))) then
 outO (outO (outO (some Bool.false)))
 else
 some (Sum.inl ())) fun _ =>
 joinO (bif (decide (v2 > (0 : Int))) then
 bindO (some (Go.IntKind.wrap .i64 (v2 - (1 : Int)))) fun x5 =>
 bif (decide (((0 : Int) ≤ x5) ∧ (x5 < (((List.length a1) : Nat) : Int)))) then 
 bindO a1[(Int.toNat x5)]? fun x6 =>
 bif (decide (x4.2.1 > x6.2.1)) then
 outO (outO (outO (some Bool.false)))
 else
 bif (decide (x4.2.2.1 > (6 : Int))) then
 outO (outO (outO (some Bool.false)))
 else
 some (Sum.inl ())
 else none
 else
 bif (decide (x4.2.2.1 > (6 : Int))) then
 outO (outO (outO (some Bool.false)))
 else
 some (Sum.inl ())) fun _ =>
 bif (decide (x4.2.2.1 = (5 : Int))) then
 bif (decide (x4.2.2.2 < (200 : Int))) then
 outO (outO (some Bool.false))
 else
 bif (decide (x4.2.2.2 > (699 : Int))) then
 outO (outO (some Bool.false))
 else
 bif (decide (x4.2.2.1 ≠ (5 : Int))) then
 bif (decide (x4.2.2.2 ≠ (0 : Int))) then
 outO (outO (some Bool.false))
 else
 some (Sum.inl ((Go.IntKind.wrap .i64 (v2 + (1 : Int))), (addK v3 x4.1)))
 else
 some (Sum.inl ((Go.IntKind.wrap .i64 (v2 + (1 : Int))), (addK v3 x4.1)))
 else
 bif (decide (x4.2.2.1 ≠ (5 : Int))) then
 bif (decide (x4.2.2.2 ≠ (0 : Int))) then
 outO (outO (some Bool.false))
 else
 some (Sum.inl ((Go.IntKind.wrap .i64 (v2 + (1 : Int))), (addK v3 x4.1)))
 else
 some (Sum.inl ((Go.IntKind.wrap .i64 (v2 + (1 : Int))), (addK v3 x4.1)))
theorem vb_eq (a1 : List Br) : fork_validBranches a1 =

  joinO (loopO (vbB a1) ((0 : Int), ([] : List (List UInt8)))) fun v11 =>
  some Bool.true := rfl
noncomputable def voB (a1 : List Br) : Int → Option (Int ⊕ (Unit ⊕ Bool)) :=
(fun v2 =>
 bif (decide (v2 < (((List.length a1) : Nat) : Int))) then
 bindO (some (Go.IntKind.wrap .i64 (v2 - (1 : Int)))) fun x3 =>
 bif (decide (((0 : Int) ≤ x3) ∧ (x3 < (((List.length a1) : Nat) : Int)))) then 
 bindO a1[(Int.toNat x3)]? fun x4 =>
 bif (decide (x4.2.2.1 = (0 : Int))) then
 bif (decide (((0 : Int) ≤ v2) ∧ (v2 < (((List.length a1) : Nat) : Int)))) then 
 bindO a1[(Int.toNat v2)]? fun x5 =>
 bif (decide (x5.2.2.1 = (0 : Int))) then
 some (Sum.inl (Go.IntKind.wrap .i64 (v2 + (1 : Int))))
 else
 bif (!(decide (x5.2.2.1 = (6 : Int)))) then
 outO (outO (some Bool.false))
 else
 some (Sum.inl (Go.IntKind.wrap .i64 (v2 + (1 : Int))))
 else none
 else
 bif (decide (((0 : Int) ≤ v2) ∧ (v2 < (((List.length a1) : Nat) : Int)))) then 
 bindO a1[(Int.toNat v2)]? fun x8 =>
 bif (decide (x8.2.2.1 = (0 : Int))) then
 bif (decide (x4.2.2.1 = (6 : Int))) then
 bif (!(decide (x4.2.2.1 = (6 : Int)))) then
 bif (decide (((0 : Int) ≤ v2) ∧ (v2 < (((List.length a1) : Nat) : Int)))) then 
 bindO a1[(Int.toNat v2)]? fun x9 =>
 bindO (some (Go.IntKind.wrap .i64 (v2 - (1 : Int)))) fun x10 =>
 bif (decide (((0 : Int) ≤ x10) ∧ (x10 < (((List.length a1) : Nat) : Int)))) then 
 bindO a1[(Int.toNat x10)]? fun x11 =>
 bif (decide (x9.2.1 ≥ x11.2.1)) then
 outO (outO (some Bool.false))
 else
 some (Sum.inl (Go.IntKind.wrap .i64 (v2 + (1 : Int))))
 else none
 else none
 else
 some (Sum.inl (Go.IntKind.wrap .i64 (v2 + (1 : Int))))
 else
 bif (!(decide (x4.2.2.1 = (6 : Int)))) then
 bif (decide (((0 : Int) ≤ v2) ∧ (v2 < (((List.length a1) : Nat) : Int)))) then 
 bindO a1[(Int.toNat v2)]? fun x14 =>
 bindO (some (Go.IntKind.wrap .i64 (v2 - (1 : Int)))) fun x15 =>
 bif (decide (((0 : Int) ≤ x15) ∧ (x15 < (((List.length a1) : Nat) : Int)))) then 
 bindO a1[(Int.toNat x15)]? fun x16 =>
 bif (decide (x14.2.1 ≥ x16.2.1)) then
 outO (outO (some Bool.false))
 else
 some (Sum.inl (Go.IntKind.wrap .i64 (v2 + (1 : Int))))
 else none
 else none
 else
 some (Sum.inl (Go.IntKind.wrap .i64 (v2 + (1 : Int))))
 else
 bif (decide (x4.2.2.1 = (6 : Int))) then
 bif (!(decide (x8.2.2.1 = (6 : Int)))) then
 outO (outO (some Bool.false))
 else
 bif (!(decide (x4.2.2.1 = (6 : Int)))) then
 bif (decide (x8.2.2.1 = (6 : Int))) then
 bif (decide (((0 : Int) ≤ v2) ∧ (v2 < (((List.length a1) : Nat) : Int)))) then 
 bindO a1[(Int.toNat v2)]? fun x19 =>
 bindO (some (Go.IntKind.wrap .i64 (v2 - (1 : Int)))) fun x20 =>
 bif (decide (((0 : Int) ≤ x20) ∧ (x20 < (((List.length a1) : Nat) : Int)))) then 
 bindO a1[(Int.toNat x20)]? fun x21 =>
 bif (decide (x19.2.1 ≥ x21.2.1)) then
 outO (outO (some Bool.false))
 else
 some (Sum.inl (Go.IntKind.wrap .i64 (v2 + (1 : Int))))
 else none
 else none
 else
 some (Sum.inl (Go.IntKind.wrap .i64 (v2 + (1 : Int))))
 else
 some (Sum.inl (Go.IntKind.wrap .i64 (v2 + (1 : Int))))
 else
 bif (!(decide (x4.2.2.1 = (6 : Int)))) then
 bif (decide (x8.2.2.1 = (6 : Int))) then
 bif (decide (((0 : Int) ≤ v2) ∧ (v2 < (((List.length a1) : Nat) : Int)))) then 
 bindO a1[(Int.toNat v2)]? fun x25 =>
 bindO (some (Go.IntKind.wrap .i64 (v2 - (1 : Int)))) fun x26 =>
 bif (decide (((0 : Int) ≤ x26) ∧ (x26 < (((List.length a1) : Nat) : Int)))) then 
 bindO a1[(Int.toNat x26)]? fun x27 =>
 bif (decide (x25.2.1 ≥ x27.2.1)) then
 outO (outO (some Bool.false))
 else
 some (Sum.inl (Go.IntKind.wrap .i64 (v2 + (1 : Int))))
 else none
 else none
 else
 some (Sum.inl (Go.IntKind.wrap .i64 (v2 + (1 : Int))))
 else
 some (Sum.inl (Go.IntKind.wrap .i64 (v2 + (1 : Int))))
 else none
 else none
 else
 outO (some (Sum.inl ())))
theorem vo_eq (a1 : List Br) : fork_validOrder a1 =

  joinO (loopO (voB a1) (1 : Int)) fun _ =>
  some Bool.true := rfl
abbrev Cs := Int × (Int × (Int × (Int × (Bool × Bool))))
noncomputable def coB (a1 : List Br) : (Int × Cs) → Option ((Int × Cs) ⊕ (Cs ⊕ Cs)) :=
(fun (v2, (v3, (v4, (v5, (v6, (v7, v8)))))) =>
 bif (decide (v2 < (((List.length a1) : Nat) : Int))) then
 bif (decide (((0 : Int) ≤ v2) ∧ (v2 < (((List.length a1) : Nat) : Int)))) then 
 bindO a1[(Int.toNat v2)]? fun x9 =>
 joinO (bif (decide (x9.2.2.1 = (1 : Int))) then
 some (Sum.inl Bool.true)
 else
 some (Sum.inl (decide (x9.2.2.1 = (2 : Int))))) fun v10 =>
 bif v10 then
 some (Sum.inl ((Go.IntKind.wrap .i64 (v2 + (1 : Int))), ((Go.IntKind.wrap .i64 (v3 + (1 : Int))), (v4, (v5, (v6, (v7, v8)))))))
 else
 joinO (bif (decide (x9.2.2.1 = (3 : Int))) then
 some (Sum.inl Bool.true)
 else
 some (Sum.inl (decide (x9.2.2.1 = (4 : Int))))) fun v13 =>
 bif v13 then
 some (Sum.inl ((Go.IntKind.wrap .i64 (v2 + (1 : Int))), (v3, ((Go.IntKind.wrap .i64 (v4 + (1 : Int))), (v5, (v6, (v7, v8)))))))
 else
 bif (decide (x9.2.2.1 = (0 : Int))) then
 some (Sum.inl ((Go.IntKind.wrap .i64 (v2 + (1 : Int))), (v3, (v4, ((Go.IntKind.wrap .i64 (v5 + (1 : Int))), (v6, (v7, v8)))))))
 else
 bif (decide (x9.2.2.1 = (6 : Int))) then
 some (Sum.inl ((Go.IntKind.wrap .i64 (v2 + (1 : Int))), (v3, (v4, (v5, ((Go.IntKind.wrap .i64 (v6 + (1 : Int))), (v7, v8)))))))
 else
 bif (decide (x9.2.2.1 = (5 : Int))) then
 bif v7 then
 bif v8 then
 some (Sum.inl ((Go.IntKind.wrap .i64 (v2 + (1 : Int))), (v3, (v4, (v5, (v6, (Bool.true, Bool.true)))))))
 else
 some (Sum.inl ((Go.IntKind.wrap .i64 (v2 + (1 : Int))), (v3, (v4, (v5, (v6, (Bool.true, (decide (x9.2.2.2 ≥ (600 : Int))))))))))
 else
 bif v8 then
 some (Sum.inl ((Go.IntKind.wrap .i64 (v2 + (1 : Int))), (v3, (v4, (v5, (v6, ((decide (x9.2.2.2 < (300 : Int))), Bool.true)))))))
 else
 some (Sum.inl ((Go.IntKind.wrap .i64 (v2 + (1 : Int))), (v3, (v4, (v5, (v6, ((decide (x9.2.2.2 < (300 : Int))), (decide (x9.2.2.2 ≥ (600 : Int))))))))))
 else
 some (Sum.inl ((Go.IntKind.wrap .i64 (v2 + (1 : Int))), (v3, (v4, (v5, (v6, (v7, v8)))))))
 else none
 else
 outO (some (Sum.inl (v3, (v4, (v5, (v6, (v7, v8))))))))
theorem co_eq (a1 : List Br) : fork_count a1 =

  joinO (loopO (coB a1) ((0 : Int), ((0 : Int), ((0 : Int), ((0 : Int), ((0 : Int), (Bool.false, Bool.false))))))) fun (v25, (v26, (v27, (v28, (v29, v30))))) =>
  some (v25, (v26, (v27, (v28, (v29, v30))))) := rfl
structure VB (l : List Br) (i : Nat) : Prop where
  b : B1 (l.getD i d0)
  u : ∀ k, k < i → (l.getD k d0).1 ≠ (l.getD i d0).1
  q : 0 < i → (l.getD i d0).2.1 ≤ (l.getD (i - 1) d0).2.1
theorem vbX_round {l : List Br} {i : Nat} (hi : i < l.length) (hl : l.length ≤ 1000) {x : Br} {ks : List (List UInt8)} (hu : ¬ x.1 ∈ ks) :
    ((B1 x ∧ ¬ (0 < i ∧ x.2.1 > (l.getD (i - 1) d0).2.1)) ∧ vbX l (i : Int) ks x = some (.inl (((i + 1 : Nat) : Int), addK ks x.1))) ∨ (¬ (B1 x ∧ ¬ (0 < i ∧ x.2.1 > (l.getD (i - 1) d0).2.1)) ∧ vbX l (i : Int) ks x = some (.inr (.inr false))) := by
  have hn : ((i : Int) + 1) = ((i + 1 : Nat) : Int) := rfl
  obtain ⟨u, q, s, c⟩ := x
  have hB : B1 (u, (q, (s, c))) ↔ (u ≠ [] ∧ 0 ≤ q ∧ q ≤ 1000 ∧ s ≤ 6 ∧ (s = 5 → 200 ≤ c ∧ c ≤ 699) ∧ (s ≠ 5 → c = 0)) := ⟨fun ⟨x1, x2, x3, x4, x5, x6⟩ => ⟨x1, x2, x3, x4, x5, x6⟩, fun ⟨x1, x2, x3, x4, x5, x6⟩ => ⟨x1, x2, x3, x4, x5, x6⟩⟩
  rw [hB]
  unfold vbX
  have hu' : ¬ u ∈ ks := hu
  by_cases h0 : 0 < i
  · have hm : Int.toNat ((i : Int) - 1) = i - 1 := by omega
    simp (disch := omega) only [↓bindO_some, ↓bindO_none, ↓joinO_inl, ↓joinO_inr, ↓joinO_none, ↓outO_some, ↓outO_none, ↓cond_true, ↓cond_false, ↓cond_and, ↓cond_or, ↓cond_not, ↓cond_ite, ↓if_pos, ↓if_neg, ↓if_true, ↓if_false, List.take_length, Nat.le_refl, Bool.not_true, Bool.not_false, ↓get_bz d0, Int.toNat_natCast, hu', decide_false, wrap_i64', hm, hn, ↓get_b d0]
    obtain ⟨p, hp⟩ : ∃ p, (l.getD (i - 1) d0).2.1 = p := ⟨_, rfl⟩
    simp only [hp]
    by_cases g1 : u = []
    · right; simp [g1, joinO, outO]
    by_cases g2 : q < 0
    · right; simp [g1, g2, joinO, outO] <;> omega
    by_cases g3 : q > 1000
    · right; simp [g1, g2, g3, joinO, outO] <;> omega
    by_cases g4 : q > p
    · right; simp [g1, g2, g3, g4, joinO, outO] <;> omega
    by_cases g5 : s > 6
    · right; simp [g1, g2, g3, g4, g5, joinO, outO] <;> omega
    by_cases g6 : s = 5
    · by_cases g7 : c < 200
      · right; simp [g1, g2, g3, g4, g5, g6, g7, joinO, outO] <;> omega
      by_cases g8 : c > 699
      · right; simp [g1, g2, g3, g4, g5, g6, g7, g8, joinO, outO] <;> omega
      · left; simp [g1, g2, g3, g4, g5, g6, g7, g8, joinO, outO] <;> omega
    · by_cases g7 : c = 0
      · left; simp [g1, g2, g3, g4, g5, g6, g7, joinO, outO] <;> omega
      · right; simp [g1, g2, g3, g4, g5, g6, g7, joinO, outO]
  · simp (disch := omega) only [↓bindO_some, ↓bindO_none, ↓joinO_inl, ↓joinO_inr, ↓joinO_none, ↓outO_some, ↓outO_none, ↓cond_true, ↓cond_false, ↓cond_and, ↓cond_or, ↓cond_not, ↓cond_ite, ↓if_pos, ↓if_neg, ↓if_true, ↓if_false, List.take_length, Nat.le_refl, Bool.not_true, Bool.not_false, ↓get_bz d0, Int.toNat_natCast, hu', decide_false, wrap_i64', hn]
    by_cases g1 : u = []
    · right; simp [g1, joinO, outO]
    by_cases g2 : q < 0
    · right; simp [g1, g2, joinO, outO] <;> omega
    by_cases g3 : q > 1000
    · right; simp [g1, g2, g3, joinO, outO] <;> omega
    by_cases g5 : s > 6
    · right; simp [g1, g2, g3, g5, joinO, outO] <;> omega
    by_cases g6 : s = 5
    · by_cases g7 : c < 200
      · right; simp [g1, g2, g3, g5, g6, g7, joinO, outO] <;> omega
      by_cases g8 : c > 699
      · right; simp [g1, g2, g3, g5, g6, g7, g8, joinO, outO] <;> omega
      · left; simp [g1, g2, g3, g5, g6, g7, g8, joinO, outO] <;> omega
    · by_cases g7 : c = 0
      · left; simp [g1, g2, g3, g5, g6, g7, joinO, outO] <;> omega
      · right; simp [g1, g2, g3, g5, g6, g7, joinO, outO]
theorem vb_round {l : List Br} {i : Nat} (hi : i < l.length) (hl : l.length ≤ 1000) :
    (VB l i ∧ vbB l ((i : Int), urls l i) = some (.inl (((i + 1 : Nat) : Int), urls l (i + 1)))) ∨ (¬ VB l i ∧ vbB l ((i : Int), urls l i) = some (.inr (.inr false))) := by
  by_cases hu : (l.getD i d0).1 ∈ urls l i
  · right
    refine ⟨fun h => ?_, ?_⟩
    · obtain ⟨k, k1, k2⟩ := mem_urls.1 hu
      exact h.u k k1 k2
    · unfold vbB
      simp (disch := omega) only [↓bindO_some, ↓bindO_none, ↓joinO_inl, ↓joinO_inr, ↓joinO_none, ↓outO_some, ↓outO_none, ↓cond_true, ↓cond_false, ↓cond_and, ↓cond_or, ↓cond_not, ↓cond_ite, ↓if_pos, ↓if_neg, ↓if_true, ↓if_false, List.take_length, Nat.le_refl, Bool.not_true, Bool.not_false, ↓get_bz d0, Int.toNat_natCast, hu, decide_true]
      split <;> rfl
  · have hu' : ∀ k, k < i → (l.getD k d0).1 ≠ (l.getD i d0).1 := fun k k1 k2 => hu (mem_urls.2 ⟨k, k1, k2⟩)
    have hq : (0 < i ∧ (l.getD i d0).2.1 > (l.getD (i - 1) d0).2.1) ∨ ¬ (0 < i ∧ (l.getD i d0).2.1 > (l.getD (i - 1) d0).2.1) := Classical.em _
    have hs : (VB l i) ↔ (B1 (l.getD i d0) ∧ ¬ (0 < i ∧ (l.getD i d0).2.1 > (l.getD (i - 1) d0).2.1)) := ⟨fun h => ⟨h.b, fun k => by have := h.q k.1; omega⟩, fun h => ⟨h.1, hu', fun k => by have := h.2; omega⟩⟩
    rw [hs]
    have hx : urls l (i + 1) = addK (urls l i) (l.getD i d0).1 := rfl
    rw [hx]
    have hn : ((i : Int) + 1) = ((i + 1 : Nat) : Int) := rfl
    have ht : vbB l ((i : Int), urls l i) = vbX l (i : Int) (urls l i) (l.getD i d0) := by
      show (bif (decide ((i : Int) < (((List.length l) : Nat) : Int))) then bif (decide (((0 : Int) ≤ (i : Int)) ∧ ((i : Int) < (((List.length l) : Nat) : Int)))) then bindO l[(Int.toNat (i : Int))]? (vbX l (i : Int) (urls l i)) else none else outO (some (Sum.inl (urls l i)))) = _
      simp (disch := omega) only [↓bindO_some, ↓bindO_none, ↓joinO_inl, ↓joinO_inr, ↓joinO_none, ↓outO_some, ↓outO_none, ↓cond_true, ↓cond_false, ↓cond_and, ↓cond_or, ↓cond_not, ↓cond_ite, ↓if_pos, ↓if_neg, ↓if_true, ↓if_false, List.take_length, Nat.le_refl, Bool.not_true, Bool.not_false, ↓get_bz d0, Int.toNat_natCast]
    rw [ht]
    exact vbX_round hi hl hu
theorem vb_j {l : List Br} (hl : l.length ≤ 1000) : Is (fork_validBranches l) (∀ i, i < l.length → VB l i) := by
  rw [vb_eq]
  have hs := loopO_search (body := vbB l) (fun k => ((k : Int), urls l k)) l.length (fun k => ¬ VB l k) (r0 := .inl (urls l l.length)) (r1 := .inr false) (x := (0, [])) rfl
    (fun k hk hb => by
      rcases vb_round hk hl with ⟨_, e⟩ | ⟨h, _⟩
      · exact e
      · exact (hb h).elim)
    (fun k hk hb => by
      rcases vb_round hk hl with ⟨h, _⟩ | ⟨_, e⟩
      · exact (hb h).elim
      · exact e)
    (by unfold vbB; simp (disch := omega) only [↓bindO_some, ↓bindO_none, ↓joinO_inl, ↓joinO_inr, ↓joinO_none, ↓outO_some, ↓outO_none, ↓cond_true, ↓cond_false, ↓cond_and, ↓cond_or, ↓cond_not, ↓cond_ite, ↓if_pos, ↓if_neg, ↓if_true, ↓if_false, List.take_length, Nat.le_refl, Bool.not_true, Bool.not_false])
  rcases hs with ⟨⟨k, h1, h2⟩, e⟩ | ⟨h, e⟩
  · rw [e]; exact .f fun h => h2 (h k h1)
  · rw [e]; exact .t fun k hk => Classical.byContradiction fun hb => h ⟨k, hk, hb⟩
def VO (l : List Br) (i : Nat) : Prop := (Er (l.getD i d0) → Er (l.getD (i + 1) d0)) ∧ (¬ Er (l.getD i d0) → Er (l.getD (i + 1) d0) → (l.getD (i + 1) d0).2.1 < (l.getD i d0).2.1)
theorem vo_round {l : List Br} {i : Nat} (hi : i + 1 < l.length) (hl : l.length ≤ 1000) :
    (VO l i ∧ voB l ((i + 1 : Nat) : Int) = some (.inl ((i + 1 + 1 : Nat) : Int))) ∨ (¬ VO l i ∧ voB l ((i + 1 : Nat) : Int) = some (.inr (.inr false))) := by
  have hm : Int.toNat (((i + 1 : Nat) : Int) - 1) = i := by omega
  have hn : (((i + 1 : Nat) : Int) + 1) = ((i + 1 + 1 : Nat) : Int) := rfl
  unfold VO
  unfold voB
  simp (disch := omega) only [↓bindO_some, ↓bindO_none, ↓joinO_inl, ↓joinO_inr, ↓joinO_none, ↓outO_some, ↓outO_none, ↓cond_true, ↓cond_false, ↓cond_and, ↓cond_or, ↓cond_not, ↓cond_ite, ↓if_pos, ↓if_neg, ↓if_true, ↓if_false, List.take_length, Nat.le_refl, Bool.not_true, Bool.not_false, ↓get_bz d0, Int.toNat_natCast, wrap_i64', hm, hn, ↓get_b d0]
  generalize l.getD i d0 = x
  generalize l.getD (i + 1) d0 = y
  obtain ⟨u, q, s, c⟩ := x
  obtain ⟨u', q', s', c'⟩ := y
  by_cases h1 : s = 0 <;> by_cases h2 : s = 6 <;> by_cases h3 : s' = 0 <;> by_cases h4 : s' = 6 <;> by_cases h5 : q' ≥ q <;> simp [h1, h2, h3, h4, h5, cond_ite, outO, Er] <;> omega
theorem vo_j {l : List Br} (hl : l.length ≤ 1000) : Is (fork_validOrder l) (∀ i, i + 1 < l.length → VO l i) := by
  rw [vo_eq]
  have hs := loopO_search (body := voB l) (fun k => ((k + 1 : Nat) : Int)) (l.length - 1) (fun k => ¬ VO l k) (r0 := .inl ()) (r1 := .inr false) (x := 1) rfl
    (fun k hk hb => by
      rcases vo_round (i := k) (l := l) (by omega) hl with ⟨_, e⟩ | ⟨h, _⟩
      · exact e
      · exact (hb h).elim)
    (fun k hk hb => by
      rcases vo_round (i := k) (l := l) (by omega) hl with ⟨h, _⟩ | ⟨_, e⟩
      · exact (hb h).elim
      · exact e)
    (by unfold voB; simp (disch := omega) only [↓bindO_some, ↓bindO_none, ↓joinO_inl, ↓joinO_inr, ↓joinO_none, ↓outO_some, ↓outO_none, ↓cond_true, ↓cond_false, ↓cond_and, ↓cond_or, ↓cond_not, ↓cond_ite, ↓if_pos, ↓if_neg, ↓if_true, ↓if_false, List.take_length, Nat.le_refl, Bool.not_true, Bool.not_false])
  rcases hs with ⟨⟨k, h1, h2⟩, e⟩ | ⟨h, e⟩
  · rw [e]; exact .f fun h => h2 (h k (by omega))
  · rw [e]; exact .t fun k hk => Classical.byContradiction fun hb => h ⟨k, by omega, hb⟩
def cn (p : Br → Bool) (l : List Br) : Nat → Nat
  | 0 => 0
  | k + 1 => cn p l k + if p (l.getD k d0) then 1 else 0
def ex (p : Br → Bool) (l : List Br) : Nat → Bool
  | 0 => false
  | k + 1 => ex p l k || p (l.getD k d0)
theorem cn_succ (p : Br → Bool) (l : List Br) (k : Nat) : cn p l (k + 1) = cn p l k + if p (l.getD k d0) then 1 else 0 := rfl
theorem ex_succ (p : Br → Bool) (l : List Br) (k : Nat) : ex p l (k + 1) = (ex p l k || p (l.getD k d0)) := rfl
theorem cn_le (p : Br → Bool) (l : List Br) (k : Nat) : cn p l k ≤ k := by
  induction k with
  | zero => exact Nat.le_refl _
  | succ k ih => unfold cn; split <;> omega
theorem cn_pos {p : Br → Bool} {l : List Br} {k : Nat} : 0 < cn p l k ↔ ∃ i, i < k ∧ p (l.getD i d0) = true := by
  induction k with
  | zero => exact ⟨fun h => (by cases h), fun ⟨i, h, _⟩ => by omega⟩
  | succ k ih =>
    unfold cn
    constructor
    · intro h
      by_cases e : p (l.getD k d0) = true
      · exact ⟨k, by omega, e⟩
      · rw [if_neg e] at h
        obtain ⟨i, h1, h2⟩ := ih.1 (by omega)
        exact ⟨i, by omega, h2⟩
    · rintro ⟨i, h1, h2⟩
      by_cases e : i = k
      · rw [if_pos (e ▸ h2)]; omega
      · have := ih.2 ⟨i, by omega, h2⟩; omega
theorem ex_iff {p : Br → Bool} {l : List Br} {k : Nat} : ex p l k = true ↔ ∃ i, i < k ∧ p (l.getD i d0) = true := by
  induction k with
  | zero => exact ⟨fun h => (by cases h), fun ⟨i, h, _⟩ => by omega⟩
  | succ k ih =>
    unfold ex
    rw [Bool.or_eq_true, ih]
    constructor
    · rintro (⟨i, h1, h2⟩ | h)
      · exact ⟨i, by omega, h2⟩
      · exact ⟨k, by omega, h⟩
    · rintro ⟨i, h1, h2⟩
      by_cases e : i = k
      · exact .inr (e ▸ h2)
      · exact .inl ⟨i, by omega, h2⟩
def pL (x : Br) : Bool := decide (x.2.2.1 = 1 ∨ x.2.2.1 = 2)
def pT (x : Br) : Bool := decide (x.2.2.1 = 3 ∨ x.2.2.1 = 4)
def pW (x : Br) : Bool := decide (x.2.2.1 = 0)
def pS (x : Br) : Bool := decide (x.2.2.1 = 6)
def pA (x : Br) : Bool := decide (x.2.2.1 = 5 ∧ x.2.2.2 < 300)
def pR (x : Br) : Bool := decide (x.2.2.1 = 5 ∧ x.2.2.2 ≥ 600)
def cst (l : List Br) (k : Nat) : Cs := ((cn pL l k : Int), ((cn pT l k : Int), ((cn pW l k : Int), ((cn pS l k : Int), (ex pA l k, ex pR l k)))))
theorem co_round {l : List Br} {i : Nat} (hi : i < l.length) (hl : l.length ≤ 1000) : coB l ((i : Int), cst l i) = some (.inl (((i + 1 : Nat) : Int), cst l (i + 1))) := by
  have h1 := cn_le pL l i
  have h2 := cn_le pT l i
  have h3 := cn_le pW l i
  have h4 := cn_le pS l i
  unfold cst coB
  obtain ⟨x, hx, hb⟩ := get_at d0 hi
  simp only [cn_succ, ex_succ, hx]
  simp (disch := omega) only [↓bindO_some, ↓bindO_none, ↓joinO_inl, ↓joinO_inr, ↓joinO_none, ↓outO_some, ↓outO_none, ↓cond_true, ↓cond_false, ↓cond_and, ↓cond_or, ↓cond_not, ↓cond_ite, ↓if_pos, ↓if_neg, ↓if_true, ↓if_false, List.take_length, Nat.le_refl, Bool.not_true, Bool.not_false, ↓hb, wrap_i64']
  generalize cn pL l i = n1 at *
  generalize cn pT l i = n2 at *
  generalize cn pW l i = n3 at *
  generalize cn pS l i = n4 at *
  generalize ex pA l i = b1 at *
  generalize ex pR l i = b2 at *
  obtain ⟨u, q, s, c⟩ := x
  unfold pL pT pW pS pA pR
  by_cases s1 : s = 1
  · simp [s1, joinO]
  by_cases s2 : s = 2
  · simp [s2, joinO]
  by_cases s3 : s = 3
  · simp [s3, joinO]
  by_cases s4 : s = 4
  · simp [s4, joinO]
  by_cases s5 : s = 0
  · simp [s5, joinO]
  by_cases s6 : s = 6
  · simp [s6, joinO]
  by_cases s7 : s = 5
  · cases b1 <;> cases b2 <;> simp [s7, joinO]
  · simp [s1, s2, s3, s4, s5, s6, s7, joinO]
theorem co_j {l : List Br} (hl : l.length ≤ 1000) : fork_count l = some (cst l l.length) := by
  rw [co_eq, loopO_from (body := coB l) (fun k => ((k : Int), cst l k)) l.length (x := ((0 : Int), ((0 : Int), ((0 : Int), ((0 : Int), ((0 : Int), (false, false))))))) (r := .inl (cst l l.length)) rfl (fun i hi => co_round hi hl) (by unfold coB cst; simp (disch := omega) only [↓bindO_some, ↓bindO_none, ↓joinO_inl, ↓joinO_inr, ↓joinO_none, ↓outO_some, ↓outO_none, ↓cond_true, ↓cond_false, ↓cond_and, ↓cond_or, ↓cond_not, ↓cond_ite, ↓if_pos, ↓if_neg, ↓if_true, ↓if_false, List.take_length, Nat.le_refl, Bool.not_true, Bool.not_false])]
  rfl
theorem vw_j {l : List Br} (a2 : Int) (a3 a4 a5 a10 a11 : Bool) (x6 x7 x8 x9 : Int) : Is (fork_validWinner ((l, (a2, (a3, (a4, a5)))), (x6, (x7, (x8, (x9, (a10, a11))))))) ((a2 = -1 ∧ (a3 = true ∨ a10 = false)) ∨ (0 ≤ a2 ∧ a2 < (l.length : Int) ∧ (l.getD a2.toNat d0).2.2.1 = 5 ∧ (l.getD a2.toNat d0).2.2.2 < 300 ∧ a5 = true ∧ a4 = true ∧ a3 = false)) := by
  unfold fork_validWinner
  by_cases h1 : a2 = -1
  · cases a3 <;> cases a10 <;> simp [h1, Is]
  by_cases h2 : a2 < 0
  · simp (disch := omega) only [↓bindO_some, ↓bindO_none, ↓joinO_inl, ↓joinO_inr, ↓joinO_none, ↓outO_some, ↓outO_none, ↓cond_true, ↓cond_false, ↓cond_and, ↓cond_or, ↓cond_not, ↓cond_ite, ↓if_pos, ↓if_neg, ↓if_true, ↓if_false, List.take_length, Nat.le_refl, Bool.not_true, Bool.not_false]; exact .f (by omega)
  by_cases h3 : a2 ≥ (l.length : Int)
  · simp (disch := omega) only [↓bindO_some, ↓bindO_none, ↓joinO_inl, ↓joinO_inr, ↓joinO_none, ↓outO_some, ↓outO_none, ↓cond_true, ↓cond_false, ↓cond_and, ↓cond_or, ↓cond_not, ↓cond_ite, ↓if_pos, ↓if_neg, ↓if_true, ↓if_false, List.take_length, Nat.le_refl, Bool.not_true, Bool.not_false]; exact .f (by omega)
  simp (disch := omega) only [↓bindO_some, ↓bindO_none, ↓joinO_inl, ↓joinO_inr, ↓joinO_none, ↓outO_some, ↓outO_none, ↓cond_true, ↓cond_false, ↓cond_and, ↓cond_or, ↓cond_not, ↓cond_ite, ↓if_pos, ↓if_neg, ↓if_true, ↓if_false, List.take_length, Nat.le_refl, Bool.not_true, Bool.not_false, ↓get_bz d0]
  generalize l.getD a2.toNat d0 = x
  cases a3 <;> cases a4 <;> cases a5 <;> by_cases h4 : x.2.2.1 = 5 <;> by_cases h5 : x.2.2.2 < 300 <;> simp [h4, h5, Is, h1, cond_ite] <;> omega
theorem Is.bnd {v o : Option Bool} {P Q : Prop} (hv : Is v P) (ho : Is o Q) : Is (bindO v fun x => bif (!x) then some Bool.false else o) (P ∧ Q) := by
  rcases hv with ⟨h, e⟩ | ⟨h, e⟩
  · rw [e]; exact ho.iff ⟨fun q => ⟨h, q⟩, fun q => q.2⟩
  · rw [e]; exact .inr ⟨fun q => h q.1, rfl⟩
def VQ (l : List Br) (a2 : Int) (a3 a4 a5 : Bool) : Prop :=
  (l.length ≤ 16 ∧ (∀ i, i < l.length → VB l i) ∧ (∀ i, i + 1 < l.length → VO l i)) ∧
  ((0 < cn pW l l.length → ¬ 0 < cn pS l l.length ∧ a5 = false) ∧ (0 < cn pS l l.length → a5 = true)) ∧
  ((a2 = -1 ∧ (a3 = true ∨ ex pA l l.length = false)) ∨ (0 ≤ a2 ∧ a2 < (l.length : Int) ∧ (l.getD a2.toNat d0).2.2.1 = 5 ∧ (l.getD a2.toNat d0).2.2.2 < 300 ∧ a5 = true ∧ a4 = true ∧ a3 = false)) ∧
  (a4 = false → a3 = false ∧ ex pR l l.length = false ∧ ¬ 0 < cn pT l l.length) ∧
  ((a4 = true → ¬ 0 < cn pL l l.length) ∧ (a5 = false → 0 < cn pL l l.length + cn pT l l.length) ∧ (a5 = true → a2 = -1 → ¬ 0 < cn pL l l.length + cn pT l l.length))
theorem validP_j (l : List Br) (a2 : Int) (a3 a4 a5 : Bool) : Is (fork_Valid (l, (a2, (a3, (a4, a5))))) (VQ l a2 a3 a4 a5) := by
  unfold fork_Valid VQ
  by_cases h0 : l.length ≤ 16
  · have hl : l.length ≤ 1000 := by omega
    have hvb := vb_j hl
    have hvo := vo_j hl
    have hc := co_j hl
    have hw := vw_j (l := l) a2 a3 a4 a5 (ex pA l l.length) (ex pR l l.length) (cn pL l l.length) (cn pT l l.length) (cn pW l l.length) (cn pS l l.length)
    have h1 := cn_le pL l l.length
    have h2 := cn_le pT l l.length
    have h3 := cn_le pW l l.length
    have h4 := cn_le pS l l.length
    refine Is.and ?_ _ ?_
    · rw [hc]
      unfold cst
      generalize cn pL l l.length = n1 at *
      generalize cn pT l l.length = n2 at *
      generalize cn pW l l.length = n3 at *
      generalize cn pS l l.length = n4 at *
      generalize ex pA l l.length = b1 at *
      generalize ex pR l l.length = b2 at *
      show Is (joinO _ fun _ => bindO _ fun x => bif (!x) then some Bool.false else joinO _ fun _ => _) _
      refine Is.and ?_ _ ?_
      · refine Is.bnd hw ?_
        refine Is.and ?_ _ ?_
        · have hx : Go.IntKind.wrap .i64 ((n1 : Int) + (n2 : Int)) = (n1 : Int) + n2 := wrap_i64' (by omega)
          rw [hx]
          have hy : decide ((n1 : Int) > 0) = decide (0 < n1) := by congr 1; simp
          have hz : decide ((n1 : Int) + n2 > 0) = decide (0 < n1 + n2) := by congr 1; simp; omega
          simp only [hy, hz, bindO]
          cases a4 <;> cases a5 <;> by_cases g1 : 0 < n1 <;> by_cases g2 : 0 < n1 + n2 <;> by_cases g3 : a2 = -1 <;> simp [g1, g2, g3, Is] <;> omega
        · cases a4 <;> cases a3 <;> cases b2 <;> by_cases g1 : 0 < n2 <;> simp [g1, outO] <;> omega
      · cases a5 <;> by_cases g1 : 0 < n3 <;> by_cases g2 : 0 < n4 <;> simp [g1, g2, outO] <;> omega
    · have hg : decide ((((List.length l) : Nat) : Int) > (16 : Int)) = false := decide_eq_false (by omega)
      rw [hg]
      rcases hvb with ⟨k1, e1⟩ | ⟨k1, e1⟩ <;> rcases hvo with ⟨k2, e2⟩ | ⟨k2, e2⟩ <;> rw [e1] <;> simp only [cond_false, cond_true, bindO, Bool.not_true, Bool.not_false] <;> (try rw [e2]) <;> simp only [cond_false, cond_true, bindO, Bool.not_true, Bool.not_false, outO]
      · exact .inl ⟨⟨h0, k1, k2⟩, trivial⟩
      · exact .inr ⟨fun h => k2 h.2.2, trivial⟩
      · exact .inr ⟨fun h => k1 h.2.1, trivial⟩
      · exact .inr ⟨fun h => k1 h.2.1, trivial⟩
  · have hg : decide ((((List.length l) : Nat) : Int) > (16 : Int)) = true := decide_eq_true (by omega)
    show Is (joinO (bif decide ((((List.length l) : Nat) : Int) > (16 : Int)) then _ else _) _) _
    rw [hg]
    exact .inr ⟨fun h => h0 h.1.1, rfl⟩
theorem VO.chain {l : List Br} (hb : ∀ i, i < l.length → VB l i) (ho : ∀ i, i + 1 < l.length → VO l i) {k i : Nat} (h : k ≤ i) (hi : i < l.length) :
    (l.getD i d0).2.1 ≤ (l.getD k d0).2.1 ∧ (Er (l.getD k d0) → Er (l.getD i d0)) ∧ (¬ Er (l.getD k d0) → Er (l.getD i d0) → (l.getD i d0).2.1 < (l.getD k d0).2.1) := by
  induction i with
  | zero =>
    have : k = 0 := by omega
    subst this
    exact ⟨Int.le_refl _, id, fun h1 h2 => (h1 h2).elim⟩
  | succ i ih =>
    by_cases e : k = i + 1
    · subst e
      exact ⟨Int.le_refl _, id, fun h1 h2 => (h1 h2).elim⟩
    · obtain ⟨x1, x2, x3⟩ := ih (by omega) (by omega)
      have y := (hb (i + 1) hi).q (by omega)
      rw [Nat.add_sub_cancel] at y
      obtain ⟨z1, z2⟩ := ho i hi
      refine ⟨by omega, fun h1 => z1 (x2 h1), fun h1 h2 => ?_⟩
      by_cases g : Er (l.getD i d0)
      · have := x3 h1 g; omega
      · have := z2 g h2; omega
theorem pS_iff {x : Br} : pS x = true ↔ x.2.2.1 = 6 := by simp [pS]
theorem pW_iff {x : Br} : pW x = true ↔ x.2.2.1 = 0 := by simp [pW]
theorem pL_iff {x : Br} : pL x = true ↔ (x.2.2.1 = 1 ∨ x.2.2.1 = 2) := by simp [pL]
theorem pT_iff {x : Br} : pT x = true ↔ (x.2.2.1 = 3 ∨ x.2.2.1 = 4) := by simp [pT]
theorem pA_iff {x : Br} : pA x = true ↔ (x.2.2.1 = 5 ∧ x.2.2.2 < 300) := by simp [pA]
theorem pR_iff {x : Br} : pR x = true ↔ (x.2.2.1 = 5 ∧ x.2.2.2 ≥ 600) := by simp [pR]
theorem ex_not {p : Br → Bool} {l : List Br} {k : Nat} (h : ∀ i, i < k → ¬ p (l.getD i d0) = true) : ex p l k = false := by
  cases e : ex p l k
  · rfl
  · obtain ⟨i, h1, h2⟩ := ex_iff.1 e
    exact (h i h1 h2).elim
theorem VQ_VP {l : List Br} {a2 : Int} {a3 a4 a5 : Bool} : VQ l a2 a3 a4 a5 ↔ VP l a2 a3 a4 a5 := by
  constructor
  · rintro ⟨⟨h0, hb, ho⟩, ⟨w1, w2⟩, hw, hd, e1, e2, e3⟩
    have hOp : (∃ i, i < l.length ∧ Op (l.getD i d0)) ↔ 0 < cn pL l l.length + cn pT l l.length := by
      constructor
      · rintro ⟨i, i1, i2, i3⟩
        by_cases g : (l.getD i d0).2.2.1 = 1 ∨ (l.getD i d0).2.2.1 = 2
        · have := cn_pos.2 ⟨i, i1, pL_iff.2 g⟩; omega
        · have hh : (l.getD i d0).2.2.1 = 3 ∨ (l.getD i d0).2.2.1 = 4 := by omega
          have := cn_pos.2 ⟨i, i1, pT_iff.2 hh⟩; omega
      · intro h
        by_cases g : 0 < cn pL l l.length
        · obtain ⟨i, i1, i2⟩ := cn_pos.1 g
          have := pL_iff.1 i2
          exact ⟨i, i1, by unfold Op; omega⟩
        · obtain ⟨i, i1, i2⟩ := cn_pos.1 (show 0 < cn pT l l.length by omega)
          have := pT_iff.1 i2
          exact ⟨i, i1, by unfold Op; omega⟩
    refine ⟨h0, by omega, by omega, fun i hi => ⟨(hb i hi).b, fun k hk => ?_, ?_⟩, fun h => ?_, fun h => ?_, fun h => hOp.2 (e2 h), fun h g k => ?_⟩
    · obtain ⟨c1, c2, c3⟩ := VO.chain hb ho (Nat.le_of_lt hk) hi
      refine ⟨(hb i hi).u k hk, c1, c2, fun h1 h2 => by have := c3 h1 h2; omega, fun h1 h2 => ?_⟩
      have hW := fun j (hj : j < l.length) (h : (l.getD j d0).2.2.1 = 0) => (w1 (cn_pos.2 ⟨j, hj, pW_iff.2 h⟩)).1
      have hS := fun j (hj : j < l.length) (h : (l.getD j d0).2.2.1 = 6) => (cn_pos (p := pS) (l := l)).2 ⟨j, hj, pS_iff.2 h⟩
      rcases h1 with h1 | h1 <;> rcases h2 with h2 | h2
      · rw [h1, h2]
      · exact (hW k (by omega) h1 (hS i hi h2)).elim
      · exact (hW i hi h2 (hS k (by omega) h1)).elim
      · rw [h1, h2]
    · have hB := (hb i hi).b
      refine ⟨fun h => w2 (cn_pos.2 ⟨i, hi, pS_iff.2 h⟩), fun h => (w1 (cn_pos.2 ⟨i, hi, pW_iff.2 h⟩)).2, fun h1 h2 h3 => ?_, fun h => ?_, fun h g => e1 h (cn_pos.2 ⟨i, hi, pL_iff.2 g⟩), fun h g => (hd h).2.2 (cn_pos.2 ⟨i, hi, pT_iff.2 g⟩)⟩
      · have h5 : (l.getD i d0).2.2.1 = 5 := Classical.byContradiction fun g => by have := hB.c0 g; omega
        rcases hw with ⟨_, hw⟩ | hw
        · rcases hw with hw | hw
          · exact hw
          · rw [ex_iff.2 ⟨i, hi, pA_iff.2 ⟨h5, by omega⟩⟩] at hw; cases hw
        · omega
      · have h5 : (l.getD i d0).2.2.1 = 5 := Classical.byContradiction fun g => by have := hB.c0 g; omega
        cases g : a4
        · have := (hd g).2.1
          rw [ex_iff.2 ⟨i, hi, pR_iff.2 ⟨h5, h⟩⟩] at this; cases this
        · rfl
    · rcases hw with hw | hw
      · omega
      · exact hw.2.2
    · cases g : a4
      · have := (hd g).1; rw [h] at this; cases this
      · rfl
    · rcases hw with hw | hw
      · exact e3 h hw.1 (hOp.1 k)
      · omega
  · intro h
    have hB := fun i (hi : i < l.length) => (h.br i hi).1
    have hP := fun i (hi : i < l.length) => (h.br i hi).2.1
    have h3 := fun i (hi : i < l.length) => (h.br i hi).2.2
    have hOp : 0 < cn pL l l.length + cn pT l l.length ↔ (∃ i, i < l.length ∧ Op (l.getD i d0)) := by
      constructor
      · intro h
        by_cases g : 0 < cn pL l l.length
        · obtain ⟨i, i1, i2⟩ := cn_pos.1 g
          have := pL_iff.1 i2
          exact ⟨i, i1, by unfold Op; omega⟩
        · obtain ⟨i, i1, i2⟩ := cn_pos.1 (show 0 < cn pT l l.length by omega)
          have := pT_iff.1 i2
          exact ⟨i, i1, by unfold Op; omega⟩
      · rintro ⟨i, i1, i2, i3⟩
        by_cases g : (l.getD i d0).2.2.1 = 1 ∨ (l.getD i d0).2.2.1 = 2
        · have := cn_pos.2 ⟨i, i1, pL_iff.2 g⟩; omega
        · have hh : (l.getD i d0).2.2.1 = 3 ∨ (l.getD i d0).2.2.1 = 4 := by omega
          have := cn_pos.2 ⟨i, i1, pT_iff.2 hh⟩; omega
    have w0 := h.w0
    refine ⟨⟨h.len, fun i hi => ⟨hB i hi, fun k hk => (hP i hi k hk).u, fun k => (hP i hi (i - 1) (by omega)).q⟩, fun i hi => ⟨(hP (i + 1) hi i (by omega)).e1, fun x y => ?_⟩⟩, ⟨fun x => ?_, fun x => ?_⟩, ?_, fun x => ⟨?_, ex_not fun i hi y => ?_, fun y => ?_⟩, fun x y => ?_, fun x => hOp.2 (h.nd x), fun x y z => h.dn x (by omega) (hOp.1 z)⟩
    · have := (hP (i + 1) hi i (by omega)).e2 x y
      have := (hP (i + 1) hi i (by omega)).q
      omega
    · obtain ⟨i, i1, i2⟩ := cn_pos.1 x
      have := (h3 i i1).k0 (pW_iff.1 i2)
      refine ⟨fun y => ?_, this⟩
      obtain ⟨j, j1, j2⟩ := cn_pos.1 y
      rw [(h3 j j1).k6 (pS_iff.1 j2)] at this
      cases this
    · obtain ⟨j, j1, j2⟩ := cn_pos.1 x
      exact (h3 j j1).k6 (pS_iff.1 j2)
    · by_cases g : 0 ≤ a2
      · exact .inr ⟨g, h.w1, h.win g⟩
      · left
        refine ⟨by omega, ?_⟩
        cases k : a3
        · refine .inr (ex_not fun i hi y => ?_)
          have hy := pA_iff.1 y
          have := (h3 i hi).w ((hB i hi).c5 hy.1).1 (by omega) (by omega)
          rw [k] at this; cases this
        · exact .inl rfl
    · cases k : a3
      · rfl
      · have := h.can k; rw [x] at this; cases this
    · have := (h3 i hi).r (pR_iff.1 y).2
      rw [x] at this; cases this
    · obtain ⟨i, i1, i2⟩ := cn_pos.1 y
      exact (h3 i i1).st x (pT_iff.1 i2)
    · obtain ⟨i, i1, i2⟩ := cn_pos.1 y
      exact (h3 i i1).li x (pL_iff.1 i2)
theorem validPR (l : List Br) (a2 : Int) (a3 a4 a5 : Bool) : Is (fork_Valid (l, (a2, (a3, (a4, a5))))) (VP l a2 a3 a4 a5) := (validP_j l a2 a3 a4 a5).iff VQ_VP
theorem valid_eq (l : List Br) (a2 : Int) (a3 a4 a5 : Bool) : fork_Valid (l, (a2, (a3, (a4, a5)))) = dialtoneref23_Valid (l, (a2, (a3, (a4, a5)))) := (validPR l a2 a3 a4 a5).eq (validR_j l a2 a3 a4 a5)
end Go.Proofs.Ytheicchelhjcjaa
