import Derived.Test.YtheicchelhjcjaaY1p
import Derived.Test.YtheicchelhjcjaaZ1p
set_option linter.unusedVariables false
set_option linter.unusedSimpArgs false
namespace Go.Proofs.Ytheicchelhjcjaa
open Go.RowKit
abbrev Br := List UInt8 × (Int × (Int × Int))
abbrev d0 : Br := ([], (0, (0, 0)))
theorem get_bz {α β : Type} {l : List α} {v : Int} (d : α) (f : α → Option β) (h : 0 ≤ v ∧ v < (l.length : Int)) : bindO l[Int.toNat v]? f = f (l.getD v.toNat d) := by rw [get_D' d (by omega)]; rfl
theorem get_b {α β : Type} {l : List α} {i : Nat} (d : α) (f : α → Option β) (h1 : i < l.length) : bindO l[i]? f = f (l.getD i d) := by rw [get_D' d h1]; rfl
def Is (o : Option Bool) (P : Prop) : Prop := (P ∧ o = some true) ∨ (¬ P ∧ o = some false)
theorem Is.t {P : Prop} (h : P) : Is (some true) P := .inl ⟨h, rfl⟩
theorem Is.f {P : Prop} (h : ¬ P) : Is (some false) P := .inr ⟨h, rfl⟩
theorem Is.d {P Q : Prop} [Decidable Q] (h : Q ↔ P) : Is (some (decide Q)) P := by
  by_cases k : Q
  · exact .inl ⟨h.1 k, by rw [decide_eq_true k]⟩
  · exact .inr ⟨fun p => k (h.2 p), by rw [decide_eq_false k]⟩
theorem Is.iff {o : Option Bool} {P Q : Prop} (h : Is o P) (k : P ↔ Q) : Is o Q := by
  rcases h with ⟨h, e⟩ | ⟨h, e⟩
  · exact .inl ⟨k.1 h, e⟩
  · exact .inr ⟨fun q => h (k.2 q), e⟩
theorem Is.eq {o o' : Option Bool} {P : Prop} (h : Is o P) (k : Is o' P) : o = o' := by
  rcases h with ⟨h, e⟩ | ⟨h, e⟩ <;> rcases k with ⟨k, e'⟩ | ⟨k, e'⟩
  · rw [e, e']
  · exact (k h).elim
  · exact (h k).elim
  · rw [e, e']
theorem Is.and {o : Option Bool} {P Q : Prop} (hp : Is o Q) (x : Option (Unit ⊕ Bool)) (h : (P ∧ x = some (.inl ())) ∨ (¬ P ∧ x = some (.inr false))) : Is (joinO x fun _ => o) (P ∧ Q) := by
  rcases h with ⟨h, e⟩ | ⟨h, e⟩
  · rw [e]
    show Is o _
    exact hp.iff ⟨fun q => ⟨h, q⟩, fun q => q.2⟩
  · rw [e]
    exact .inr ⟨fun q => h q.1, rfl⟩
abbrev Er (x : Br) : Prop := x.2.2.1 = 0 ∨ x.2.2.1 = 6
abbrev Op (x : Br) : Prop := 1 ≤ x.2.2.1 ∧ x.2.2.1 ≤ 4
theorem early_j (x : Br) : dialtoneref23_early x = some (decide (Er x)) := by
  obtain ⟨u, q, s, c⟩ := x
  unfold dialtoneref23_early
  simp only [cond_ite]
  split <;> (congr 1; rw [Bool.eq_iff_iff]; simp [Er, *])
theorem early_b {β : Type} (x : Br) (f : Bool → Option β) : bindO (dialtoneref23_early (x.1, (x.2.1, (x.2.2.1, x.2.2.2)))) f = f (decide (Er x)) := by rw [early_j]; rfl
theorem openR_j (x : Br) : dialtoneref23_Open x = some (decide (Op x)) := by
  obtain ⟨u, q, s, c⟩ := x
  unfold dialtoneref23_Open
  simp only [cond_ite]
  split <;> (congr 1; rw [Bool.eq_iff_iff]; simp [Op]; omega)
theorem openR_b {β : Type} (x : Br) (f : Bool → Option β) : bindO (dialtoneref23_Open (x.1, (x.2.1, (x.2.2.1, x.2.2.2)))) f = f (decide (Op x)) := by rw [openR_j]; rfl
theorem liveR_j (x : Br) : dialtoneref23_Live x = some (decide (x.2.2.1 = 1 ∨ x.2.2.1 = 2)) := by
  obtain ⟨u, q, s, c⟩ := x
  unfold dialtoneref23_Live
  simp only [cond_ite]
  split <;> (congr 1; rw [Bool.eq_iff_iff]; simp [*])
theorem liveR_b {β : Type} (x : Br) (f : Bool → Option β) : bindO (dialtoneref23_Live (x.1, (x.2.1, (x.2.2.1, x.2.2.2)))) f = f (decide (x.2.2.1 = 1 ∨ x.2.2.1 = 2)) := by rw [liveR_j]; rfl
structure B1 (x : Br) : Prop where
  u : x.1 ≠ []
  q0 : 0 ≤ x.2.1
  q1 : x.2.1 ≤ 1000
  s : x.2.2.1 ≤ 6
  c5 : x.2.2.1 = 5 → 200 ≤ x.2.2.2 ∧ x.2.2.2 ≤ 699
  c0 : x.2.2.1 ≠ 5 → x.2.2.2 = 0
structure Pair (x y : Br) : Prop where
  u : x.1 ≠ y.1
  q : y.2.1 ≤ x.2.1
  e1 : Er x → Er y
  e2 : ¬ Er x → Er y → x.2.1 ≠ y.2.1
  e3 : Er x → Er y → x.2.2.1 = y.2.2.1
structure B3 (a2 : Int) (a3 a4 a5 : Bool) (x : Br) : Prop where
  k6 : x.2.2.1 = 6 → a5 = true
  k0 : x.2.2.1 = 0 → a5 = false
  w : 200 ≤ x.2.2.2 → x.2.2.2 ≤ 299 → a2 = -1 → a3 = true
  r : 600 ≤ x.2.2.2 → a4 = true
  li : a4 = true → ¬ (x.2.2.1 = 1 ∨ x.2.2.1 = 2)
  st : a4 = false → ¬ (x.2.2.1 = 3 ∨ x.2.2.1 = 4)
noncomputable def brB (a1 : List Br) (a6 : Int) (x7 : Br) : Int → Option (Int ⊕ (Unit ⊕ Bool)) :=
(fun v8 =>
 bif (decide (v8 < a6)) then
 bif (decide (((0 : Int) ≤ v8) ∧ (v8 < (((List.length a1) : Nat) : Int)))) then 
 bindO a1[(Int.toNat v8)]? fun x9 =>
 bif (decide (x9.1 = x7.1)) then
 outO (outO (some Bool.false))
 else
 bif (decide (x9.2.1 < x7.2.1)) then
 outO (outO (some Bool.false))
 else
 bindO (dialtoneref23_early (x9.1, (x9.2.1, (x9.2.2.1, x9.2.2.2)))) fun x10 =>
 bif x10 then
 bindO (dialtoneref23_early (x7.1, (x7.2.1, (x7.2.2.1, x7.2.2.2)))) fun x11 =>
 bif (!x11) then
 outO (outO (some Bool.false))
 else
 bindO (dialtoneref23_early (x9.1, (x9.2.1, (x9.2.2.1, x9.2.2.2)))) fun x12 =>
 bif (!x12) then
 bindO (dialtoneref23_early (x7.1, (x7.2.1, (x7.2.2.1, x7.2.2.2)))) fun x13 =>
 bif x13 then
 bif (decide (x9.2.1 = x7.2.1)) then
 outO (outO (some Bool.false))
 else
 bindO (dialtoneref23_early (x9.1, (x9.2.1, (x9.2.2.1, x9.2.2.2)))) fun x14 =>
 bif x14 then
 bindO (dialtoneref23_early (x7.1, (x7.2.1, (x7.2.2.1, x7.2.2.2)))) fun x15 =>
 bif x15 then
 bif (decide (x9.2.2.1 ≠ x7.2.2.1)) then
 outO (outO (some Bool.false))
 else
 some (Sum.inl (Go.IntKind.wrap .i64 (v8 + (1 : Int))))
 else
 some (Sum.inl (Go.IntKind.wrap .i64 (v8 + (1 : Int))))
 else
 some (Sum.inl (Go.IntKind.wrap .i64 (v8 + (1 : Int))))
 else
 bindO (dialtoneref23_early (x9.1, (x9.2.1, (x9.2.2.1, x9.2.2.2)))) fun x19 =>
 bif x19 then
 bindO (dialtoneref23_early (x7.1, (x7.2.1, (x7.2.2.1, x7.2.2.2)))) fun x20 =>
 bif x20 then
 bif (decide (x9.2.2.1 ≠ x7.2.2.1)) then
 outO (outO (some Bool.false))
 else
 some (Sum.inl (Go.IntKind.wrap .i64 (v8 + (1 : Int))))
 else
 some (Sum.inl (Go.IntKind.wrap .i64 (v8 + (1 : Int))))
 else
 some (Sum.inl (Go.IntKind.wrap .i64 (v8 + (1 : Int))))
 else
 bindO (dialtoneref23_early (x9.1, (x9.2.1, (x9.2.2.1, x9.2.2.2)))) fun x24 =>
 bif x24 then
 bindO (dialtoneref23_early (x7.1, (x7.2.1, (x7.2.2.1, x7.2.2.2)))) fun x25 =>
 bif x25 then
 bif (decide (x9.2.2.1 ≠ x7.2.2.1)) then
 outO (outO (some Bool.false))
 else
 some (Sum.inl (Go.IntKind.wrap .i64 (v8 + (1 : Int))))
 else
 some (Sum.inl (Go.IntKind.wrap .i64 (v8 + (1 : Int))))
 else
 some (Sum.inl (Go.IntKind.wrap .i64 (v8 + (1 : Int))))
 else
 bindO (dialtoneref23_early (x9.1, (x9.2.1, (x9.2.2.1, x9.2.2.2)))) fun x29 =>
 bif (!x29) then
 bindO (dialtoneref23_early (x7.1, (x7.2.1, (x7.2.2.1, x7.2.2.2)))) fun x30 =>
 bif x30 then
 bif (decide (x9.2.1 = x7.2.1)) then
 outO (outO (some Bool.false))
 else
 bindO (dialtoneref23_early (x9.1, (x9.2.1, (x9.2.2.1, x9.2.2.2)))) fun x31 =>
 bif x31 then
 bindO (dialtoneref23_early (x7.1, (x7.2.1, (x7.2.2.1, x7.2.2.2)))) fun x32 =>
 bif x32 then
 bif (decide (x9.2.2.1 ≠ x7.2.2.1)) then
 outO (outO (some Bool.false))
 else
 some (Sum.inl (Go.IntKind.wrap .i64 (v8 + (1 : Int))))
 else
 some (Sum.inl (Go.IntKind.wrap .i64 (v8 + (1 : Int))))
 else
 some (Sum.inl (Go.IntKind.wrap .i64 (v8 + (1 : Int))))
 else
 bindO (dialtoneref23_early (x9.1, (x9.2.1, (x9.2.2.1, x9.2.2.2)))) fun x36 =>
 bif x36 then
 bindO (dialtoneref23_early (x7.1, (x7.2.1, (x7.2.2.1, x7.2.2.2)))) fun x37 =>
 bif x37 then
 bif (decide (x9.2.2.1 ≠ x7.2.2.1)) then
 outO (outO (some Bool.false))
 else
 some (Sum.inl (Go.IntKind.wrap .i64 (v8 + (1 : Int))))
 else
 some (Sum.inl (Go.IntKind.wrap .i64 (v8 + (1 : Int))))
 else
 some (Sum.inl (Go.IntKind.wrap .i64 (v8 + (1 : Int))))
 else
 bindO (dialtoneref23_early (x9.1, (x9.2.1, (x9.2.2.1, x9.2.2.2)))) fun x41 =>
 bif x41 then
 bindO (dialtoneref23_early (x7.1, (x7.2.1, (x7.2.2.1, x7.2.2.2)))) fun x42 =>
 bif x42 then
 bif (decide (x9.2.2.1 ≠ x7.2.2.1)) then
 outO (outO (some Bool.false))
 else
 some (Sum.inl (Go.IntKind.wrap .i64 (v8 + (1 : Int))))
 else
 some (Sum.inl (Go.IntKind.wrap .i64 (v8 + (1 : Int))))
 else
 some (Sum.inl (Go.IntKind.wrap .i64 (v8 + (1 : Int))))
 else none
 else
 outO (some (Sum.inl ())))
noncomputable def brT (a1 : List Br) (a2 : Int) (a3 a4 a5 : Bool) (a6 : Int) (x7 : Br) : Option Bool :=
 joinO (bif (decide (x7.1 = ([] : List UInt8))) then
 outO (some Bool.false)
 else
 bif (decide (x7.2.1 < (0 : Int))) then
 outO (some Bool.false)
 else
 bif (decide (x7.2.1 > (1000 : Int))) then
 outO (some Bool.false)
 else
 bif (decide (x7.2.2.1 > (6 : Int))) then
 outO (some Bool.false)
 else
 some (Sum.inl ())) fun _ =>
 joinO (bif (decide (x7.2.2.1 = (5 : Int))) then
 bif (decide (x7.2.2.2 < (200 : Int))) then
 outO (some Bool.false)
 else
 bif (decide (x7.2.2.2 > (699 : Int))) then
 outO (some Bool.false)
 else
 bif (decide (x7.2.2.1 ≠ (5 : Int))) then
 bif (decide (x7.2.2.2 ≠ (0 : Int))) then
 outO (some Bool.false)
 else
 some (Sum.inl ())
 else
 some (Sum.inl ())
 else
 bif (decide (x7.2.2.1 ≠ (5 : Int))) then
 bif (decide (x7.2.2.2 ≠ (0 : Int))) then
 outO (some Bool.false)
 else
 some (Sum.inl ())
 else
 some (Sum.inl ())) fun _ =>
 joinO (loopO (brB a1 a6 x7) (0 : Int)) fun _ =>
 joinO (bif (decide (x7.2.2.1 = (6 : Int))) then
 bif (!a5) then
 outO (some Bool.false)
 else
 bif (decide (x7.2.2.1 = (0 : Int))) then
 bif a5 then
 outO (some Bool.false)
 else
 some (Sum.inl ())
 else
 some (Sum.inl ())
 else
 bif (decide (x7.2.2.1 = (0 : Int))) then
 bif a5 then
 outO (some Bool.false)
 else
 some (Sum.inl ())
 else
 some (Sum.inl ())) fun _ =>
 joinO (bif (decide (x7.2.2.2 ≥ (200 : Int))) then
 bif (decide (x7.2.2.2 ≤ (299 : Int))) then
 bif (decide (a2 = (-1 : Int))) then
 bif (!a3) then
 outO (some Bool.false)
 else
 bif (decide (x7.2.2.2 ≥ (600 : Int))) then
 bif (!a4) then
 outO (some Bool.false)
 else
 some (Sum.inl ())
 else
 some (Sum.inl ())
 else
 bif (decide (x7.2.2.2 ≥ (600 : Int))) then
 bif (!a4) then
 outO (some Bool.false)
 else
 some (Sum.inl ())
 else
 some (Sum.inl ())
 else
 bif (decide (x7.2.2.2 ≥ (600 : Int))) then
 bif (!a4) then
 outO (some Bool.false)
 else
 some (Sum.inl ())
 else
 some (Sum.inl ())
 else
 bif (decide (x7.2.2.2 ≥ (600 : Int))) then
 bif (!a4) then
 outO (some Bool.false)
 else
 some (Sum.inl ())
 else
 some (Sum.inl ())) fun _ =>
 bif a4 then
 bindO (dialtoneref23_Live (x7.1, (x7.2.1, (x7.2.2.1, x7.2.2.2)))) fun x46 =>
 bif (!x46) then
 bif (!a4) then
 bif (decide (x7.2.2.1 = (3 : Int))) then
 some Bool.false
 else
 some (!(decide (x7.2.2.1 = (4 : Int))))
 else
 some Bool.true
 else
 some Bool.false
 else
 bif (!a4) then
 bif (decide (x7.2.2.1 = (3 : Int))) then
 some Bool.false
 else
 some (!(decide (x7.2.2.1 = (4 : Int))))
 else
 some Bool.true
theorem branch_eq (a1 : List Br) (a2 : Int) (a3 a4 a5 : Bool) (a6 : Int) : dialtoneref23_branch ((a1, (a2, (a3, (a4, a5)))), a6) =

  bif (decide (((0 : Int) ≤ a6) ∧ (a6 < (((List.length a1) : Nat) : Int)))) then 
   bindO a1[(Int.toNat a6)]? (brT a1 a2 a3 a4 a5 a6)
  else none := rfl
theorem br_round {l : List Br} {k i : Nat} (y : Br) (hk : k < i) (hi : i < l.length) (hl : l.length ≤ 1000) :
    (Pair (l.getD k d0) y ∧ brB l i y (k : Int) = some (.inl ((k + 1 : Nat) : Int))) ∨ (¬ Pair (l.getD k d0) y ∧ brB l i y (k : Int) = some (.inr (.inr false))) := by
  unfold brB
  simp (disch := omega) only [↓bindO_some, ↓bindO_none, ↓joinO_inl, ↓joinO_inr, ↓joinO_none, ↓outO_some, ↓outO_none, ↓cond_true, ↓cond_false, ↓cond_and, ↓cond_or, ↓cond_not, ↓cond_ite, ↓if_pos, ↓if_neg, ↓if_true, ↓if_false, List.take_length, Nat.le_refl, Bool.not_true, Bool.not_false, ↓get_bz d0, Int.toNat_natCast, ↓early_b, wrap_i64']
  generalize l.getD k d0 = x
  have hn : ((k : Int) + 1) = ((k + 1 : Nat) : Int) := rfl
  by_cases h1 : x.1 = y.1
  · right; rw [if_pos h1]; exact ⟨fun h => h.u h1, rfl⟩
  by_cases h2 : x.2.1 < y.2.1
  · right; rw [if_neg h1, if_pos h2]; exact ⟨fun h => by have := h.q; omega, rfl⟩
  rw [if_neg h1, if_neg h2]
  by_cases e1 : Er x <;> by_cases e2 : Er y
  · by_cases h3 : x.2.2.1 = y.2.2.1
    · left; simp [e1, e2, h3, cond_ite]; exact ⟨h1, by omega, fun _ => e2, fun h => (h e1).elim, fun _ _ => h3⟩
    · right; simp [e1, e2, h3, cond_ite]; exact fun h => h3 (h.e3 e1 e2)
  · right; simp [e1, e2, cond_ite]; exact fun h => e2 (h.e1 e1)
  · by_cases h3 : x.2.1 = y.2.1
    · right; simp [e1, e2, h3, cond_ite]; exact fun h => h.e2 e1 e2 h3
    · left; simp [e1, e2, h3, cond_ite]; exact ⟨h1, by omega, fun h => (e1 h).elim, fun _ _ => h3, fun h => (e1 h).elim⟩
  · left; simp [e1, e2, cond_ite]; exact ⟨h1, by omega, fun h => (e1 h).elim, fun _ h => (e2 h).elim, fun h => (e1 h).elim⟩
theorem br_loop {l : List Br} {i : Nat} (y : Br) (hi : i < l.length) (hl : l.length ≤ 1000) :
    ((∀ k, k < i → Pair (l.getD k d0) y) ∧ loopO (brB l i y) 0 = some (.inl ())) ∨ (¬ (∀ k, k < i → Pair (l.getD k d0) y) ∧ loopO (brB l i y) 0 = some (.inr false)) := by
  have hs := loopO_search (body := brB l i y) (fun k => (k : Int)) i (fun k => ¬ Pair (l.getD k d0) y) (r0 := .inl ()) (r1 := .inr false) (x := 0) rfl
    (fun k hk hb => by
      rcases br_round y hk hi hl with ⟨_, e⟩ | ⟨h, _⟩
      · exact e
      · exact (hb h).elim)
    (fun k hk hb => by
      rcases br_round y hk hi hl with ⟨h, _⟩ | ⟨_, e⟩
      · exact (hb h).elim
      · exact e)
    (by unfold brB; simp (disch := omega) only [↓bindO_some, ↓bindO_none, ↓joinO_inl, ↓joinO_inr, ↓joinO_none, ↓outO_some, ↓outO_none, ↓cond_true, ↓cond_false, ↓cond_and, ↓cond_or, ↓cond_not, ↓cond_ite, ↓if_pos, ↓if_neg, ↓if_true, ↓if_false, List.take_length, Nat.le_refl, Bool.not_true, Bool.not_false])
  rcases hs with ⟨⟨k, h1, h2⟩, e⟩ | ⟨h, e⟩
  · exact .inr ⟨fun h => h2 (h k h1), e⟩
  · exact .inl ⟨fun k hk => Classical.byContradiction fun hb => h ⟨k, hk, hb⟩, e⟩
def BrOk (l : List Br) (a2 : Int) (a3 a4 a5 : Bool) (i : Nat) : Prop := B1 (l.getD i d0) ∧ (∀ k, k < i → Pair (l.getD k d0) (l.getD i d0)) ∧ B3 a2 a3 a4 a5 (l.getD i d0)
theorem brT_j {l : List Br} (a2 : Int) (a3 a4 a5 : Bool) {i : Nat} (y : Br) (hi : i < l.length) (hl : l.length ≤ 1000) : Is (brT l a2 a3 a4 a5 (i : Int) y) (B1 y ∧ (∀ k, k < i → Pair (l.getD k d0) y) ∧ B3 a2 a3 a4 a5 y) := by
  obtain ⟨u, q, s, c⟩ := y
  have hloop := br_loop (u, (q, (s, c))) hi hl
  have e : (B1 (u, (q, (s, c))) ∧ (∀ k, k < i → Pair (l.getD k d0) (u, (q, (s, c)))) ∧ B3 a2 a3 a4 a5 (u, (q, (s, c)))) ↔
      ((u ≠ [] ∧ 0 ≤ q ∧ q ≤ 1000 ∧ s ≤ 6) ∧ ((s = 5 → 200 ≤ c ∧ c ≤ 699) ∧ (s ≠ 5 → c = 0)) ∧ (∀ k, k < i → Pair (l.getD k d0) (u, (q, (s, c)))) ∧ ((s = 6 → a5 = true) ∧ (s = 0 → a5 = false)) ∧ ((200 ≤ c → c ≤ 299 → a2 = -1 → a3 = true) ∧ (600 ≤ c → a4 = true)) ∧ ((a4 = true → ¬ (s = 1 ∨ s = 2)) ∧ (a4 = false → ¬ (s = 3 ∨ s = 4)))) :=
    ⟨fun ⟨⟨x1, x2, x3, x4, x5, x6⟩, x7, ⟨y1, y2, y3, y4, y5, y6⟩⟩ => ⟨⟨x1, x2, x3, x4⟩, ⟨x5, x6⟩, x7, ⟨y1, y2⟩, ⟨y3, y4⟩, ⟨y5, y6⟩⟩, fun ⟨⟨x1, x2, x3, x4⟩, ⟨x5, x6⟩, x7, ⟨y1, y2⟩, ⟨y3, y4⟩, ⟨y5, y6⟩⟩ => ⟨⟨x1, x2, x3, x4, x5, x6⟩, x7, ⟨y1, y2, y3, y4, y5, y6⟩⟩⟩
  refine Is.iff ?_ e.symm
  clear e
  unfold brT
  simp only [↓liveR_b]
  refine Is.and ?_ _ ?_
  · refine Is.and ?_ _ ?_
    · refine Is.and ?_ _ hloop
      refine Is.and ?_ _ ?_
      · refine Is.and ?_ _ ?_
        · cases a4 <;> simp only [cond_true, cond_false, Bool.not_true, Bool.not_false]
          · by_cases h3 : s = 3
            · simp [h3]; exact .f (by simp)
            · by_cases h4 : s = 4 <;> simp [h3, h4, Is]
          · by_cases h3 : s = 1 ∨ s = 2
            · simp [h3]; exact .f (by simp)
            · simp [h3]; exact .t trivial
        · cases a4 <;> cases a3 <;> by_cases h1 : 200 ≤ c <;> by_cases h2 : c ≤ 299 <;> by_cases h3 : a2 = -1 <;> by_cases h4 : 600 ≤ c <;> simp [h1, h2, h3, h4, cond_ite, outO] <;> omega
      · cases a5 <;> by_cases h1 : s = 6 <;> by_cases h2 : s = 0 <;> simp [h1, h2, cond_ite, outO]
    · by_cases h1 : s = 5 <;> by_cases h2 : c < 200 <;> by_cases h3 : c > 699 <;> by_cases h4 : c = 0 <;> simp [h1, h2, h3, h4, cond_ite, outO] <;> omega
  · by_cases h1 : u = [] <;> by_cases h2 : q < 0 <;> by_cases h3 : q > 1000 <;> by_cases h4 : s > 6 <;> simp [h1, h2, h3, h4, cond_ite, outO] <;> omega
theorem branch_j {l : List Br} (a2 : Int) (a3 a4 a5 : Bool) {i : Nat} (hi : i < l.length) (hl : l.length ≤ 1000) : Is (dialtoneref23_branch ((l, (a2, (a3, (a4, a5)))), (i : Int))) (BrOk l a2 a3 a4 a5 i) := by
  rw [branch_eq]
  simp (disch := omega) only [↓cond_ite, ↓if_pos, ↓get_bz d0, Int.toNat_natCast]
  exact brT_j a2 a3 a4 a5 _ hi hl
noncomputable def rvB (a1 : List Br) (a2 : Int) (a3 a4 a5 : Bool) : Int → Option (Int ⊕ (Unit ⊕ Bool)) :=
(fun v6 =>
 bif (decide (v6 < (((List.length a1) : Nat) : Int))) then
 bindO (dialtoneref23_branch ((a1, (a2, (a3, (a4, a5)))), v6)) fun x7 =>
 bif (!x7) then
 outO (outO (some Bool.false))
 else
 some (Sum.inl (Go.IntKind.wrap .i64 (v6 + (1 : Int))))
 else
 outO (some (Sum.inl ())))
theorem validR_eq (a1 : List Br) (a2 : Int) (a3 a4 a5 : Bool) : dialtoneref23_Valid (a1, (a2, (a3, (a4, a5)))) =

  joinO (bif (decide ((((List.length a1) : Nat) : Int) > (16 : Int))) then
    outO (some Bool.false)
   else
    bif (decide (a2 < (-1 : Int))) then
     outO (some Bool.false)
    else
     bif (decide (a2 ≥ (((List.length a1) : Nat) : Int))) then
      outO (some Bool.false)
     else
      some (Sum.inl ())) fun _ =>
  joinO (loopO (rvB a1 a2 a3 a4 a5) (0 : Int)) fun _ =>
  joinO (bif (decide (a2 ≥ (0 : Int))) then
    bif (decide (((0 : Int) ≤ a2) ∧ (a2 < (((List.length a1) : Nat) : Int)))) then 
     bindO a1[(Int.toNat a2)]? fun x9 =>
     bif (decide (x9.2.2.1 ≠ (5 : Int))) then
      outO (some Bool.false)
     else
      bif (decide (x9.2.2.2 ≥ (300 : Int))) then
       outO (some Bool.false)
      else
       bif (!a5) then
        outO (some Bool.false)
       else
        bif (!a4) then
         outO (some Bool.false)
        else
         bif a3 then
          outO (some Bool.false)
         else
          some (Sum.inl ())
    else none
   else
    some (Sum.inl ())) fun _ =>
  bif a3 then
   bif (!a4) then
    some Bool.false
   else
    bif (!a5) then
     bindO (dialtoneref23_AnyOpen (a1, (a2, (a3, (a4, a5))))) fun x10 =>
     some x10
    else
     bif (decide (a2 ≥ (0 : Int))) then
      some Bool.true
     else
      bindO (dialtoneref23_AnyOpen (a1, (a2, (a3, (a4, a5))))) fun x11 =>
      some (!x11)
  else
   bif (!a5) then
    bindO (dialtoneref23_AnyOpen (a1, (a2, (a3, (a4, a5))))) fun x12 =>
    some x12
   else
    bif (decide (a2 ≥ (0 : Int))) then
     some Bool.true
    else
     bindO (dialtoneref23_AnyOpen (a1, (a2, (a3, (a4, a5))))) fun x13 =>
     some (!x13) := rfl
noncomputable def aoB (a1 : List Br) : Int → Option (Int ⊕ (Unit ⊕ Bool)) :=
(fun v6 =>
 bif (decide (v6 < (((List.length a1) : Nat) : Int))) then
 bif (decide (((0 : Int) ≤ v6) ∧ (v6 < (((List.length a1) : Nat) : Int)))) then 
 bindO a1[(Int.toNat v6)]? fun x7 =>
 bindO (dialtoneref23_Open (x7.1, (x7.2.1, (x7.2.2.1, x7.2.2.2)))) fun x8 =>
 bif x8 then
 outO (outO (some Bool.true))
 else
 some (Sum.inl (Go.IntKind.wrap .i64 (v6 + (1 : Int))))
 else none
 else
 outO (some (Sum.inl ())))
theorem anyOpen_j (l : List Br) (a2 : Int) (a3 a4 a5 : Bool) (hl : l.length ≤ 1000) : Is (dialtoneref23_AnyOpen (l, (a2, (a3, (a4, a5))))) (∃ i, i < l.length ∧ Op (l.getD i d0)) := by
  have e : dialtoneref23_AnyOpen (l, (a2, (a3, (a4, a5)))) = joinO (loopO (aoB l) 0) fun _ => some false := rfl
  rw [e]
  have hs := loopO_search (body := aoB l) (fun k => (k : Int)) l.length (fun k => Op (l.getD k d0)) (r0 := .inl ()) (r1 := .inr true) (x := 0) rfl
    (fun k hk hb => by
      unfold aoB
      simp (disch := omega) only [↓bindO_some, ↓bindO_none, ↓joinO_inl, ↓joinO_inr, ↓joinO_none, ↓outO_some, ↓outO_none, ↓cond_true, ↓cond_false, ↓cond_and, ↓cond_or, ↓cond_not, ↓cond_ite, ↓if_pos, ↓if_neg, ↓if_true, ↓if_false, List.take_length, Nat.le_refl, Bool.not_true, Bool.not_false, ↓get_bz d0, Int.toNat_natCast, ↓openR_b, wrap_i64', decide_eq_false hb]
      rfl)
    (fun k hk hb => by
      unfold aoB
      simp (disch := omega) only [↓bindO_some, ↓bindO_none, ↓joinO_inl, ↓joinO_inr, ↓joinO_none, ↓outO_some, ↓outO_none, ↓cond_true, ↓cond_false, ↓cond_and, ↓cond_or, ↓cond_not, ↓cond_ite, ↓if_pos, ↓if_neg, ↓if_true, ↓if_false, List.take_length, Nat.le_refl, Bool.not_true, Bool.not_false, ↓get_bz d0, Int.toNat_natCast, ↓openR_b, wrap_i64', decide_eq_true hb])
    (by unfold aoB; simp (disch := omega) only [↓bindO_some, ↓bindO_none, ↓joinO_inl, ↓joinO_inr, ↓joinO_none, ↓outO_some, ↓outO_none, ↓cond_true, ↓cond_false, ↓cond_and, ↓cond_or, ↓cond_not, ↓cond_ite, ↓if_pos, ↓if_neg, ↓if_true, ↓if_false, List.take_length, Nat.le_refl, Bool.not_true, Bool.not_false])
  rcases hs with ⟨h, e⟩ | ⟨h, e⟩
  · rw [e]; exact .t h
  · rw [e]; exact .f h
structure VP (l : List Br) (a2 : Int) (a3 a4 a5 : Bool) : Prop where
  len : l.length ≤ 16
  w0 : -1 ≤ a2
  w1 : a2 < (l.length : Int)
  br : ∀ i, i < l.length → BrOk l a2 a3 a4 a5 i
  win : 0 ≤ a2 → (l.getD a2.toNat d0).2.2.1 = 5 ∧ (l.getD a2.toNat d0).2.2.2 < 300 ∧ a5 = true ∧ a4 = true ∧ a3 = false
  can : a3 = true → a4 = true
  nd : a5 = false → ∃ i, i < l.length ∧ Op (l.getD i d0)
  dn : a5 = true → a2 < 0 → ¬ ∃ i, i < l.length ∧ Op (l.getD i d0)
theorem validR_j (l : List Br) (a2 : Int) (a3 a4 a5 : Bool) : Is (dialtoneref23_Valid (l, (a2, (a3, (a4, a5))))) (VP l a2 a3 a4 a5) := by
  rw [validR_eq]
  have e : VP l a2 a3 a4 a5 ↔ ((l.length ≤ 16 ∧ -1 ≤ a2 ∧ a2 < (l.length : Int)) ∧ (∀ i, i < l.length → BrOk l a2 a3 a4 a5 i) ∧ (0 ≤ a2 → (l.getD a2.toNat d0).2.2.1 = 5 ∧ (l.getD a2.toNat d0).2.2.2 < 300 ∧ a5 = true ∧ a4 = true ∧ a3 = false) ∧ ((a3 = true → a4 = true) ∧ (a5 = false → ∃ i, i < l.length ∧ Op (l.getD i d0)) ∧ (a5 = true → a2 < 0 → ¬ ∃ i, i < l.length ∧ Op (l.getD i d0)))) :=
    ⟨fun ⟨h1, h2, h3, h4, h5, h6, h7, h8⟩ => ⟨⟨h1, h2, h3⟩, h4, h5, h6, h7, h8⟩, fun ⟨⟨h1, h2, h3⟩, h4, h5, h6, h7, h8⟩ => ⟨h1, h2, h3, h4, h5, h6, h7, h8⟩⟩
  refine Is.iff ?_ e.symm
  clear e
  by_cases h0 : l.length ≤ 16 ∧ -1 ≤ a2 ∧ a2 < (l.length : Int)
  · have ho := anyOpen_j l a2 a3 a4 a5 (by omega)
    have ho' := ho
    simp (disch := omega) only [↓bindO_some, ↓bindO_none, ↓joinO_inl, ↓joinO_inr, ↓joinO_none, ↓outO_some, ↓outO_none, ↓cond_true, ↓cond_false, ↓cond_and, ↓cond_or, ↓cond_not, ↓cond_ite, ↓if_pos, ↓if_neg, ↓if_true, ↓if_false, List.take_length, Nat.le_refl, Bool.not_true, Bool.not_false]
    have hloop : ((∀ i, i < l.length → BrOk l a2 a3 a4 a5 i) ∧ loopO (rvB l a2 a3 a4 a5) 0 = some (.inl ())) ∨ (¬ (∀ i, i < l.length → BrOk l a2 a3 a4 a5 i) ∧ loopO (rvB l a2 a3 a4 a5) 0 = some (.inr false)) := by
      have hs := loopO_search (body := rvB l a2 a3 a4 a5) (fun k => (k : Int)) l.length (fun k => ¬ BrOk l a2 a3 a4 a5 k) (r0 := .inl ()) (r1 := .inr false) (x := 0) rfl
        (fun k hk hb => by
          rcases branch_j a2 a3 a4 a5 hk (by omega) with ⟨_, e⟩ | ⟨h, _⟩
          · unfold rvB; simp (disch := omega) only [↓bindO_some, ↓bindO_none, ↓joinO_inl, ↓joinO_inr, ↓joinO_none, ↓outO_some, ↓outO_none, ↓cond_true, ↓cond_false, ↓cond_and, ↓cond_or, ↓cond_not, ↓cond_ite, ↓if_pos, ↓if_neg, ↓if_true, ↓if_false, List.take_length, Nat.le_refl, Bool.not_true, Bool.not_false, e, wrap_i64']; rfl
          · exact (hb h).elim)
        (fun k hk hb => by
          rcases branch_j a2 a3 a4 a5 hk (by omega) with ⟨h, _⟩ | ⟨_, e⟩
          · exact (hb h).elim
          · unfold rvB; simp (disch := omega) only [↓bindO_some, ↓bindO_none, ↓joinO_inl, ↓joinO_inr, ↓joinO_none, ↓outO_some, ↓outO_none, ↓cond_true, ↓cond_false, ↓cond_and, ↓cond_or, ↓cond_not, ↓cond_ite, ↓if_pos, ↓if_neg, ↓if_true, ↓if_false, List.take_length, Nat.le_refl, Bool.not_true, Bool.not_false, e])
        (by unfold rvB; simp (disch := omega) only [↓bindO_some, ↓bindO_none, ↓joinO_inl, ↓joinO_inr, ↓joinO_none, ↓outO_some, ↓outO_none, ↓cond_true, ↓cond_false, ↓cond_and, ↓cond_or, ↓cond_not, ↓cond_ite, ↓if_pos, ↓if_neg, ↓if_true, ↓if_false, List.take_length, Nat.le_refl, Bool.not_true, Bool.not_false])
      rcases hs with ⟨⟨k, h1, h2⟩, e⟩ | ⟨h, e⟩
      · exact .inr ⟨fun h => h2 (h k h1), e⟩
      · exact .inl ⟨fun k hk => Classical.byContradiction fun hb => h ⟨k, hk, hb⟩, e⟩
    refine Is.iff ?_ ⟨fun h => ⟨h0, h⟩, fun h => h.2⟩
    refine Is.and ?_ _ hloop
    refine Is.and ?_ _ ?_
    · generalize (∃ i, i < l.length ∧ Op (l.getD i d0)) = O at *
      rcases ho with ⟨o1, o2⟩ | ⟨o1, o2⟩ <;> rw [o2] <;> cases a3 <;> cases a4 <;> cases a5 <;> by_cases hw : a2 ≥ 0 <;> simp [bindO, cond_ite, hw, Is, o1, show (a2 < 0) ↔ ¬ (a2 ≥ 0) by omega]
    · by_cases hw : 0 ≤ a2
      · simp (disch := omega) only [↓cond_ite, ↓if_pos, ↓get_bz d0]
        generalize l.getD a2.toNat d0 = x
        cases a3 <;> cases a4 <;> cases a5 <;> by_cases h1 : x.2.2.1 = 5 <;> by_cases h2 : x.2.2.2 ≥ 300 <;> simp [hw, h1, h2, outO, cond_ite] <;> omega
      · simp (disch := omega) only [↓cond_ite, ↓if_neg]
        exact .inl ⟨fun h => (hw h).elim, by first | trivial | rfl⟩
  · refine Is.iff (P := False) ?_ ⟨False.elim, fun h => h0 h.1⟩
    by_cases h1 : (l.length : Int) > 16
    · simp (disch := omega) only [↓bindO_some, ↓bindO_none, ↓joinO_inl, ↓joinO_inr, ↓joinO_none, ↓outO_some, ↓outO_none, ↓cond_true, ↓cond_false, ↓cond_and, ↓cond_or, ↓cond_not, ↓cond_ite, ↓if_pos, ↓if_neg, ↓if_true, ↓if_false, List.take_length, Nat.le_refl, Bool.not_true, Bool.not_false]; exact .f id
    · by_cases h2 : a2 < -1
      · simp (disch := omega) only [↓bindO_some, ↓bindO_none, ↓joinO_inl, ↓joinO_inr, ↓joinO_none, ↓outO_some, ↓outO_none, ↓cond_true, ↓cond_false, ↓cond_and, ↓cond_or, ↓cond_not, ↓cond_ite, ↓if_pos, ↓if_neg, ↓if_true, ↓if_false, List.take_length, Nat.le_refl, Bool.not_true, Bool.not_false]; exact .f id
      · simp (disch := omega) only [↓bindO_some, ↓bindO_none, ↓joinO_inl, ↓joinO_inr, ↓joinO_none, ↓outO_some, ↓outO_none, ↓cond_true, ↓cond_false, ↓cond_and, ↓cond_or, ↓cond_not, ↓cond_ite, ↓if_pos, ↓if_neg, ↓if_true, ↓if_false, List.take_length, Nat.le_refl, Bool.not_true, Bool.not_false]; exact .f id
end Go.Proofs.Ytheicchelhjcjaa
