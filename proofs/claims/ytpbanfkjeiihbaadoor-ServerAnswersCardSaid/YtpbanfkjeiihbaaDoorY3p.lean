import Derived.Test.YtpbanfkjeiihbaaDoorY1p
set_option linter.unusedVariables false
namespace Go.Proofs.YtpbanfkjeiihbaaDoor
open Go.RowKit
theorem get_bz {α β : Type} {l : List α} {v : Int} (d : α) (f : α → Option β) (h : 0 ≤ v ∧ v < (l.length : Int)) : bindO l[Int.toNat v]? f = f (l.getD v.toNat d) := by rw [get_D' d (by omega)]; rfl
theorem get_at {α : Type} {l : List α} {i : Nat} (d : α) (h : i < l.length) : ∃ x, l.getD i d = x ∧ ∀ {β : Type} (f : α → Option β), bindO l[Int.toNat (i : Int)]? f = f x := ⟨_, rfl, fun f => get_bz d f (by omega)⟩
def Is (o : Option Bool) (P : Prop) : Prop := (P ∧ o = some true) ∨ (¬ P ∧ o = some false)
theorem Is.t {P : Prop} (h : P) : Is (some true) P := .inl ⟨h, rfl⟩
theorem Is.f {P : Prop} (h : ¬ P) : Is (some false) P := .inr ⟨h, rfl⟩
theorem Is.d {P Q : Prop} [Decidable Q] (h : Q ↔ P) : Is (some (decide Q)) P := by
  by_cases k : Q
  · exact .inl ⟨h.1 k, by rw [decide_eq_true k]⟩
  · exact .inr ⟨fun p => k (h.2 p), by rw [decide_eq_false k]⟩
theorem Is.iff {o : Option Bool} {P Q : Prop} (h : Is o P) (k : P ↔ Q) : Is o Q := by
  rcases h with ⟨h, e⟩ | ⟨h, e⟩
  · exact .inl ⟨k.1 h, e⟩
  · exact .inr ⟨fun q => h (k.2 q), e⟩
theorem Is.some {o : Option Bool} {P : Prop} (h : Is o P) : ∃ b, o = Option.some b := by
  rcases h with ⟨_, e⟩ | ⟨_, e⟩ <;> exact ⟨_, e⟩
theorem take_snoc {α : Type} (l : List α) (d : α) {i : Nat} (h : i < l.length) : l.take (i + 1) = l.take i ++ [l.getD i d] := by
  rw [List.take_add_one, List.getElem?_eq_getElem h, getD_get d h]; rfl
theorem SDl : (∀ {α β : Type} (a : α) (f : α → Option β), bindO (some a) f = f a) ∧ (∀ {α β : Type} (f : α → Option β), bindO none f = none) ∧ (∀ {α β : Type} (a : α) (f : α → Option β), joinO (some (.inl a)) f = f a) ∧ (∀ {α β : Type} (b : β) (f : α → Option β), joinO (some (.inr b)) f = some b) ∧ (∀ {α β : Type} (f : α → Option β), joinO none f = none) ∧ (∀ {α β : Type} (b : β), (outO (some b) : Option (α ⊕ β)) = some (.inr b)) ∧ (∀ {α β : Type}, (outO none : Option (α ⊕ β)) = none) ∧ (∀ {α : Type} (a b : α), (bif true then a else b) = a) ∧ (∀ {α : Type} (a b : α), (bif false then a else b) = b) ∧ (∀ {α : Type} (p q : Bool) (a b : α), (bif (p && q) then a else b) = bif p then (bif q then a else b) else b) ∧ (∀ {α : Type} (p q : Bool) (a b : α), (bif (p || q) then a else b) = bif p then a else (bif q then a else b)) ∧ (∀ {α : Type} (p : Bool) (a b : α), (bif (!p) then a else b) = bif p then b else a) ∧ (∀ {α : Type} (p : Prop) [Decidable p] (a b : α), (bif decide p then a else b) = if p then a else b) ∧ (∀ {α : Type} (p : Prop) [Decidable p] (a b : α), p → (if p then a else b) = a) ∧ (∀ {α : Type} (p : Prop) [Decidable p] (a b : α), ¬ p → (if p then a else b) = b) :=
  ⟨bindO_some, bindO_none, joinO_inl, joinO_inr, joinO_none, outO_some, outO_none, fun _ _ => rfl, fun _ _ => rfl, cond_and, cond_or, cond_not, cond_ite, fun _ _ _ _ h => if_pos h, fun _ _ _ _ h => if_neg h⟩
theorem SDr : (∀ {α : Type} (l : List α), List.take l.length l = l) ∧ (∀ n : Nat, (n ≤ n) = True) ∧ (!true) = false ∧ (!false) = true ∧ (∀ {α : Type} (a b : α), (if True then a else b) = a) ∧ (∀ {α : Type} (a b : α), (if False then a else b) = b) :=
  ⟨fun l => List.take_length, fun n => eq_true (Nat.le_refl n), rfl, rfl, fun _ _ => if_true .., fun _ _ => if_false ..⟩
theorem LNl : (∀ {α : Type} (l : List α) (i : Nat) (a : α), (l.set i a).length = l.length) ∧ (∀ {α : Type} (l m : List α), (l ++ m).length = l.length + m.length) ∧ (∀ {α : Type} (a : α) (l : List α), (a :: l).length = l.length + 1) ∧ (∀ {α : Type}, ([] : List α).length = 0) ∧ (∀ {α : Type} (l : List α), [] ++ l = l) ∧ (∀ {α : Type} (n : Nat) (l : List α), (l.take n).length = min n l.length) ∧ (∀ {α : Type} (n : Nat) (l : List α), (l.drop n).length = l.length - n) :=
  ⟨fun _ _ _ => List.length_set, fun _ _ => List.length_append, fun _ _ => rfl, rfl, fun _ => rfl, fun _ _ => List.length_take, fun _ _ => List.length_drop⟩
end Go.Proofs.YtpbanfkjeiihbaaDoor
