import Derived.Test.YtkhdpjlpahammaaY1p
set_option linter.unusedVariables false
namespace Go.Proofs.Ytkhdpjlpahammaa
open Go.RowKit
theorem get_bz {α β : Type} {l : List α} {v : Int} (d : α) (f : α → Option β) (h : 0 ≤ v ∧ v < (l.length : Int)) : bindO l[Int.toNat v]? f = f (l.getD v.toNat d) := by rw [get_D' d (by omega)]; rfl
theorem get_at {α : Type} {l : List α} {i : Nat} (d : α) (h : i < l.length) : ∃ x, l.getD i d = x ∧ ∀ {β : Type} (f : α → Option β), bindO l[Int.toNat (i : Int)]? f = f x := ⟨_, rfl, fun f => get_bz d f (by omega)⟩
def Is (o : Option Bool) (P : Prop) : Prop := (P ∧ o = some true) ∨ (¬ P ∧ o = some false)
theorem Is.t {P : Prop} (h : P) : Is (some true) P := .inl ⟨h, rfl⟩
theorem Is.f {P : Prop} (h : ¬ P) : Is (some false) P := .inr ⟨h, rfl⟩
theorem Is.d {P Q : Prop} [Decidable Q] (h : Q ↔ P) : Is (some (decide Q)) P := by
  by_cases k : Q
  · exact .inl ⟨h.1 k, by rw [decide_eq_true k]⟩
  · exact .inr ⟨fun p => k (h.2 p), by rw [decide_eq_false k]⟩
theorem Is.iff {o : Option Bool} {P Q : Prop} (h : Is o P) (k : P ↔ Q) : Is o Q := by
  rcases h with ⟨h, e⟩ | ⟨h, e⟩
  · exact .inl ⟨k.1 h, e⟩
  · exact .inr ⟨fun q => h (k.2 q), e⟩
theorem Is.some {o : Option Bool} {P : Prop} (h : Is o P) : ∃ b, o = Option.some b := by
  rcases h with ⟨_, e⟩ | ⟨_, e⟩ <;> exact ⟨_, e⟩
theorem take_snoc {α : Type} (l : List α) (d : α) {i : Nat} (h : i < l.length) : l.take (i + 1) = l.take i ++ [l.getD i d] := by
  rw [List.take_add_one, List.getElem?_eq_getElem h, getD_get d h]; rfl
theorem drop_cons {α : Type} (l : List α) (d : α) {i : Nat} (h : i < l.length) : l.drop i = l.getD i d :: l.drop (i + 1) := by
  rw [List.drop_eq_getElem_cons h, getD_get d h]
end Go.Proofs.Ytkhdpjlpahammaa
