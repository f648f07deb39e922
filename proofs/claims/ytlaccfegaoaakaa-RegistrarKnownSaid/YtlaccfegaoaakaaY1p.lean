import Derived.Test.YtlaccfegaoaakaaXBp
set_option linter.unusedVariables false
set_option linter.unusedSimpArgs false
namespace Go.Proofs.Ytlaccfegaoaakaa
open Go.RowKit
theorem loopO_steps {υ β : Type} {body : υ → Option (υ ⊕ β)} (st : Nat → υ) : ∀ (n : Nat) {r : β}, (∀ i, i < n → body (st i) = some (.inl (st (i + 1)))) → body (st n) = some (.inr r) → loopO body (st 0) = some r := by
  intro n r h he
  suffices hs : ∀ k, k ≤ n → loopO body (st (n - k)) = some r by
    have := hs n (Nat.le_refl n)
    rwa [Nat.sub_self] at this
  intro k
  induction k with
  | zero => intro _; rw [Nat.sub_zero, loopO_eq, he]
  | succ k ih =>
    intro hk
    rw [loopO_eq, h (n - (k + 1)) (by omega)]
    simp only
    rw [show n - (k + 1) + 1 = n - k from by omega]
    exact ih (by omega)
theorem loopO_from {υ β : Type} {body : υ → Option (υ ⊕ β)} {x : υ} (st : Nat → υ) (n : Nat) {r : β} (h0 : st 0 = x) (h : ∀ i, i < n → body (st i) = some (.inl (st (i + 1)))) (he : body (st n) = some (.inr r)) : loopO body x = some r := by
  rw [← h0]; exact loopO_steps st n h he
def SimS {υ1 υ2 α β : Type} (R : υ1 → υ2 → Prop) (k : α → Option β) (o1 : Option (υ1 ⊕ (α ⊕ β))) (o2 : Option (υ2 ⊕ β)) : Prop :=
  (∃ x y, o1 = some (.inl x) ∧ o2 = some (.inl y) ∧ R x y) ∨ ∃ r s, o1 = some (.inr r) ∧ o2 = some (.inr s) ∧ joinO (some r) k = some s
section
variable {υ1 υ2 α β γ : Type} {R : υ1 → υ2 → Prop} {k : α → Option β} {o2 : Option (υ2 ⊕ β)}
theorem SimS.stop {r : α ⊕ β} {s : β} (h : joinO (some r) k = some s) : SimS R k (some (.inr r)) (some (.inr s)) := .inr ⟨r, s, rfl, rfl, h⟩
theorem SimS.join {x : Option (γ ⊕ (υ1 ⊕ (α ⊕ β)))} {f : γ → Option (υ1 ⊕ (α ⊕ β))} (a : γ) (h : x = some (.inl a)) (hk : SimS R k (f a) o2) : SimS R k (joinO x f) o2 := by rw [h]; exact hk
theorem SimS.bind {x : Option γ} {f : γ → Option (υ1 ⊕ (α ⊕ β))} (a : γ) (h : x = some a) (hk : SimS R k (f a) o2) : SimS R k (bindO x f) o2 := by rw [h]; exact hk
end
def PostS {υ β : Type} (I : υ → Prop) (Q : β → Prop) (μ : υ → Nat) (m : Nat) (o : Option (υ ⊕ β)) : Prop := (∃ b, o = some (.inr b) ∧ Q b) ∨ ∃ y, o = some (.inl y) ∧ I y ∧ μ y < m
section
variable {υ β γ : Type} {I : υ → Prop} {Q : β → Prop} {μ : υ → Nat} {m : Nat}
theorem PostS.stop {b : β} (h : Q b) : PostS I Q μ m (some (.inr b)) := .inl ⟨b, rfl, h⟩
theorem PostS.join {x : Option (γ ⊕ (υ ⊕ β))} {f : γ → Option (υ ⊕ β)} (a : γ) (h : x = some (.inl a)) (hk : PostS I Q μ m (f a)) : PostS I Q μ m (joinO x f) := by rw [h]; exact hk
theorem PostS.bind {x : Option γ} {f : γ → Option (υ ⊕ β)} (a : γ) (h : x = some a) (hk : PostS I Q μ m (f a)) : PostS I Q μ m (bindO x f) := by rw [h]; exact hk
end
def Bytes (l : List Int) : Prop := ∀ x ∈ l, 0 ≤ x ∧ x ≤ 255
theorem Bytes.app {a b : List Int} (h : Bytes a) (k : Bytes b) : Bytes (a ++ b) := fun x hx => by
  rcases List.mem_append.1 hx with e | e
  · exact h x e
  · exact k x e
theorem Bytes.take {l : List Int} (h : Bytes l) (n : Nat) : Bytes (l.take n) := fun x hx => h x (List.mem_of_mem_take hx)
theorem Bytes.drop {l : List Int} (h : Bytes l) (n : Nat) : Bytes (l.drop n) := fun x hx => h x (List.mem_of_mem_drop hx)
theorem Bytes.get {l : List Int} (h : Bytes l) {i : Nat} (hi : i < l.length) : 0 ≤ l[i] ∧ l[i] ≤ 255 := h _ (List.getElem_mem hi)
theorem Bytes.getD {l : List Int} (h : Bytes l) (i : Nat) : 0 ≤ l.getD i 0 ∧ l.getD i 0 ≤ 255 := by
  rw [List.getD_eq_getElem?_getD]
  cases hi : l[i]? with
  | none => simp
  | some x => exact h x (List.mem_of_getElem? hi)
end Go.Proofs.Ytlaccfegaoaakaa
