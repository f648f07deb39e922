import Derived.Test.YtkhdpjlpahammaaXBp
set_option linter.unusedVariables false
set_option linter.unusedSimpArgs false
namespace Go.Proofs.Ytkhdpjlpahammaa
open Go.RowKit
theorem bindO_some {α β : Type} (a : α) (f : α → Option β) : bindO (some a) f = f a := rfl
theorem bindO_none {α β : Type} (f : α → Option β) : bindO none f = none := rfl
theorem joinO_inl {α β : Type} (a : α) (f : α → Option β) : joinO (some (.inl a)) f = f a := rfl
theorem joinO_inr {α β : Type} (b : β) (f : α → Option β) : joinO (some (.inr b)) f = some b := rfl
theorem joinO_none {α β : Type} (f : α → Option β) : joinO none f = none := rfl
theorem outO_some {α β : Type} (b : β) : (outO (some b) : Option (α ⊕ β)) = some (.inr b) := rfl
theorem outO_none {α β : Type} : (outO none : Option (α ⊕ β)) = none := rfl
theorem cond_ite {α : Type} (p : Prop) [Decidable p] (a b : α) : (bif decide p then a else b) = if p then a else b := by by_cases h : p <;> simp [h]
theorem cond_and {α : Type} (p q : Bool) (a b : α) : (bif (p && q) then a else b) = bif p then (bif q then a else b) else b := by cases p <;> rfl
theorem cond_or {α : Type} (p q : Bool) (a b : α) : (bif (p || q) then a else b) = bif p then a else (bif q then a else b) := by cases p <;> rfl
theorem cond_not {α : Type} (p : Bool) (a b : α) : (bif (!p) then a else b) = bif p then b else a := by cases p <;> rfl
theorem joinO_eq {α β : Type} {x : Option (α ⊕ β)} {f : α → Option β} {a : α} {r : Option β} (h : x = some (.inl a)) (k : f a = r) : joinO x f = r := by rw [h]; exact k
theorem joinO_eqr {α β : Type} {x : Option (α ⊕ β)} {f : α → Option β} {b : β} (h : x = some (.inr b)) : joinO x f = some b := by rw [h]; rfl
theorem loopO_steps {υ β : Type} {body : υ → Option (υ ⊕ β)} (st : Nat → υ) : ∀ (n : Nat) {r : β}, (∀ i, i < n → body (st i) = some (.inl (st (i + 1)))) → body (st n) = some (.inr r) → loopO body (st 0) = some r := by
  intro n r h he
  suffices hs : ∀ k, k ≤ n → loopO body (st (n - k)) = some r by
    have := hs n (Nat.le_refl n)
    rwa [Nat.sub_self] at this
  intro k
  induction k with
  | zero => intro _; rw [Nat.sub_zero, loopO_eq, he]
  | succ k ih =>
    intro hk
    rw [loopO_eq, h (n - (k + 1)) (by omega)]
    simp only
    rw [show n - (k + 1) + 1 = n - k from by omega]
    exact ih (by omega)
theorem loopO_from {υ β : Type} {body : υ → Option (υ ⊕ β)} {x : υ} (st : Nat → υ) (n : Nat) {r : β} (h0 : st 0 = x) (h : ∀ i, i < n → body (st i) = some (.inl (st (i + 1)))) (he : body (st n) = some (.inr r)) : loopO body x = some r := by
  rw [← h0]; exact loopO_steps st n h he
theorem least {p : Nat → Prop} (h : ∃ n, p n) : ∃ n, p n ∧ ∀ m, m < n → ¬ p m := by
  obtain ⟨n, hn⟩ := h
  induction n using Nat.strongRecOn with
  | _ n ih =>
    by_cases hx : ∃ m, m < n ∧ p m
    · obtain ⟨m, h1, h2⟩ := hx
      exact ih m h1 h2
    · exact ⟨n, hn, fun m hm hp => hx ⟨m, hm, hp⟩⟩
theorem loopO_search {υ β : Type} {body : υ → Option (υ ⊕ β)} (st : Nat → υ) (m : Nat) (bad : Nat → Prop) {r0 r1 : β} {x : υ} (hx : st 0 = x) (h1 : ∀ i, i < m → ¬ bad i → body (st i) = some (.inl (st (i + 1)))) (h2 : ∀ i, i < m → bad i → body (st i) = some (.inr r1)) (h3 : body (st m) = some (.inr r0)) :
    ((∃ i, i < m ∧ bad i) ∧ loopO body x = some r1) ∨ ((¬ ∃ i, i < m ∧ bad i) ∧ loopO body x = some r0) := by
  by_cases h : ∃ i, i < m ∧ bad i
  · left
    refine ⟨h, ?_⟩
    obtain ⟨k, ⟨k1, k2⟩, k3⟩ := least h
    exact loopO_from st k hx (fun i hi => h1 i (by omega) fun hb => k3 i hi ⟨by omega, hb⟩) (h2 k k1 k2)
  · right
    exact ⟨h, loopO_from st m hx (fun i hi => h1 i hi fun hb => h ⟨i, hi, hb⟩) h3⟩
theorem get_D' {α : Type} {l : List α} {i : Nat} (d : α) (h1 : i < l.length) : l[i]? = some (l.getD i d) := by rw [List.getD_eq_getElem?_getD, List.getElem?_eq_getElem h1]; rfl
theorem getD_get {α : Type} {l : List α} {i : Nat} (d : α) (h1 : i < l.length) : l.getD i d = l[i] := by rw [List.getD_eq_getElem?_getD, List.getElem?_eq_getElem h1]; rfl
def SimS {υ1 υ2 α β : Type} (R : υ1 → υ2 → Prop) (k : α → Option β) (o1 : Option (υ1 ⊕ (α ⊕ β))) (o2 : Option (υ2 ⊕ β)) : Prop :=
  (∃ x y, o1 = some (.inl x) ∧ o2 = some (.inl y) ∧ R x y) ∨ ∃ r s, o1 = some (.inr r) ∧ o2 = some (.inr s) ∧ joinO (some r) k = some s
section
variable {υ1 υ2 α β γ : Type} {R : υ1 → υ2 → Prop} {k : α → Option β} {o2 : Option (υ2 ⊕ β)}
theorem SimS.next {x : υ1} {y : υ2} (h : R x y) : SimS R k (some (.inl x)) (some (.inl y)) := .inl ⟨x, y, rfl, rfl, h⟩
theorem SimS.stop {r : α ⊕ β} {s : β} (h : joinO (some r) k = some s) : SimS R k (some (.inr r)) (some (.inr s)) := .inr ⟨r, s, rfl, rfl, h⟩
theorem SimS.join {x : Option (γ ⊕ (υ1 ⊕ (α ⊕ β)))} {f : γ → Option (υ1 ⊕ (α ⊕ β))} (a : γ) (h : x = some (.inl a)) (hk : SimS R k (f a) o2) : SimS R k (joinO x f) o2 := by rw [h]; exact hk
theorem SimS.bind {x : Option γ} {f : γ → Option (υ1 ⊕ (α ⊕ β))} (a : γ) (h : x = some a) (hk : SimS R k (f a) o2) : SimS R k (bindO x f) o2 := by rw [h]; exact hk
end
theorem loopO_post {υ β : Type} {body : υ → Option (υ ⊕ β)} (I : υ → Prop) (Q : β → Prop) (μ : υ → Nat) (h : ∀ x, I x → (∃ b, body x = some (.inr b) ∧ Q b) ∨ ∃ y, body x = some (.inl y) ∧ I y ∧ μ y < μ x) {x : υ} (hx : I x) : ∃ r, loopO body x = some r ∧ Q r := by
  suffices hs : ∀ n x, μ x ≤ n → I x → ∃ r, loopO body x = some r ∧ Q r from hs _ x (Nat.le_refl _) hx
  intro n
  induction n with
  | zero =>
    intro x hm hx
    rcases h x hx with ⟨b, h1, h2⟩ | ⟨y, h1, h2, h3⟩
    · exact ⟨b, by rw [loopO_eq, h1], h2⟩
    · omega
  | succ n ih =>
    intro x hm hx
    rcases h x hx with ⟨b, h1, h2⟩ | ⟨y, h1, h2, h3⟩
    · exact ⟨b, by rw [loopO_eq, h1], h2⟩
    · obtain ⟨r, hr, hq⟩ := ih y (by omega) h2
      exact ⟨r, by rw [loopO_eq, h1]; exact hr, hq⟩
def PostS {υ β : Type} (I : υ → Prop) (Q : β → Prop) (μ : υ → Nat) (m : Nat) (o : Option (υ ⊕ β)) : Prop := (∃ b, o = some (.inr b) ∧ Q b) ∨ ∃ y, o = some (.inl y) ∧ I y ∧ μ y < m
section
variable {υ β γ : Type} {I : υ → Prop} {Q : β → Prop} {μ : υ → Nat} {m : Nat}
theorem PostS.next {y : υ} (h : I y) (k : μ y < m) : PostS I Q μ m (some (.inl y)) := .inr ⟨y, rfl, h, k⟩
theorem PostS.stop {b : β} (h : Q b) : PostS I Q μ m (some (.inr b)) := .inl ⟨b, rfl, h⟩
theorem PostS.join {x : Option (γ ⊕ (υ ⊕ β))} {f : γ → Option (υ ⊕ β)} (a : γ) (h : x = some (.inl a)) (hk : PostS I Q μ m (f a)) : PostS I Q μ m (joinO x f) := by rw [h]; exact hk
theorem PostS.bind {x : Option γ} {f : γ → Option (υ ⊕ β)} (a : γ) (h : x = some a) (hk : PostS I Q μ m (f a)) : PostS I Q μ m (bindO x f) := by rw [h]; exact hk
theorem loopO_postG {α β : Type} {body : υ → Option (υ ⊕ (α ⊕ β))} {k : α → Option β} (I : υ → Prop) (μ : υ → Nat) (P : Option β → Prop) (h : ∀ x, I x → PostS I (fun r => P (joinO (some r) k)) μ (μ x) (body x)) {x : υ} (hx : I x) : P (joinO (loopO body x) k) := by
  obtain ⟨r, h1, h2⟩ := loopO_post I (fun r => P (joinO (some r) k)) μ h hx
  rw [h1]; exact h2
end
theorem wrap_i64' {n : Int} (h : -9223372036854775808 ≤ n ∧ n ≤ 9223372036854775807) : IntKind.wrap .i64 n = n := wrap_i64 h.1 h.2
def Bytes (l : List Int) : Prop := ∀ x ∈ l, 0 ≤ x ∧ x ≤ 255
theorem Bytes.app {a b : List Int} (h : Bytes a) (k : Bytes b) : Bytes (a ++ b) := fun x hx => by
  rcases List.mem_append.1 hx with e | e
  · exact h x e
  · exact k x e
theorem Bytes.take {l : List Int} (h : Bytes l) (n : Nat) : Bytes (l.take n) := fun x hx => h x (List.mem_of_mem_take hx)
theorem Bytes.drop {l : List Int} (h : Bytes l) (n : Nat) : Bytes (l.drop n) := fun x hx => h x (List.mem_of_mem_drop hx)
theorem Bytes.get {l : List Int} (h : Bytes l) {i : Nat} (hi : i < l.length) : 0 ≤ l[i] ∧ l[i] ≤ 255 := h _ (List.getElem_mem hi)
theorem Bytes.getD {l : List Int} (h : Bytes l) (i : Nat) : 0 ≤ l.getD i 0 ∧ l.getD i 0 ≤ 255 := by
  rw [List.getD_eq_getElem?_getD]
  cases hi : l[i]? with
  | none => simp
  | some x => exact h x (List.mem_of_getElem? hi)
end Go.Proofs.Ytkhdpjlpahammaa
