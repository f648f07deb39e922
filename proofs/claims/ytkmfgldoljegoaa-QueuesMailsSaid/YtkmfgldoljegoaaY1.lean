/- Plain laws: tools for the trees that the executor prints. -/
import Derived.Test.YtkmfgldoljegoaaXB
set_option linter.unusedVariables false
set_option linter.unusedSimpArgs false
namespace Go.Proofs.Ytkmfgldoljegoaa
open Go.RowKit

theorem bindO_some {α β : Type} (a : α) (f : α → Option β) : bindO (some a) f = f a := rfl
theorem bindO_none {α β : Type} (f : α → Option β) : bindO none f = none := rfl
theorem joinO_inl {α β : Type} (a : α) (f : α → Option β) : joinO (some (.inl a)) f = f a := rfl
theorem joinO_inr {α β : Type} (b : β) (f : α → Option β) : joinO (some (.inr b)) f = some b := rfl
theorem joinO_none {α β : Type} (f : α → Option β) : joinO none f = none := rfl
theorem outO_some {α β : Type} (b : β) : (outO (some b) : Option (α ⊕ β)) = some (.inr b) := rfl
theorem outO_none {α β : Type} : (outO none : Option (α ⊕ β)) = none := rfl
theorem cond_ite {α : Type} (p : Prop) [Decidable p] (a b : α) : (bif decide p then a else b) = if p then a else b := by by_cases h : p <;> simp [h]
theorem cond_and {α : Type} (p q : Bool) (a b : α) : (bif (p && q) then a else b) = bif p then (bif q then a else b) else b := by cases p <;> rfl
theorem cond_or {α : Type} (p q : Bool) (a b : α) : (bif (p || q) then a else b) = bif p then a else (bif q then a else b) := by cases p <;> rfl
theorem cond_not {α : Type} (p : Bool) (a b : α) : (bif (!p) then a else b) = bif p then b else a := by cases p <;> rfl
theorem and_dec (p q : Prop) [Decidable p] [Decidable q] : (decide p && decide q) = decide (p ∧ q) := by by_cases h : p <;> by_cases k : q <;> simp [h, k]
theorem bindO_ite {α β : Type} (p : Prop) [Decidable p] (a b : Option α) (f : α → Option β) : bindO (if p then a else b) f = if p then bindO a f else bindO b f := by split <;> rfl
theorem joinO_ite {α β : Type} (p : Prop) [Decidable p] (a b : Option (α ⊕ β)) (f : α → Option β) : joinO (if p then a else b) f = if p then joinO a f else joinO b f := by split <;> rfl
theorem outO_ite {α β : Type} (p : Prop) [Decidable p] (a b : Option β) : (outO (if p then a else b) : Option (α ⊕ β)) = if p then outO a else outO b := by split <;> rfl
theorem bindO_eq {α β : Type} {x : Option α} {f : α → Option β} {a : α} {r : Option β} (h : x = some a) (k : f a = r) : bindO x f = r := by rw [h]; exact k
theorem joinO_eq {α β : Type} {x : Option (α ⊕ β)} {f : α → Option β} {a : α} {r : Option β} (h : x = some (.inl a)) (k : f a = r) : joinO x f = r := by rw [h]; exact k
theorem joinO_eqr {α β : Type} {x : Option (α ⊕ β)} {f : α → Option β} {b : β} (h : x = some (.inr b)) : joinO x f = some b := by rw [h]; rfl
/-- What is, is; its name. -/
theorem get_in {α : Type} {l : List α} {i : Int} (h0 : 0 ≤ i) (h1 : i < (l.length : Int)) : l[i.toNat]? = some (l[i.toNat]'(by omega)) := List.getElem?_eq_getElem (by omega)
theorem get_nat {α : Type} {l : List α} {i : Nat} (h1 : i < l.length) : l[((i : Nat) : Int).toNat]? = some l[i] := by rw [Int.toNat_natCast]; exact List.getElem?_eq_getElem h1
/-- **Rounds in a row**, and the end. -/
theorem loopO_steps {υ β : Type} {body : υ → Option (υ ⊕ β)} (st : Nat → υ) : ∀ (n : Nat) {r : β}, (∀ i, i < n → body (st i) = some (.inl (st (i + 1)))) → body (st n) = some (.inr r) → loopO body (st 0) = some r := by
  intro n r h he
  suffices hs : ∀ k, k ≤ n → loopO body (st (n - k)) = some r by
    have := hs n (Nat.le_refl n)
    rwa [Nat.sub_self] at this
  intro k
  induction k with
  | zero => intro _; rw [Nat.sub_zero, loopO_eq, he]
  | succ k ih =>
    intro hk
    rw [loopO_eq, h (n - (k + 1)) (by omega)]
    simp only
    rw [show n - (k + 1) + 1 = n - k from by omega]
    exact ih (by omega)
/-- The same, from where it begins. -/
theorem loopO_from {υ β : Type} {body : υ → Option (υ ⊕ β)} {x : υ} (st : Nat → υ) (n : Nat) {r : β} (h0 : st 0 = x) (h : ∀ i, i < n → body (st i) = some (.inl (st (i + 1)))) (he : body (st n) = some (.inr r)) : loopO body x = some r := by
  rw [← h0]; exact loopO_steps st n h he
/-- A loop over a list: what is done with each element, until one ends it. -/
def goL {α σ β : Type} (step : σ → α → σ ⊕ β) (fin : σ → β) : σ → List α → β
  | s, [] => fin s
  | s, x :: l => match step s x with
    | .inl s' => goL step fin s' l
    | .inr b => b
theorem loopO_list {υ α σ β : Type} {body : υ → Option (υ ⊕ β)} (l : List α) (st : Nat → σ → υ) (step : σ → α → σ ⊕ β) (fin : σ → β) (I : Nat → σ → Prop)
    (round : ∀ (i : Nat) (s : σ) (hi : i < l.length), I i s → (∃ s', step s l[i] = .inl s' ∧ body (st i s) = some (.inl (st (i + 1) s')) ∧ I (i + 1) s') ∨ ∃ b, step s l[i] = .inr b ∧ body (st i s) = some (.inr b))
    (last : ∀ s, I l.length s → body (st l.length s) = some (.inr (fin s))) {s : σ} (hs : I 0 s) : loopO body (st 0 s) = some (goL step fin s l) := by
  suffices h : ∀ k i s, i + k = l.length → I i s → loopO body (st i s) = some (goL step fin s (l.drop i)) by
    have := h l.length 0 s (by omega) hs
    rwa [List.drop_zero] at this
  intro k
  induction k with
  | zero =>
    intro i s hi hI
    have : i = l.length := by omega
    subst this
    rw [loopO_eq, last s hI, List.drop_length]
    rfl
  | succ k ih =>
    intro i s hi hI
    have hlt : i < l.length := by omega
    rw [List.drop_eq_getElem_cons hlt]
    rcases round i s hlt hI with ⟨s', h1, h2, h3⟩ | ⟨b, h1, h2⟩
    · rw [loopO_eq, h2]
      simp only [goL, h1]
      exact ih (i + 1) s' (by omega) h3
    · rw [loopO_eq, h2]
      simp only [goL, h1]
/-- Two loops with the same rounds. -/
theorem loopO_congr {υ β : Type} {b1 b2 : υ → Option (υ ⊕ β)} (I : υ → Prop) (h : ∀ x, I x → b1 x = b2 x ∧ ∀ y, b1 x = some (.inl y) → I y) {x : υ} (hx : I x) : loopO b1 x = loopO b2 x := by
  have one : ∀ {b1 b2 : υ → Option (υ ⊕ β)}, (∀ x, I x → b1 x = b2 x ∧ ∀ y, b1 x = some (.inl y) → I y) → ∀ r x, I x → LoopR b1 x r → LoopR b2 x r := by
    intro b1 b2 h r x hx hr
    induction hr with
    | done hd => exact .done (by rw [← (h _ hx).1]; exact hd)
    | step hd _ ih => exact .step (by rw [← (h _ hx).1]; exact hd) (ih ((h _ hx).2 _ hd))
  have h' : ∀ x, I x → b2 x = b1 x ∧ ∀ y, b2 x = some (.inl y) → I y := fun x hx => ⟨(h x hx).1.symm, fun y hy => (h x hx).2 y (by rw [(h x hx).1]; exact hy)⟩
  cases h1 : loopO b1 x with
  | some r => exact (loopO_iff.2 (one h r x hx (loopO_iff.1 h1))).symm
  | none =>
    cases h2 : loopO b2 x with
    | none => rfl
    | some r => rw [loopO_iff.2 (one h' r x hx (loopO_iff.1 h2))] at h1; cases h1
/-- The first of those that are so. -/
theorem least {p : Nat → Prop} (h : ∃ n, p n) : ∃ n, p n ∧ ∀ m, m < n → ¬ p m := by
  obtain ⟨n, hn⟩ := h
  induction n using Nat.strongRecOn with
  | _ n ih =>
    by_cases hx : ∃ m, m < n ∧ p m
    · obtain ⟨m, h1, h2⟩ := hx
      exact ih m h1 h2
    · exact ⟨n, hn, fun m hm hp => hx ⟨m, hm, hp⟩⟩
/-- A loop that looks for one. -/
theorem loopO_search {υ β : Type} {body : υ → Option (υ ⊕ β)} (st : Nat → υ) (m : Nat) (bad : Nat → Prop) {r0 r1 : β} {x : υ} (hx : st 0 = x) (h1 : ∀ i, i < m → ¬ bad i → body (st i) = some (.inl (st (i + 1)))) (h2 : ∀ i, i < m → bad i → body (st i) = some (.inr r1)) (h3 : body (st m) = some (.inr r0)) :
    ((∃ i, i < m ∧ bad i) ∧ loopO body x = some r1) ∨ ((¬ ∃ i, i < m ∧ bad i) ∧ loopO body x = some r0) := by
  by_cases h : ∃ i, i < m ∧ bad i
  · left
    refine ⟨h, ?_⟩
    obtain ⟨k, ⟨k1, k2⟩, k3⟩ := least h
    exact loopO_from st k hx (fun i hi => h1 i (by omega) fun hb => k3 i hi ⟨by omega, hb⟩) (h2 k k1 k2)
  · right
    exact ⟨h, loopO_from st m hx (fun i hi => h1 i hi fun hb => h ⟨i, hi, hb⟩) h3⟩
/-- The same, as a goal. -/
theorem loopO_searchJ {υ α β : Type} {body : υ → Option (υ ⊕ (α ⊕ β))} {f : α → Option β} {x : υ} (Q : Option β → Prop) (st : Nat → υ) (m : Nat) (bad : Nat → Prop) (r0 r1 : α ⊕ β) (hx : st 0 = x) (h1 : ∀ i, i < m → ¬ bad i → body (st i) = some (.inl (st (i + 1)))) (h2 : ∀ i, i < m → bad i → body (st i) = some (.inr r1)) (h3 : body (st m) = some (.inr r0))
    (k1 : (∃ i, i < m ∧ bad i) → Q (joinO (some r1) f)) (k0 : (¬ ∃ i, i < m ∧ bad i) → Q (joinO (some r0) f)) : Q (joinO (loopO body x) f) := by
  rcases loopO_search st m bad hx h1 h2 h3 with ⟨h, e⟩ | ⟨h, e⟩
  · rw [e]; exact k1 h
  · rw [e]; exact k0 h
theorem get_D {α : Type} {l : List α} {i : Nat} (d : α) (h1 : i < l.length) : l[((i : Nat) : Int).toNat]? = some (l.getD i d) := by rw [get_nat h1, List.getD_eq_getElem?_getD, List.getElem?_eq_getElem h1]; rfl
theorem get_D' {α : Type} {l : List α} {i : Nat} (d : α) (h1 : i < l.length) : l[i]? = some (l.getD i d) := by rw [List.getD_eq_getElem?_getD, List.getElem?_eq_getElem h1]; rfl
theorem getD_get {α : Type} {l : List α} {i : Nat} (d : α) (h1 : i < l.length) : l.getD i d = l[i] := by rw [List.getD_eq_getElem?_getD, List.getElem?_eq_getElem h1]; rfl
/-- A loop that goes as another one. -/
theorem loopO_sim {υ1 υ2 β1 β2 : Type} {b1 : υ1 → Option (υ1 ⊕ β1)} {b2 : υ2 → Option (υ2 ⊕ β2)} (R : υ1 → υ2 → Prop) (S : β1 → β2 → Prop)
    (h : ∀ x y, R x y → (∃ x' y', b1 x = some (.inl x') ∧ b2 y = some (.inl y') ∧ R x' y') ∨ (∃ r s, b1 x = some (.inr r) ∧ b2 y = some (.inr s) ∧ S r s)) {x : υ1} {y : υ2} (hxy : R x y) {s : β2} (hs : loopO b2 y = some s) : ∃ r, loopO b1 x = some r ∧ S r s := by
  have hr := loopO_iff.1 hs
  clear hs
  induction hr generalizing x with
  | done hd =>
    rcases h _ _ hxy with ⟨x', y', h1, h2, h3⟩ | ⟨r, s', h1, h2, h3⟩
    · rw [hd] at h2; cases h2
    · rw [hd] at h2; cases h2
      exact ⟨r, by rw [loopO_eq, h1], h3⟩
  | step hd _ ih =>
    rcases h _ _ hxy with ⟨x', y', h1, h2, h3⟩ | ⟨r, s', h1, h2, h3⟩
    · rw [hd] at h2; cases h2
      obtain ⟨r, q1, q2⟩ := ih h3
      exact ⟨r, by rw [loopO_eq, h1]; exact q1, q2⟩
    · rw [hd] at h2; cases h2
/-- A round that goes as another one. -/
def SimS {υ1 υ2 α β : Type} (R : υ1 → υ2 → Prop) (k : α → Option β) (o1 : Option (υ1 ⊕ (α ⊕ β))) (o2 : Option (υ2 ⊕ β)) : Prop :=
  (∃ x y, o1 = some (.inl x) ∧ o2 = some (.inl y) ∧ R x y) ∨ ∃ r s, o1 = some (.inr r) ∧ o2 = some (.inr s) ∧ joinO (some r) k = some s
section
variable {υ1 υ2 α β γ : Type} {R : υ1 → υ2 → Prop} {k : α → Option β} {o2 : Option (υ2 ⊕ β)}
theorem SimS.next {x : υ1} {y : υ2} (h : R x y) : SimS R k (some (.inl x)) (some (.inl y)) := .inl ⟨x, y, rfl, rfl, h⟩
theorem SimS.stop {r : α ⊕ β} {s : β} (h : joinO (some r) k = some s) : SimS R k (some (.inr r)) (some (.inr s)) := .inr ⟨r, s, rfl, rfl, h⟩
theorem SimS.join {x : Option (γ ⊕ (υ1 ⊕ (α ⊕ β)))} {f : γ → Option (υ1 ⊕ (α ⊕ β))} (a : γ) (h : x = some (.inl a)) (hk : SimS R k (f a) o2) : SimS R k (joinO x f) o2 := by rw [h]; exact hk
theorem SimS.bind {x : Option γ} {f : γ → Option (υ1 ⊕ (α ⊕ β))} (a : γ) (h : x = some a) (hk : SimS R k (f a) o2) : SimS R k (bindO x f) o2 := by rw [h]; exact hk
end
theorem loopO_simG {υ1 υ2 α β : Type} {b1 : υ1 → Option (υ1 ⊕ (α ⊕ β))} {b2 : υ2 → Option (υ2 ⊕ β)} {k : α → Option β} (R : υ1 → υ2 → Prop)
    (h : ∀ x y, R x y → SimS R k (b1 x) (b2 y)) {x : υ1} {y : υ2} (hxy : R x y) {s : β} (hs : loopO b2 y = some s) : joinO (loopO b1 x) k = some s := by
  obtain ⟨r, h1, h2⟩ := loopO_sim R (fun r s => joinO (some r) k = some s) h hxy hs
  rw [h1]; exact h2
/-- The same, as a goal. -/
theorem loopO_simJ {υ1 υ2 α β : Type} {b1 : υ1 → Option (υ1 ⊕ (α ⊕ β))} {b2 : υ2 → Option (υ2 ⊕ β)} {k : α → Option β} (R : υ1 → υ2 → Prop)
    (h : ∀ x y, R x y → (∃ x' y', b1 x = some (.inl x') ∧ b2 y = some (.inl y') ∧ R x' y') ∨ (∃ r s, b1 x = some (.inr r) ∧ b2 y = some (.inr s) ∧ joinO (some r) k = some s)) {x : υ1} {y : υ2} (hxy : R x y) {s : β} (hs : loopO b2 y = some s) : joinO (loopO b1 x) k = some s := by
  obtain ⟨r, h1, h2⟩ := loopO_sim R (fun r s => joinO (some r) k = some s) h hxy hs
  rw [h1]; exact h2
/-- A loop that ends, and what is so then. -/
theorem loopO_post {υ β : Type} {body : υ → Option (υ ⊕ β)} (I : υ → Prop) (Q : β → Prop) (μ : υ → Nat) (h : ∀ x, I x → (∃ b, body x = some (.inr b) ∧ Q b) ∨ ∃ y, body x = some (.inl y) ∧ I y ∧ μ y < μ x) {x : υ} (hx : I x) : ∃ r, loopO body x = some r ∧ Q r := by
  suffices hs : ∀ n x, μ x ≤ n → I x → ∃ r, loopO body x = some r ∧ Q r from hs _ x (Nat.le_refl _) hx
  intro n
  induction n with
  | zero =>
    intro x hm hx
    rcases h x hx with ⟨b, h1, h2⟩ | ⟨y, h1, h2, h3⟩
    · exact ⟨b, by rw [loopO_eq, h1], h2⟩
    · omega
  | succ n ih =>
    intro x hm hx
    rcases h x hx with ⟨b, h1, h2⟩ | ⟨y, h1, h2, h3⟩
    · exact ⟨b, by rw [loopO_eq, h1], h2⟩
    · obtain ⟨r, hr, hq⟩ := ih y (by omega) h2
      exact ⟨r, by rw [loopO_eq, h1]; exact hr, hq⟩
/-- A round that goes on, or ends so. -/
def PostS {υ β : Type} (I : υ → Prop) (Q : β → Prop) (μ : υ → Nat) (m : Nat) (o : Option (υ ⊕ β)) : Prop := (∃ b, o = some (.inr b) ∧ Q b) ∨ ∃ y, o = some (.inl y) ∧ I y ∧ μ y < m
section
variable {υ β γ : Type} {I : υ → Prop} {Q : β → Prop} {μ : υ → Nat} {m : Nat}
theorem PostS.next {y : υ} (h : I y) (k : μ y < m) : PostS I Q μ m (some (.inl y)) := .inr ⟨y, rfl, h, k⟩
theorem PostS.stop {b : β} (h : Q b) : PostS I Q μ m (some (.inr b)) := .inl ⟨b, rfl, h⟩
theorem PostS.join {x : Option (γ ⊕ (υ ⊕ β))} {f : γ → Option (υ ⊕ β)} (a : γ) (h : x = some (.inl a)) (hk : PostS I Q μ m (f a)) : PostS I Q μ m (joinO x f) := by rw [h]; exact hk
theorem PostS.joinr {x : Option (γ ⊕ (υ ⊕ β))} {f : γ → Option (υ ⊕ β)} (a : υ ⊕ β) (h : x = some (.inr a)) (hk : PostS I Q μ m (some a)) : PostS I Q μ m (joinO x f) := by rw [h]; exact hk
theorem PostS.bind {x : Option γ} {f : γ → Option (υ ⊕ β)} (a : γ) (h : x = some a) (hk : PostS I Q μ m (f a)) : PostS I Q μ m (bindO x f) := by rw [h]; exact hk
/-- As a goal. -/
theorem loopO_postG {α β : Type} {body : υ → Option (υ ⊕ (α ⊕ β))} {k : α → Option β} (I : υ → Prop) (μ : υ → Nat) (P : Option β → Prop) (h : ∀ x, I x → PostS I (fun r => P (joinO (some r) k)) μ (μ x) (body x)) {x : υ} (hx : I x) : P (joinO (loopO body x) k) := by
  obtain ⟨r, h1, h2⟩ := loopO_post I (fun r => P (joinO (some r) k)) μ h hx
  rw [h1]; exact h2
end
/-- A loop that ends. -/
theorem loopO_ends {υ β : Type} {body : υ → Option (υ ⊕ β)} (I : υ → Prop) (μ : υ → Nat) (h : ∀ x, I x → (∃ b, body x = some (.inr b)) ∨ ∃ y, body x = some (.inl y) ∧ I y ∧ μ y < μ x) {x : υ} (hx : I x) : ∃ r, loopO body x = some r := by
  suffices hs : ∀ n x, μ x ≤ n → I x → ∃ r, loopO body x = some r from hs _ x (Nat.le_refl _) hx
  intro n
  induction n with
  | zero =>
    intro x hm hx
    rcases h x hx with ⟨b, h1⟩ | ⟨y, h1, h2, h3⟩
    · exact ⟨b, by rw [loopO_eq, h1]⟩
    · omega
  | succ n ih =>
    intro x hm hx
    rcases h x hx with ⟨b, h1⟩ | ⟨y, h1, h2, h3⟩
    · exact ⟨b, by rw [loopO_eq, h1]⟩
    · obtain ⟨r, hr⟩ := ih y (by omega) h2
      exact ⟨r, by rw [loopO_eq, h1]; exact hr⟩
theorem layL_all {α : Type} {f l : List α} (h : l.length = f.length) : layL f 0 l = l := by
  unfold layL
  rw [List.take_zero, List.nil_append, Nat.zero_add, h, List.drop_length, List.append_nil]
theorem layL_length {α : Type} {f l : List α} {o : Nat} (h : o + l.length ≤ f.length) : (layL f o l).length = f.length := by
  unfold layL
  rw [List.length_append, List.length_append, List.length_take, List.length_drop]; omega
/-! ### reckoning -/
theorem wrap_i64' {n : Int} (h : -9223372036854775808 ≤ n ∧ n ≤ 9223372036854775807) : IntKind.wrap .i64 n = n := wrap_i64 h.1 h.2
theorem wr_u8 (n : Int) : IntKind.wrap .u8 n = n % 256 := by
  show (if (false && decide (n % 256 ≥ 128)) = true then n % 256 - 256 else n % 256) = _
  simp
theorem wr_u16 (n : Int) : IntKind.wrap .u16 n = n % 65536 := by
  show (if (false && decide (n % 65536 ≥ 32768)) = true then n % 65536 - 65536 else n % 65536) = _
  simp
theorem wr_u32 (n : Int) : IntKind.wrap .u32 n = n % 4294967296 := by
  show (if (false && decide (n % 4294967296 ≥ 2147483648)) = true then n % 4294967296 - 4294967296 else n % 4294967296) = _
  simp
theorem wr_u64 (n : Int) : IntKind.wrap .u64 n = n % 18446744073709551616 := by
  show (if (false && decide (n % 18446744073709551616 ≥ 9223372036854775808)) = true then n % 18446744073709551616 - 18446744073709551616 else n % 18446744073709551616) = _
  simp
theorem wfI64 {n : Int} (h : WfU (.int .i64) n) : -9223372036854775808 ≤ n ∧ n ≤ 9223372036854775807 := wf_i64 h
theorem wfU8 {n : Int} (h : WfU (.int .u8) n) : 0 ≤ n ∧ n ≤ 255 := wf_u8 h
theorem wfU16 {n : Int} (h : WfU (.int .u16) n) : 0 ≤ n ∧ n ≤ 65535 := wf_u16 h
theorem wfU32 {n : Int} (h : WfU (.int .u32) n) : 0 ≤ n ∧ n ≤ 4294967295 := wf_u32 h
/-- Bytes. -/
def Bytes (l : List Int) : Prop := ∀ x ∈ l, 0 ≤ x ∧ x ≤ 255
theorem wfBytes {l : List Int} (h : WfU (.list (.int .u8)) l) : Bytes l := fun x hx => wfU8 (h.2 x hx)
theorem Bytes.app {a b : List Int} (h : Bytes a) (k : Bytes b) : Bytes (a ++ b) := fun x hx => by
  rcases List.mem_append.1 hx with e | e
  · exact h x e
  · exact k x e
theorem Bytes.take {l : List Int} (h : Bytes l) (n : Nat) : Bytes (l.take n) := fun x hx => h x (List.mem_of_mem_take hx)
theorem Bytes.drop {l : List Int} (h : Bytes l) (n : Nat) : Bytes (l.drop n) := fun x hx => h x (List.mem_of_mem_drop hx)
theorem Bytes.get {l : List Int} (h : Bytes l) {i : Nat} (hi : i < l.length) : 0 ≤ l[i] ∧ l[i] ≤ 255 := h _ (List.getElem_mem hi)
theorem Bytes.getD {l : List Int} (h : Bytes l) (i : Nat) : 0 ≤ l.getD i 0 ∧ l.getD i 0 ≤ 255 := by
  rw [List.getD_eq_getElem?_getD]
  cases hi : l[i]? with
  | none => simp
  | some x => exact h x (List.mem_of_getElem? hi)
/-- Two bytes as a number. -/
theorem or_bytes {x y : Int} (hx : 0 ≤ x ∧ x ≤ 255) (hy : 0 ≤ y ∧ y ≤ 255) : IntKind.wrap .i64 (((BitVec.toNat ((BitVec.ofInt 64 (IntKind.wrap .i64 ((IntKind.wrap .i64 x) * (256 : Int)))) ||| (BitVec.ofInt 64 (IntKind.wrap .i64 y)))) : Nat) : Int) = 256 * x + y := by
  obtain ⟨a, rfl⟩ := Int.eq_ofNat_of_zero_le hx.1
  obtain ⟨b, rfl⟩ := Int.eq_ofNat_of_zero_le hy.1
  rw [wrap_i64' (n := (a : Int)) (by omega), wrap_i64' (n := (b : Int)) (by omega), wrap_i64' (n := (a : Int) * 256) (by omega)]
  rw [BitVec.toNat_or, show ((a : Int) * 256) = ((a * 256 : Nat) : Int) from by omega, BitVec.ofInt_natCast, BitVec.ofInt_natCast, BitVec.toNat_ofNat, BitVec.toNat_ofNat, Nat.mod_eq_of_lt (by omega), Nat.mod_eq_of_lt (by omega)]
  have := Nat.shiftLeft_add_eq_or_of_lt (i := 8) (b := b) (by omega) a
  rw [Nat.shiftLeft_eq] at this
  rw [← this, wrap_i64' (by omega)]
  omega
theorem bytesU_length (l : List Int) : (bytesU l).length = l.length := by unfold bytesU; rw [List.length_map]
theorem bytesU_inj {a b : List Int} (ha : Bytes a) (hb : Bytes b) : bytesU a = bytesU b ↔ a = b := by
  constructor
  · intro h
    have hl : a.length = b.length := by rw [← bytesU_length a, ← bytesU_length b, h]
    refine List.ext_getElem hl fun i h1 h2 => ?_
    have := congrArg (fun l => l[i]?) h
    simp only [bytesU, List.getElem?_map, List.getElem?_eq_getElem h1, List.getElem?_eq_getElem h2, Option.map_some, Option.some.injEq] at this
    have e := congrArg UInt8.toNat this
    rw [UInt8.toNat_ofNat', UInt8.toNat_ofNat'] at e
    have := ha.get h1
    have := hb.get h2
    omega
  · rintro rfl; rfl
end Go.Proofs.Ytkmfgldoljegoaa
