import Derived.Test.YtpbanfkjeiihbaaDoorY1p
set_option linter.unusedVariables false
namespace Go.Proofs.YtpbanfkjeiihbaaDoor
open Go.RowKit
def loopF {υ β : Type} (body : υ → Option (υ ⊕ β)) (n : Nat) : υ → Option β :=
  Nat.rec (motive := fun _ => υ → Option β) (fun _ => none) (fun _ ih x => match body x with | some (.inl y) => ih y | some (.inr b) => some b | none => none) n
def LeO {β : Type} (x y : Option β) : Prop := ∀ r, x = some r → y = some r
theorem LeO.refl {β : Type} (x : Option β) : LeO x x := fun _ h => h
theorem LeO.bind {α β : Type} {x y : Option α} {f g : α → Option β} (h : LeO x y) (k : ∀ a, LeO (f a) (g a)) : LeO (bindO x f) (bindO y g) := by
  intro r hr
  cases hx : x with
  | none => rw [hx] at hr; cases hr
  | some a => rw [hx] at hr; rw [h a hx]; exact k a r hr
theorem LeO.join {α β : Type} {x y : Option (α ⊕ β)} {f g : α → Option β} (h : LeO x y) (k : ∀ a, LeO (f a) (g a)) : LeO (joinO x f) (joinO y g) := by
  intro r hr
  cases hx : x with
  | none => rw [hx] at hr; cases hr
  | some a =>
    rw [hx] at hr; rw [h a hx]
    cases a with
    | inl a => exact k a r hr
    | inr a => exact hr
theorem LeO.out {α β : Type} {x y : Option β} (h : LeO x y) : LeO (outO x : Option (α ⊕ β)) (outO y) := by
  intro r hr
  cases hx : x with
  | none => rw [hx] at hr; cases hr
  | some a => rw [hx] at hr; rw [h a hx]; exact hr
theorem LeO.cond {β : Type} {c : Bool} {x y x' y' : Option β} (h : LeO x x') (k : LeO y y') : LeO (bif c then x else y) (bif c then x' else y') := by
  cases c <;> assumption
theorem LeO.loop {υ β : Type} {f g : υ → Option (υ ⊕ β)} (n : Nat) (x : υ) (h : ∀ s, LeO (f s) (g s)) : LeO (loopF f n x) (loopO g x) := by
  intro r hr
  suffices hs : ∃ (st : Nat → υ) (m : Nat), st 0 = x ∧ (∀ i, i < m → g (st i) = some (.inl (st (i + 1)))) ∧ g (st m) = some (.inr r) by
    obtain ⟨st, m, h0, h1, h2⟩ := hs
    exact loopO_from st m h0 h1 h2
  induction n generalizing x with
  | zero => cases hr
  | succ n ih =>
    cases hf : f x with
    | none => simp only [loopF, hf] at hr; cases hr
    | some a =>
      cases a with
      | inr b =>
        simp only [loopF, hf] at hr; cases hr
        exact ⟨fun _ => x, 0, rfl, fun i hi => absurd hi (by omega), h x _ hf⟩
      | inl y =>
        simp only [loopF, hf] at hr
        obtain ⟨st, m, h0, h1, h2⟩ := ih y hr
        refine ⟨fun i => match i with | 0 => x | i + 1 => st i, m + 1, rfl, ?_, h2⟩
        intro i hi
        cases i with
        | zero => show g x = some (.inl (st 0)); rw [h0]; exact h x _ hf
        | succ i => exact h1 i (by omega)
end Go.Proofs.YtpbanfkjeiihbaaDoor
