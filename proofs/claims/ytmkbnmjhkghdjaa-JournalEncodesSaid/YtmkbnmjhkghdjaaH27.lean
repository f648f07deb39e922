/- The abstract machine: a contract with other names for its objects. -/
import Derived.Test.YtmkbnmjhkghdjaaH26
set_option linter.unusedVariables false
set_option linter.unusedSimpArgs false
namespace Go.Proofs.Ytmkbnmjhkghdjaa
open Go.RowKit

mutual
def renV (σ : Nat → Nat) : AV → AV
  | .d x => .d x
  | .ptr r o => .ptr (σ r) o
  | .sl r o n c => .sl (σ r) o n c
  | .dptr cs o => .dptr cs o
  | .agg cs => .agg (renL σ cs)
  | .tup cs => .tup (renL σ cs)
  | .clo f cs => .clo f (renL σ cs)
  | .undef => .undef
  | .ab => .ab
  | .junk => .junk
def renL (σ : Nat → Nat) : List AV → List AV
  | [] => []
  | x :: xs => renV σ x :: renL σ xs
end
def renO (σ : Nat → Nat) : AO → AO
  | .data e s cs w => .data e s cs w
  | .mix cs => .mix (renL σ cs)
  | .dead => .dead
def renH (σ : Nat → Nat) : List (Nat × AO) → List (Nat × AO)
  | [] => []
  | (r, o) :: l => (σ r, renO σ o) :: renH σ l
theorem renO_mut (σ : Nat → Nat) (o : AO) : (renO σ o).mutB = o.mutB := by cases o <;> rfl
theorem renO_like (σ : Nat → Nat) {a b : AO} (h : a.like b) : (renO σ a).like (renO σ b) := by cases a <;> cases b <;> simp_all [renO, AO.like]
section
variable {σ τ : Nat → Nat} (hi : ∀ r, τ (σ r) = r)
include hi
theorem ren_inj {r r' : Nat} (h : σ r = σ r') : r = r' := by rw [← hi r, ← hi r', h]
theorem look_ren (r : Nat) : ∀ us : List (Nat × AO), look (σ r) (renH σ us) = (look r us).map (renO σ)
  | [] => rfl
  | (k, o) :: l => by
    rw [renH, look, look]
    by_cases h : k = r
    · subst h; rw [if_pos rfl, if_pos rfl]; rfl
    · rw [if_neg h, if_neg (fun e => h (ren_inj hi e)), look_ren r l]
omit hi in
theorem look_ren_inv {k : Nat} {o' : AO} : ∀ {us : List (Nat × AO)}, look k (renH σ us) = some o' → ∃ r, k = σ r
  | [], h => by cases h
  | (r, o) :: l, h => by
    rw [renH, look] at h
    by_cases hk : σ r = k
    · exact ⟨r, hk.symm⟩
    · rw [if_neg hk] at h; exact look_ren_inv h
end
/-- E is E1 under other names. -/
structure RnE (σ : Nat → Nat) (E1 E : En) : Prop where
  h : E.h = E1.h
  x : E.X = E1.X
  hp : ∀ r, E.hp (σ r) = (E1.hp r).map (renO σ)
  m : ∀ r o, E1.hp r = some o → E.m (σ r) = E1.m r
section
variable {σ : Nat → Nat} {E1 E : En}
mutual
theorem rel_ren (R : RnE σ E1 E) : ∀ (x : AV) (u : Value), Rel E (renV σ x) u ↔ Rel E1 x u
  | .d x, u => by rw [renV, Rel, Rel, R.h, R.x]
  | .ptr r o, u => by
    rw [renV, Rel, Rel, R.hp r]
    cases hr : E1.hp r with
    | none => exact Iff.rfl
    | some ob => cases ob <;> simp only [Option.map_some, renO, R.m r _ hr]
  | .sl r o n c, u => by
    rw [renV, Rel, Rel, R.hp r]
    cases hr : E1.hp r with
    | none => exact Iff.rfl
    | some ob => cases ob <;> simp only [Option.map_some, renO, R.m r _ hr]
  | .dptr cs o, u => by rw [renV, Rel, Rel, R.h, R.x]
  | .agg cs, u => by
    rw [renV, Rel, Rel]
    exact ⟨fun ⟨vs, h1, h2⟩ => ⟨vs, h1, (relL_ren R cs _).1 h2⟩, fun ⟨vs, h1, h2⟩ => ⟨vs, h1, (relL_ren R cs _).2 h2⟩⟩
  | .tup cs, u => by
    rw [renV, Rel, Rel]
    exact ⟨fun ⟨vs, h1, h2⟩ => ⟨vs, h1, (relL_ren R cs _).1 h2⟩, fun ⟨vs, h1, h2⟩ => ⟨vs, h1, (relL_ren R cs _).2 h2⟩⟩
  | .clo f cs, u => by
    rw [renV, Rel, Rel]
    exact ⟨fun ⟨vs, h1, h2⟩ => ⟨vs, h1, (relL_ren R cs _).1 h2⟩, fun ⟨vs, h1, h2⟩ => ⟨vs, h1, (relL_ren R cs _).2 h2⟩⟩
  | .undef, u => by rw [renV, Rel, Rel]
  | .ab, u => by rw [renV, Rel, Rel]
  | .junk, u => by rw [renV, Rel, Rel]
theorem relL_ren (R : RnE σ E1 E) : ∀ (xs : List AV) (vs : List Value), RelL E (renL σ xs) vs ↔ RelL E1 xs vs
  | [], vs => by rw [renL, RelL, RelL]
  | x :: xs, vs => by
    rw [renL, RelL, RelL]
    exact ⟨fun ⟨v, vs', h1, h2, h3⟩ => ⟨v, vs', h1, (rel_ren R x v).1 h2, (relL_ren R xs vs').1 h3⟩, fun ⟨v, vs', h1, h2, h3⟩ => ⟨v, vs', h1, (rel_ren R x v).2 h2, (relL_ren R xs vs').2 h3⟩⟩
end
theorem objR_ren (R : RnE σ E1 E) {r : Nat} {o : AO} (ho : E1.hp r = some o) : ObjR E (σ r) (renO σ o) ↔ ObjR E1 r o := by
  have hm := R.m r o ho
  cases o with
  | dead => exact Iff.rfl
  | data e s cs w => simp only [renO, ObjR, hm, R.h, R.x]
  | mix cs => simp only [renO, ObjR, hm, R.h, R.x, relL_ren R]
theorem mut_ren (R : RnE σ E1 E) {k : Nat} (h : MutB E1 k) : MutB E k := by
  obtain ⟨r, o, z, h1, h2, h3⟩ := h
  exact ⟨σ r, renO σ o, z, by rw [R.hp, h1]; rfl, by rw [renO_mut]; exact h2, by rw [R.m r o h1]; exact h3⟩
end
theorem mut_ren' {σ τ : Nat → Nat} (hi : ∀ r, τ (σ r) = r) {E1 E : En} {us : List (Nat × AO)} (R : RnE σ E1 E) (h1 : E1.hp = lookF us) (h2 : E.hp = lookF (renH σ us)) {k : Nat} (h : MutB E k) : MutB E1 k := by
  obtain ⟨r', o', z, k1, k2, k3⟩ := h
  rw [h2] at k1
  obtain ⟨r, rfl⟩ := look_ren_inv k1
  have k1' : look (σ r) (renH σ us) = some o' := k1
  rw [look_ren hi] at k1'
  cases hl : look r us with
  | none => rw [hl] at k1'; cases k1'
  | some o =>
    rw [hl] at k1'
    cases k1'
    have ho : E1.hp r = some o := by rw [h1]; exact hl
    exact ⟨r, o, z, ho, by rw [← renO_mut σ]; exact k2, by rw [← R.m r o ho]; exact k3⟩
/-- **A contract under other names.** -/
theorem does_ren {P : Program} {GL : Nat → Option (List DV)} {f : FuncId} {args : List AV} {os : List (Nat × AO)} {v : AV} {us : List (Nat × AO)} (h : DoesO P GL f args os v us) (σ τ : Nat → Nat) (hi : ∀ r, τ (σ r) = r) : DoesO P GL f (renL σ args) (renH σ os) (renV σ v) (renH σ us) := fun E w vs hE hw hs hrel => by
  let E1 : En := { m := fun r => E.m (σ r), hp := lookF os, X := E.X, h := E.h }
  have R1 : RnE σ E1 E := ⟨rfl, rfl, fun r => by rw [hE]; exact look_ren hi r os, fun r o _ => rfl⟩
  have s1 : SimH GL E1 := by
    refine ⟨fun r o ho => (objR_ren R1 ho).1 (hs.ob (σ r) (renO σ o) (by rw [R1.hp, ho]; rfl)), fun r r' o o' b z z' h1 h2 h3 h4 h5 h6 => ?_, hs.gl⟩
    exact ren_inj hi (hs.inj (σ r) (σ r') (renO σ o) (renO σ o') b z z' (by rw [R1.hp, h1]; rfl) (by rw [R1.hp, h2]; rfl) (by rw [renO_mut]; exact h3) (by rw [renO_mut]; exact h4) h5 h6)
  refine (h E1 w vs rfl hw s1 ((relL_ren R1 args _).1 hrel)).mono ?_
  rintro e w' ⟨u, E2, rfl, g1, g2, g3, g4, g5, g6⟩
  let E' : En := { m := fun k => E2.m (τ k), hp := lookF (renH σ us), X := E2.X, h := E2.h }
  have R2 : RnE σ E2 E' := ⟨rfl, rfl, fun r => by rw [g2]; exact look_ren hi r us, fun r o _ => by show E2.m (τ (σ r)) = _; rw [hi]⟩
  have inv : ∀ k o', E'.hp k = some o' → ∃ r o, k = σ r ∧ E2.hp r = some o ∧ o' = renO σ o := fun k o' hk => by
    obtain ⟨r, rfl⟩ := look_ren_inv hk
    have hk' : look (σ r) (renH σ us) = some o' := hk
    rw [look_ren hi] at hk'
    cases hl : look r us with
    | none => rw [hl] at hk'; cases hk'
    | some o => rw [hl] at hk'; cases hk'; exact ⟨r, o, rfl, by rw [g2]; exact hl, rfl⟩
  refine ⟨u, E', rfl, g1, rfl, ⟨fun k o' ho => ?_, fun k k' o o' b z z' h1 h2 h3 h4 h5 h6 => ?_, g3.gl⟩, ⟨g4.sub, fun k o ho => ?_⟩, ⟨g5.os, g5.tape, g5.output, g5.size, fun k hk hm => g5.blk k hk (fun hm' => hm (mut_ren R1 hm')), fun k hk => ?_, g5.xs, fun k hk hx hm => g5.xk k hk hx (fun hm' => hm (mut_ren R1 hm'))⟩, (rel_ren R2 v u).2 g6⟩
  · obtain ⟨r, ob, rfl, k1, rfl⟩ := inv k o' ho
    exact (objR_ren R2 k1).2 (g3.ob r ob k1)
  · obtain ⟨r, ob, rfl, k1, rfl⟩ := inv k o h1
    obtain ⟨r', ob', rfl, k2, rfl⟩ := inv k' o' h2
    rw [renO_mut] at h3 h4
    have h5' : E2.m r = some (b, z) := by rw [← R2.m r ob k1]; exact h5
    have h6' : E2.m r' = some (b, z') := by rw [← R2.m r' ob' k2]; exact h6
    rw [g3.inj r r' ob ob' b z z' k1 k2 h3 h4 h5' h6']
  · have ho' : lookF (renH σ os) k = some o := by rw [← hE]; exact ho
    obtain ⟨r, rfl⟩ := look_ren_inv ho'
    have k1 := look_ren hi r os
    have ho2 : look (σ r) (renH σ os) = some o := ho'
    rw [k1] at ho2
    cases hl : look r os with
    | none => rw [hl] at ho2; cases ho2
    | some ob =>
      rw [hl] at ho2
      cases ho2
      obtain ⟨o2, p1, p2, p3⟩ := g4.ob r ob hl
      refine ⟨renO σ o2, by rw [R2.hp, p1]; rfl, renO_like σ p2, ?_⟩
      rcases p3 with rfl | p3
      · exact .inl rfl
      · exact .inr ((R2.m r o2 p1).trans p3)
  · exact (g5.mb k (mut_ren' hi R2 g2 rfl hk)).imp (mut_ren R1) id
/-- Names exchanged, one pair after the other. -/
def sw : List (Nat × Nat) → Nat → Nat
  | [], r => r
  | (a, b) :: l, r => sw l (if r = a then b else if r = b then a else r)
def ws : List (Nat × Nat) → Nat → Nat
  | [], r => r
  | (a, b) :: l, r => let k := ws l r; if k = a then b else if k = b then a else k
theorem ws_sw : ∀ (l : List (Nat × Nat)) (r : Nat), ws l (sw l r) = r
  | [], r => rfl
  | (a, b) :: l, r => by
    rw [sw, ws, ws_sw l]
    by_cases h1 : r = a
    · subst h1; simp only [if_true]; by_cases h3 : b = r <;> simp [h3]
    · by_cases h2 : r = b
      · subst h2; simp [h1]
      · simp [h1, h2]
theorem does_sw {P : Program} {GL : Nat → Option (List DV)} {f : FuncId} {args : List AV} {os : List (Nat × AO)} {v : AV} {us : List (Nat × AO)} (l : List (Nat × Nat)) (h : DoesO P GL f args os v us) : DoesO P GL f (renL (sw l) args) (renH (sw l) os) (renV (sw l) v) (renH (sw l) us) := does_ren h (sw l) (ws l) (ws_sw l)
end Go.Proofs.Ytmkbnmjhkghdjaa
