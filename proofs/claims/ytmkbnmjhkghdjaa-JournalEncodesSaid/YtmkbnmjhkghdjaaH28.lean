/- The abstract machine: states with objects told under other names. -/
import Derived.Test.YtmkbnmjhkghdjaaH27
set_option linter.unusedVariables false
set_option linter.unusedSimpArgs false
namespace Go.Proofs.Ytmkbnmjhkghdjaa
open Go.RowKit

/-- The old name. -/
def old (tl : List (Nat × Nat)) (r : Nat) : Nat := match look r tl with | some k => k | none => r
def okR (tl : List (Nat × Nat)) (hp2 : List (Nat × AO)) (rs : List Nat) : Bool := rs.all fun r => (look r tl).isSome && (look r hp2).isSome
section
variable {tl : List (Nat × Nat)} {hp1 : Nat → Option AO} {hp2 : List (Nat × AO)}
theorem okR_of {rs : List Nat} (h : okR tl hp2 rs = true) {r : Nat} (hr : r ∈ rs) : look r tl = some (old tl r) ∧ (lookF hp2 r).isSome = true := by
  have := List.all_eq_true.1 h r hr
  rw [Bool.and_eq_true] at this
  refine ⟨?_, this.2⟩
  unfold old
  cases hl : look r tl with
  | none => rw [hl] at this; cases this.1
  | some k => rfl
mutual
theorem wkV_ren : ∀ (v : AV), okR tl hp2 v.refs = true → WkV (fun r => look r tl) hp1 (lookF hp2) v (renV (old tl) v)
  | .d x, _ => by rw [renV, WkV]; exact ⟨x, .inl rfl, .inl rfl⟩
  | .ptr r o, h => by
    have := okR_of h (by rw [AV.refs]; exact List.mem_singleton.2 rfl)
    rw [renV, WkV]
    exact ⟨_, this.1, this.2, rfl⟩
  | .sl r o n c, h => by
    have := okR_of h (by rw [AV.refs]; exact List.mem_singleton.2 rfl)
    rw [renV, WkV]
    exact ⟨this.2, .inl ⟨_, this.1, rfl⟩⟩
  | .dptr cs o, _ => by rw [renV, WkV]
  | .agg cs, h => by rw [renV, WkV]; exact ⟨_, rfl, wkL_ren cs (by rw [AV.refs] at h; exact h)⟩
  | .tup cs, h => by rw [renV, WkV]; exact ⟨_, rfl, wkL_ren cs (by rw [AV.refs] at h; exact h)⟩
  | .clo f cs, h => by rw [renV, WkV]; exact ⟨_, rfl, wkL_ren cs (by rw [AV.refs] at h; exact h)⟩
  | .undef, _ => by rw [renV, WkV]
  | .ab, _ => by rw [renV, WkV]
  | .junk, _ => by rw [renV, WkV]; trivial
theorem wkL_ren : ∀ (vs : List AV), okR tl hp2 (AV.refs.refsL vs) = true → WkL (fun r => look r tl) hp1 (lookF hp2) vs (renL (old tl) vs)
  | [], _ => by rw [renL, WkL]
  | v :: vs, h => by
    rw [AV.refs.refsL] at h
    unfold okR at h
    rw [List.all_append, Bool.and_eq_true] at h
    rw [renL, WkL]
    exact ⟨_, _, rfl, wkV_ren v h.1, wkL_ren vs h.2⟩
end
end
/-- The temporaries told. -/
def TmO (s : SL) (tl : List (Nat × Nat)) (hp2 : List (Nat × AO)) : List (Nat × AV) → Prop
  | [] => True
  | (t, v) :: l => s.get t = renV (old tl) v ∧ okR tl hp2 v.refs = true ∧ TmO s tl hp2 l
/-- The objects told. -/
def ObO (hp1 : List (Nat × AO)) (tl : List (Nat × Nat)) (hp2 : List (Nat × AO)) : List (Nat × AO) → Prop
  | [] => True
  | (r, o) :: l => (match o with | .dead => True | o => (look r tl).isSome = true ∧ look (old tl r) hp1 = some (renO (old tl) o) ∧ okR tl hp2 (oRefs o) = true) ∧ ObO hp1 tl hp2 l
def injB (tl : List (Nat × Nat)) : List (Nat × AO) → Bool
  | [] => true
  | (r, o) :: l => (!o.mutB || l.all fun p => !p.2.mutB || (look r tl != look p.1 tl) || (r == p.1)) && injB tl l
theorem injB_of {tl : List (Nat × Nat)} : ∀ {l : List (Nat × AO)}, injB tl l = true → ∀ r o r' o', (r, o) ∈ l → (r', o') ∈ l → o.mutB = true → o'.mutB = true → look r tl = look r' tl → r = r'
  | [], _, r, o, r', o', h, _, _, _, _ => by cases h
  | (k, x) :: l, hi, r, o, r', o', h, h', hm, hm', he => by
    rw [injB, Bool.and_eq_true] at hi
    have key : ∀ q y, (q, y) ∈ l → x.mutB = true → y.mutB = true → look k tl = look q tl → k = q := fun q y hq hx hy e => by
      have := hi.1
      rw [hx] at this
      simp only [Bool.not_true, Bool.false_or, List.all_eq_true] at this
      have := this (q, y) hq
      simpa [hy, e] using this
    rcases List.mem_cons.1 h with e1 | h
    · cases e1
      rcases List.mem_cons.1 h' with e2 | h'
      · cases e2; rfl
      · exact key r' o' h' hm hm' he
    · rcases List.mem_cons.1 h' with e2 | h'
      · cases e2; exact (key r o h hm' hm he.symm).symm
      · exact injB_of hi.2 r o r' o' h h' hm hm' he
theorem tmO_mem {s : SL} {tl : List (Nat × Nat)} {hp2 : List (Nat × AO)} : ∀ {l : List (Nat × AV)}, TmO s tl hp2 l → ∀ x ∈ l, s.get x.1 = renV (old tl) x.2 ∧ okR tl hp2 x.2.refs = true
  | [], _, x, hx => by cases hx
  | (t, v) :: l, h, x, hx => by
    rcases List.mem_cons.1 hx with rfl | hx
    · exact ⟨h.1, h.2.1⟩
    · exact tmO_mem h.2.2 x hx
theorem obO_mem {hp1 : List (Nat × AO)} {tl : List (Nat × Nat)} {hp2 : List (Nat × AO)} : ∀ {l : List (Nat × AO)}, ObO hp1 tl hp2 l → ∀ r o, (r, o) ∈ l → o ≠ .dead → (look r tl).isSome = true ∧ look (old tl r) hp1 = some (renO (old tl) o) ∧ okR tl hp2 (oRefs o) = true
  | [], _, r, o, hx, _ => by cases hx
  | (t, v) :: l, h, r, o, hx, hd => by
    rcases List.mem_cons.1 hx with e | hx
    · cases e
      have := h.1
      cases v with
      | dead => exact (hd rfl).elim
      | _ => exact this
    · exact obO_mem h.2 r o hx hd
theorem wkH_obj {hp1 hp2 : List (Nat × AO)} {tl : List (Nat × Nat)} (hi : injB tl hp2 = true) (ho : ObO hp1 tl hp2 hp2) : WkH (fun r => look r tl) (lookF hp1) (lookF hp2) := by
  refine ⟨fun r o h => ?_, fun r r' o o' k h h' hm hm' e e' => injB_of hi r o r' o' (look_mem h) (look_mem h') hm hm' (e.trans e'.symm)⟩
  have hk := obO_mem ho r o (look_mem h)
  unfold WkO
  dsimp only
  cases o with
  | dead => cases look r tl <;> trivial
  | data e s cs wr =>
    obtain ⟨k1, k2, k3⟩ := hk (by simp)
    unfold old at k2
    cases hl : look r tl with
    | none => rw [hl] at k1; cases k1
    | some k =>
      rw [hl] at k2
      exact ⟨wr, cs, k2, .inl rfl, id, .inl⟩
  | mix cs =>
    obtain ⟨k1, k2, k3⟩ := hk (by simp)
    have k2' := k2
    unfold old at k2
    cases hl : look r tl with
    | none => rw [hl] at k1; cases k1
    | some k =>
      rw [hl] at k2
      exact ⟨_, k2, wkL_ren cs k3⟩
/-- **A state with objects, told otherwise**: tl gives each new name its old one. -/
theorem tells_obj {GL : Nat → Option (List DV)} {N : Nat} {os : List (Nat × AO)} {s : SL} {n : Nat} {tm : List (Nat × AV)} {hp2 : List (Nat × AO)} (tl : List (Nat × Nat)) (hk : (os.all fun p => look p.1 tl == some p.1 && (look p.1 hp2).isSome) = true) (hi : injB tl hp2 = true) (ho : ObO s.hp tl hp2 hp2) (ht : TmO s tl hp2 tm) : Tells GL N (lookF os) s.S (⟨n, tm, hp2⟩ : SL).S :=
  tells_of (fun r => look r tl) (fun r o h => by
    have := List.all_eq_true.1 hk _ (look_mem h)
    simp only [Bool.and_eq_true, beq_iff_eq] at this
    exact this) (wkH_obj hi ho) (fun x hx => by
    obtain ⟨h1, h2⟩ := tmO_mem ht x hx
    rw [h1]
    exact wkV_ren x.2 h2)
/-- **What is given back, with objects.** -/
theorem back_obj {os hp us : List (Nat × AO)} {v x : AV} (tl : List (Nat × Nat)) (hk : (os.all fun p => look p.1 tl == some p.1 && (look p.1 us).isSome) = true) (hi : injB tl us = true) (ho : ObO hp tl us us) (hv : x = renV (old tl) v) (hr : okR tl us v.refs = true) : Back os hp us v x :=
  ⟨fun r => look r tl, fun r o h => by
    have := List.all_eq_true.1 hk _ (look_mem h)
    simp only [Bool.and_eq_true, beq_iff_eq] at this
    exact this, wkH_obj hi ho, by rw [hv]; exact wkV_ren v hr⟩
end Go.Proofs.Ytmkbnmjhkghdjaa
