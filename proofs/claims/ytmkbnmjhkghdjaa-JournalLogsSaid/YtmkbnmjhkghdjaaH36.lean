/- The abstract machine: more for the driver. -/
import Derived.Test.YtmkbnmjhkghdjaaHB
set_option linter.unusedVariables false
set_option linter.unusedSimpArgs false
namespace Go.Proofs.Ytmkbnmjhkghdjaa
open Go.RowKit
theorem sp_bool (b : Bool) : (b = true ∧ b = true) ∨ (b = false ∧ b = false) := by cases b <;> simp
theorem wk_nil0 {hp1 hp2 : Nat → Option AO} : WkV (fun _ => none) hp1 hp2 (.d (.dl [] 0 (some 0))) (.d (.val (.slice none 0 0))) := by
  rw [WkV]; exact ⟨_, .inr (.inl ⟨rfl, .inr rfl⟩), .inl rfl⟩
theorem wk_row0 {hp1 : Nat → Option AO} {r e sz off : Nat} {cs : List DV} {wr : Bool} (h : hp1 r = some (.data e sz cs wr)) : WkV (fun _ => none) hp1 (lookF []) (.d (.dl [] 0 (some 0))) (.sl r off 0 (some 0)) := by
  rw [WkV]
  refine ⟨_, ?_, .inl rfl⟩
  unfold WkD0
  dsimp only
  rw [h]
  exact ⟨fun r' hr => (by cases hr), some 0, by simp, .inl rfl⟩
theorem wk_i {hp1 hp2 : Nat → Option AO} {k : IntKind} {a b : Int} (h : a = b) : WkV (fun _ => none) hp1 hp2 (.d (.val (.int k a))) (.d (.val (.int k b))) := by subst h; exact wk_same rfl rfl
theorem wk_b {hp1 hp2 : Nat → Option AO} {a b : Bool} (h : a = b) : WkV (fun _ => none) hp1 hp2 (.d (.val (.bool a))) (.d (.val (.bool b))) := by subst h; exact wk_same rfl rfl
theorem wk_dl {hp1 hp2 : Nat → Option AO} {cs cs' : List DV} {n n' : Nat} {c : Option Nat} (h : cs = cs') (hn : n = n') : WkV (fun _ => none) hp1 hp2 (.d (.dl cs n c)) (.d (.dl cs' n' c)) := by subst h hn; exact wk_same rfl rfl
theorem wk_rowE {hp1 : Nat → Option AO} {r e sz n n' : Nat} {c : Option Nat} {cs cells : List DV} {wr : Bool} (h : hp1 r = some (.data e sz cs wr)) (hl : cs.length = n * sz) (hc : cells = cs) (hn : n' = n) : WkV (fun _ => none) hp1 (lookF []) (.d (.dl cells n' none)) (.sl r 0 n c) := by
  subst hc hn
  exact wk_row h (by rw [List.drop_zero, List.take_of_length_le (by omega)])
mutual
theorem renV_none {σ : Nat → Nat} : ∀ (x : AV), x.refs = [] → renV σ x = x
  | .d x, _ => by rw [renV]
  | .ptr r o, h => by rw [AV.refs] at h; cases h
  | .sl r o n c, h => by rw [AV.refs] at h; cases h
  | .dptr cs o, _ => by rw [renV]
  | .agg cs, h => by rw [AV.refs] at h; rw [renV, ren_none h]
  | .tup cs, h => by rw [AV.refs] at h; rw [renV, ren_none h]
  | .clo f cs, h => by rw [AV.refs] at h; rw [renV, ren_none h]
  | .undef, _ => by rw [renV]
  | .ab, _ => by rw [renV]
  | .junk, _ => by rw [renV]
theorem ren_none {σ : Nat → Nat} : ∀ {xs : List AV}, AV.refs.refsL xs = [] → renL σ xs = xs
  | [], _ => by rw [renL]
  | x :: xs, h => by
    rw [AV.refs.refsL, List.append_eq_nil_iff] at h
    rw [renL, renV_none x h.1, ren_none h.2]
end
/-- A contract that makes one row, under a name of the caller's. -/
theorem does_own1 {P : Program} {GL : Nat → Option (List DV)} {f : FuncId} {args : List AV} {n : Nat} {c : Option Nat} {e s : Nat} {cs : List DV} (h : DoesO P GL f args [] (.sl 1 0 n c) [(1, .data e s cs true)]) (hra : AV.refs.refsL args = []) {rd : Nat → Option AO} {r : Nat} (hr : rd r = none) : Does P GL f args [r] (.sl r 0 n c) [(r, .data e s cs true)] rd := by
  have W := does_sw [(1, r)] h
  have s1 : sw [(1, r)] 1 = r := by simp [sw]
  simp only [renV, renH, renO, s1] at W
  rw [ren_none hra] at W
  refine does_of_O W (fun x hx => by cases hx) rfl (by rw [hra]; rfl) (fun x hx => ?_) rfl
  rcases List.mem_singleton.1 hx with rfl
  exact ⟨by simp, .inl hr⟩
/-- A nil slice, given back as a row of the caller's without elements. -/
theorem back_nilrow {hp : List (Nat × AO)} {e s : Nat} : Back [] hp [(1, .data e s [] true)] (.sl 1 0 0 none) (.d (.val (.slice none 0 0))) := by
  refine Back.mk (fun _ => none) (fun r o h => by cases h) ⟨fun r o h => ?_, fun r r' o o' x h1 h2 h3 h4 h5 => by cases h5⟩ ?_
  · unfold lookF look at h
    split at h
    · cases h; unfold WkO; rfl
    · cases h
  · rw [WkV]
    exact ⟨rfl, .inr ⟨rfl, rfl, rfl, rfl, rfl⟩⟩
/-- A name that is free. -/
def freshN (rd : Nat → Option AO) : Nat → Nat → Nat
  | 0, k => k
  | n + 1, k => match rd k with
    | none => k
    | some _ => freshN rd n (k + 1)
/-- A contract that may look at more. -/
theorem does_rds {P : Program} {GL : Nat → Option (List DV)} {f : FuncId} {args : List AV} {rds rds' : List Nat} {v : AV} {us : List (Nat × AO)} {rd : Nat → Option AO} (h : Does P GL f args rds v us rd) (hs : ∀ r ∈ rds, r ∈ rds') : Does P GL f args rds' v us rd :=
  fun E w vs hr hw hS hrel => h E w vs (fun r hm => hr r (hs r hm)) hw hS hrel
/-- Functions without arguments whose results are known. -/
def closedC (l : List (Nat × AV)) : ConK := fun f args rd => match args with
  | [] => match look f l with
    | some v => some (v, [], [])
    | none => none
  | _ => none
def ClosedOk (P : Program) (GL : Nat → Option (List DV)) : List (Nat × AV) → Prop
  | [] => True
  | (f, v) :: l => (fnOk P f = true ∧ DoesO P GL f [] [] v []) ∧ ClosedOk P GL l
theorem closedOk_look {P : Program} {GL : Nat → Option (List DV)} : ∀ {l : List (Nat × AV)} {f : Nat} {v : AV}, ClosedOk P GL l → look f l = some v → fnOk P f = true ∧ DoesO P GL f [] [] v []
  | [], f, v, _, h => by cases h
  | (g, u) :: l, f, v, hl, h => by
    rw [look] at h
    split at h
    · rename_i e; subst e; cases h; exact hl.1
    · exact closedOk_look hl.2 h
theorem closedC_ok {P : Program} {GL : Nat → Option (List DV)} {l : List (Nat × AV)} (hl : ClosedOk P GL l) : ∀ f args rd v us rds, closedC l f args rd = some (v, us, rds) → fnOk P f = true ∧ Does P GL f args rds v us rd := fun f args rd v us rds h => by
  unfold closedC at h
  split at h
  · split at h
    · rename_i v' hv
      cases h
      obtain ⟨h1, h2⟩ := closedOk_look hl hv
      exact ⟨h1, does_data h2 rfl⟩
    · cases h
  · cases h
/-- The one, or else the other. -/
def orC (a b : ConK) : ConK := fun f args rd => match a f args rd with
  | some x => some x
  | none => b f args rd
theorem orC_ok {P : Program} {GL : Nat → Option (List DV)} {a b : ConK} (ha : ∀ f args rd v us rds, a f args rd = some (v, us, rds) → fnOk P f = true ∧ Does P GL f args rds v us rd) (hb : ∀ f args rd v us rds, b f args rd = some (v, us, rds) → fnOk P f = true ∧ Does P GL f args rds v us rd) :
    ∀ f args rd v us rds, orC a b f args rd = some (v, us, rds) → fnOk P f = true ∧ Does P GL f args rds v us rd := fun f args rd v us rds h => by
  unfold orC at h
  split at h
  · rename_i x hx; cases h; exact ha _ _ _ _ _ _ hx
  · exact hb _ _ _ _ _ _ h
end Go.Proofs.Ytmkbnmjhkghdjaa
