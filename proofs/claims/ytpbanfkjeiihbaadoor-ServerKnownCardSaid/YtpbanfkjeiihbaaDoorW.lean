/- Parts that read only what was there: what they give they give in every later world. -/
import Derived.Test.YtpbanfkjeiihbaaDoorU
import Derived.Below
set_option linter.unusedVariables false
set_option linter.unusedSimpArgs false
namespace Go.Proofs.YtpbanfkjeiihbaaDoor
open Go.RowKit

abbrev Ext (w w' : World) : Prop := Below w.heap.size w w'
theorem Ext.refl (w : World) : Ext w w := Below.refl _ _
theorem Ext.trans {a b c : World} (h : Ext a b) (k : Ext b c) : Ext a c := Below.trans h (k.mono h.size)
structure Sb (P : Program) {α : Type} (e : Sem α) : Prop where
  nw : NW P e
  st : ∀ w v, e.run P w = .ok v w → ∀ w', Ext w w' → e.run P w' = .ok v w'

section
variable {P : Program}
theorem Sb.pure {α : Type} (a : α) : Sb P (Pure.pure a : Sem α) := ⟨trivial, fun w v h w' _ => by
  have h' : Result.ok a w = .ok v w := h
  injection h' with h1 _; subst h1; rfl⟩
theorem Sb.halt {α : Type} (x : Halt) : Sb P (Sem.halt x : Sem α) := ⟨trivial, fun w v h => by
  have h' : Result.halt x w = .ok v w := h
  cases h'⟩
theorem Sb.stuck {α : Type} (s : String) : Sb P (Go.stuck s : Sem α) := Sb.halt _
theorem Sb.unsupported {α : Type} (u : Unsupported) : Sb P (Go.unsupported u : Sem α) := Sb.halt _
theorem Sb.goPanic {α : Type} (u : Value) : Sb P (Go.goPanic u : Sem α) := Sb.halt _
theorem Sb.program : Sb P Go.program := ⟨trivial, fun w v h w' _ => by
  have h' : Result.ok P w = .ok v w := h
  injection h' with h1 _; subst h1; rfl⟩
theorem Sb.bind {α β : Type} (e : Sem α) (f : α → Sem β) (h : Sb P e) (hf : ∀ a, Sb P (f a)) : Sb P (e >>= f) := by
  refine ⟨NW.bind e f h.nw fun a => (hf a).nw, fun w v hr w' he => ?_⟩
  rw [Sem.run_bind] at hr ⊢
  cases hx : e.run P w with
  | halt x w1 => rw [hx] at hr; cases hr
  | ok a w1 =>
    rw [hx] at hr
    simp only [Result.andThen] at hr
    have g1 := NW.run e w w1 a h.nw hx
    have g2 := NW.run (f a) w1 w v (hf a).nw hr
    have : w1 = w := g2.antisymm g1
    subst this
    rw [h.st _ _ hx _ he]
    exact (hf a).st _ _ hr _ he
theorem Sb.map {α β : Type} (f : α → β) (e : Sem α) (h : Sb P e) : Sb P (f <$> e) := Sb.bind e (fun a => Sem.pure (f a)) h fun _ => Sb.pure _
theorem heap_ext {w w' : World} (he : Ext w w') {k : Nat} {o : Obj} (h : w.heap[k]? = some o) : w'.heap[k]? = some o :=
  (he.block k (Array.getElem?_eq_some_iff.1 h).1).trans h
theorem seen_ext {w w' : World} (he : Ext w w') (a : Addr) (u : TypeId) (k : Addr) (at_ : Bool) {r} (h : w.seen P a u k at_ = .ok r) : w'.seen P a u k at_ = .ok r := by
  cases hh : w.heap[a.block]? with
  | some o =>
    have h' := heap_ext he hh
    unfold World.seen at h ⊢
    rw [hh] at h
    rw [h']
    exact h
  | none =>
    exfalso
    unfold World.seen at h
    rw [hh] at h
    revert h
    simp only [bind, Except.bind, throw, throwThe, MonadExceptOf.throw, pure, Except.pure]
    repeat' split
    all_goals (intro h; first | (cases h; done) | (simp_all; done))
theorem viewLoad_ext {w w' : World} (he : Ext w w') (a : Addr) (u : TypeId) (k : Addr) (at_ : Bool) {r} (h : w.viewLoad P a u k at_ = .ok r) : w'.viewLoad P a u k at_ = .ok r := by
  unfold World.viewLoad at h ⊢
  cases hs : w.seen P a u k at_ with
  | error e => rw [hs] at h; cases h
  | ok x => rw [hs] at h; rw [seen_ext he a u k at_ hs]; exact h
theorem farLoad_ext {w w' : World} (he : Ext w w') (a : Addr) (at_ : Bool) {r} (h : w.farLoad P a at_ = .ok r) : w'.farLoad P a at_ = .ok r := by
  unfold World.farLoad at h ⊢
  split at h
  · rename_i b u hh
    rw [heap_ext he hh]
    dsimp only
    cases hv : w.viewLoad P b u a at_ with
    | error e => rw [hv] at h; cases h
    | ok x => rw [hv] at h; rw [viewLoad_ext he b u a at_ hv]; exact h
  · cases h
theorem Sb.load (a : Addr) (m : Mode) : Sb P (Go.load a m) := by
  refine ⟨NW.load a m, fun w v h w' he => ?_⟩
  unfold Go.load at h ⊢
  simp only [Sem.run] at h ⊢
  cases hc : w.cell? a with
  | some u =>
    have hb := World.block_lt_of_cell? w a hc
    rw [hc] at h
    rw [(he.cell hb).trans hc]
    simp only [Result.ok.injEq] at h
    simp [h.1]
  | none =>
    rw [hc] at h
    dsimp only at h
    cases hf : w.farLoad P a (m == .atomic) with
    | error x => rw [hf] at h; cases h
    | ok r =>
      rw [hf] at h
      have hv : ∃ b u, w.heap[a.block]? = some (.view b u) := by
        unfold World.farLoad at hf
        split at hf
        · exact ⟨_, _, by assumption⟩
        · cases hf
      obtain ⟨b, u, hv⟩ := hv
      have hc' : w'.cell? a = none := by unfold World.cell?; rw [heap_ext he hv]
      rw [hc', farLoad_ext he a _ hf]
      obtain ⟨r1, r2⟩ := r
      simp only [Result.ok.injEq] at h
      simp [h.1]
theorem Sb.getObj (r : Nat) : Sb P (Go.getObj r) := by
  refine ⟨NW.getObj r, fun w v h w' he => ?_⟩
  unfold Go.getObj at h ⊢
  simp only [Sem.run] at h ⊢
  cases hh : w.heap[r]? with
  | none => rw [hh] at h; cases h
  | some o =>
    rw [hh] at h
    rw [heap_ext he hh]
    cases o <;> simp_all
theorem Sb.choose (q : Question) : Sb P (Go.choose q) := by
  refine ⟨NW.choose q, fun w v h w' he => ?_⟩
  unfold Go.choose at h ⊢
  simp only [Sem.run] at h ⊢
  split at h
  · rename_i hf
    rw [if_pos hf]
    simp only [Result.ok.injEq] at h
    simp [h.1]
  · simp only [Result.ok.injEq] at h
    have := congrArg World.drawn h.2
    simp at this
theorem Sb.newObj (o : Obj) : Sb P (Go.newObj o) := by
  refine ⟨NW.newObj o, fun w v h w' he => ?_⟩
  unfold Go.newObj at h
  simp only [Sem.run, Result.ok.injEq] at h
  have := congrArg (fun w => w.heap.size) h.2
  simp at this
theorem Sb.shape_bind {α : Type} (r : Nat) (f : Option (TypeId × Nat) → Sem α) (hf : ∀ s, Sb P (f s)) (hn : ∀ w v w1, w.heap.size ≤ r → (f none).run P w ≠ .ok v w1) : Sb P (Go.shape r >>= f) := by
  refine ⟨NW.bind _ _ (NW.shape r) fun s => (hf s).nw, fun w v h w' he => ?_⟩
  have e : ∀ w : World, ((Go.shape r >>= f).run P w) = (f (w.shape? r)).run P w := fun w => rfl
  rw [e] at h ⊢
  rcases Nat.lt_or_ge r w.heap.size with hr | hr
  · have hs : w'.shape? r = w.shape? r := by unfold World.shape?; rw [he.block r hr]
    rw [hs]
    exact (hf _).st _ _ h _ he
  · have hs : w.shape? r = none := by unfold World.shape?; rw [Array.getElem?_eq_none hr]
    rw [hs] at h
    exact absurd h (hn _ _ _ hr)
theorem getObj_none {α : Type} (r : Nat) (f : Obj → Sem α) (w w1 : World) (v : α) (h : w.heap.size ≤ r) : ((Go.getObj r >>= f).run P w) ≠ .ok v w1 := by
  intro hx
  rw [Sem.run_bind] at hx
  have : ∃ x, (Go.getObj r).run P w = .halt x w := by
    unfold Go.getObj; simp only [Sem.run]; rw [Array.getElem?_eq_none h]; exact ⟨_, rfl⟩
  obtain ⟨x, this⟩ := this
  rw [this] at hx
  cases hx
theorem Sb.numberAt (r : Nat) : Sb P (numberAt r) := by
  unfold Go.numberAt
  refine Sb.shape_bind r _ (fun s => ?_) (fun w v w1 h => ?_)
  · cases s with
    | some s => exact Sb.pure _
    | none => exact Sb.bind _ _ (Sb.getObj r) fun o => by split <;> exact Sb.pure _
  · exact getObj_none r _ w w1 v h
theorem Sb.viewAt (r : Nat) : Sb P (viewAt r) := by
  unfold Go.viewAt
  refine Sb.shape_bind r _ (fun s => ?_) (fun w v w1 h => ?_)
  · cases s with
    | some s => exact Sb.pure _
    | none => exact Sb.bind _ _ (Sb.getObj r) fun o => by split <;> exact Sb.pure _
  · exact getObj_none r _ w w1 v h
theorem Sb.noView (a : Addr) : Sb P (noView a) := by
  unfold Go.noView
  refine Sb.bind _ _ (Sb.viewAt _) fun b => ?_
  split
  · exact Sb.unsupported _
  · exact Sb.pure _
theorem Sb.byteOf (a : Addr) : Sb P (byteOf a) := by
  unfold Go.byteOf
  split
  · exact Sb.pure _
  refine Sb.bind _ _ Sb.program fun p => Sb.bind _ _ (Sb.noView a) fun _ => ?_
  refine Sb.shape_bind _ _ (fun s => ?_) (fun w v w1 h hx => by cases hx)
  cases s with
  | none => exact Sb.stuck _
  | some s =>
    dsimp (config := { zeta := true }) only
    split
    · exact Sb.pure _
    · split
      · exact Sb.pure _
      · exact Sb.stuck _
theorem Sb.under_bind (t : TypeId) (d : TypeDesc) (h : P.underlying t = some d) {α : Type} (f : TypeDesc → Sem α) (hf : Sb P (f d)) : Sb P (Go.underlying t >>= f) := by
  refine ⟨NW.under_bind t d h f hf.nw, fun w v hr w' he => ?_⟩
  rw [Sem.run_bind] at hr ⊢
  have e : ∀ w : World, (Go.underlying t).run P w = .ok d w := fun w => by
    obtain ⟨s, hs⟩ := underlying_form t
    rw [hs, Sem.run_bind]
    show ((match P.underlying t with | some d => (Pure.pure d : Sem TypeDesc) | none => Go.stuck s).run P w) = _
    rw [h]; rfl
  rw [e] at hr ⊢
  exact hf.st _ _ hr _ he
theorem Sb.under_bind' (t : TypeId) {α : Type} (f : TypeDesc → Sem α) (hf : ∀ u, P.underlying t = some u → Sb P (f u)) : Sb P (Go.underlying t >>= f) := by
  cases h : P.underlying t with
  | some d => exact Sb.under_bind t d h f (hf d h)
  | none =>
    obtain ⟨s, hs⟩ := underlying_form t
    have e : ∀ w : World, (Go.underlying t >>= f).run P w = .halt (.stuck s) w := fun w => by
      rw [Sem.run_bind, hs, Sem.run_bind]
      show (((match P.underlying t with | some d => (Pure.pure d : Sem TypeDesc) | none => Go.stuck s).run P w)).andThen _ = _
      rw [h]; rfl
    refine ⟨?_, fun w v hr => by rw [e] at hr; cases hr⟩
    rw [hs]
    show NW P ((match P.underlying t with | some d => (Pure.pure d : Sem TypeDesc) | none => Go.stuck s).bind f)
    rw [h]; exact trivial
def eqOk (P : Program) : Nat → TypeId → Bool
  | 0, _ => true
  | d + 1, t =>
    match P.underlying t with
    | some .bool | some (.int _) | some .string | some (.slice _) => true
    | some (.struct fs) => fs.all fun f => eqOk P d f.type
    | some (.array _ e) => eqOk P d e
    | _ => false
theorem Sb.forIn_listM {α β : Type} (l0 : List α) (f : α → β → Sem (ForInStep β)) (hf : ∀ a, a ∈ l0 → ∀ b, Sb P (f a b)) : ∀ (l : List α), (∀ a ∈ l, a ∈ l0) → ∀ (b : β), Sb P (forIn l b f)
  | [], _, b => by rw [List.forIn_nil]; exact Sb.pure _
  | x :: l, hl, b => by
    rw [List.forIn_cons]
    refine Sb.bind _ _ (hf x (hl x (by simp)) b) fun r => ?_
    split
    · exact Sb.pure _
    · exact Sb.forIn_listM l0 f hf l (fun a h => hl a (by simp [h])) _
theorem Sb.forIn_arrayM {α β : Type} (l : Array α) (f : α → β → Sem (ForInStep β)) (hf : ∀ a, a ∈ l → ∀ b, Sb P (f a b)) (b : β) : Sb P (forIn l b f) := by
  rw [← Array.forIn_toList]; exact Sb.forIn_listM l.toList f (fun a h b => hf a (by simpa using h) b) _ (fun _ h => h) _
theorem Sb.typeInfo (t : TypeId) : Sb P (typeInfo t) := by
  unfold Go.typeInfo; refine Sb.bind _ _ Sb.program fun p => ?_; split <;> first | exact Sb.pure _ | exact Sb.stuck _ | exact Sb.unsupported _ | exact Sb.goPanic _
theorem Sb.underlying (t : TypeId) : Sb P (underlying t) := by
  unfold Go.underlying; refine Sb.bind _ _ Sb.program fun p => ?_; split <;> first | exact Sb.pure _ | exact Sb.stuck _ | exact Sb.unsupported _ | exact Sb.goPanic _
theorem Sb.sizeOf (t : TypeId) : Sb P (Go.sizeOf t) := by
  unfold Go.sizeOf; exact Sb.bind _ _ (Sb.typeInfo t) fun _ => Sb.pure _
theorem Sb.isAgg (t : TypeId) : Sb P (isAgg t) := by
  unfold Go.isAgg; refine Sb.bind _ _ (Sb.underlying t) fun p => ?_; split <;> first | exact Sb.pure _ | exact Sb.stuck _ | exact Sb.unsupported _ | exact Sb.goPanic _
theorem Sb.loadCellsFrom (a : Addr) : ∀ (n i : Nat) (acc : Array Value), Sb P (loadCellsFrom a i n acc)
  | 0, _, _ => Sb.pure _
  | n + 1, i, acc => by
    unfold Go.loadCellsFrom
    exact Sb.bind _ _ (Sb.load _ _) fun v => Sb.loadCellsFrom a n (i + 1) _
theorem Sb.loadVar (t : TypeId) (a : Addr) : Sb P (loadVar t a) := by
  unfold Go.loadVar
  refine Sb.bind _ _ (Sb.isAgg t) fun b => ?_
  split
  · exact Sb.bind _ _ (Sb.sizeOf t) fun n => Sb.bind _ _ (Sb.loadCellsFrom _ _ _ _) fun _ => Sb.pure _
  · exact Sb.load _ _
theorem Sb.sureAddr (v : Value) : Sb P (Instr.sureAddr v) := by unfold Instr.sureAddr; split <;> first | exact Sb.pure _ | exact Sb.stuck _ | exact Sb.unsupported _ | exact Sb.goPanic _
theorem Sb.part (t : TypeId) (cs : Array Value) (o : Nat) : Sb P (part t cs o) := by
  unfold Go.part
  refine Sb.bind _ _ (Sb.isAgg t) fun b => ?_
  split
  · exact Sb.bind _ _ (Sb.sizeOf t) fun n => Sb.pure _
  · split <;> first | exact Sb.pure _ | exact Sb.stuck _ | exact Sb.unsupported _ | exact Sb.goPanic _

theorem Sb.runtimePanic {α : Type} (e : RuntimeError) : Sb P (runtimePanic e : Sem α) := by
  unfold Go.runtimePanic
  refine Sb.bind _ _ Sb.program fun p => ?_
  cases e <;> dsimp only <;> repeat (first | with_reducible exact Sb.pure _ | with_reducible exact Sb.stuck _ | with_reducible exact Sb.unsupported _ | with_reducible exact Sb.goPanic _ | exact Sb.underlying _ | exact Sb.newObj _ | (unfold Go.elemOf) | (unfold Go.newVar Go.newRow) | (refine Sb.bind _ _ ?_ fun _ => ?_) | split | (dsimp (config := { zeta := true }) only))
theorem Sb.boundsPanic {α : Type} (k : IntKind) (x y : Int) (c : BoundsCode) : Sb P (boundsPanic k x y c : Sem α) := by
  unfold Go.boundsPanic
  repeat (first | with_reducible exact Sb.pure _ | with_reducible exact Sb.stuck _ | with_reducible exact Sb.unsupported _ | with_reducible exact Sb.goPanic _ | exact Sb.runtimePanic _ | exact Sb.map _ _ (Sb.choose _) | (refine Sb.bind _ _ ?_ fun _ => ?_) | split | (dsimp (config := { zeta := true }) only))
theorem Sb.asIntOf (v : Value) : Sb P (asIntOf v) := by unfold Go.asIntOf; split <;> first | exact Sb.pure _ | exact Sb.stuck _ | exact Sb.unsupported _ | exact Sb.goPanic _
theorem Sb.asInt (v : Value) : Sb P (asInt v) := by unfold Go.asInt; exact Sb.bind _ _ (Sb.asIntOf v) fun _ => Sb.pure _
theorem Sb.shape_bindM {α : Type} (r : Nat) (f : Option (TypeId × Nat) → Sem α) (hs : ∀ s, Sb P (f (some s))) (hn : ∃ u, f none = Go.unsupported u) : Sb P (Go.shape r >>= f) := by
  obtain ⟨u, hu⟩ := hn
  refine Sb.shape_bind r f (fun s => ?_) (fun w v w1 h hx => by rw [hu] at hx; cases hx)
  cases s with
  | none => rw [hu]; exact Sb.unsupported u
  | some s => exact hs s
theorem Sb.addrMod (k : IntKind) (a : Addr) (n : Int) : Sb P (Op.addrMod k a n) := by
  unfold Op.addrMod
  refine Sb.shape_bind _ _ (fun s => ?_) (fun w v w1 h hx => by cases hx)
  cases s with
  | none => exact Sb.unsupported _
  | some s =>
    repeat' (first | with_reducible exact Sb.pure _ | with_reducible exact Sb.unsupported _ | with_reducible exact Sb.typeInfo _ | with_reducible exact Sb.byteOf _ | (with_reducible refine Sb.bind _ _ ?_ fun _ => ?_) | split | (dsimp (config := { zeta := true }) only))
theorem Sb.asBool (v : Value) : Sb P (asBool v) := by unfold Go.asBool; split <;> first | exact Sb.pure _ | exact Sb.stuck _ | exact Sb.unsupported _ | exact Sb.goPanic _
theorem Sb.asAgg (v : Value) : Sb P (asAgg v) := by unfold Go.asAgg; split <;> first | exact Sb.pure _ | exact Sb.stuck _ | exact Sb.unsupported _ | exact Sb.goPanic _
theorem Sb.asAddr (v : Value) : Sb P (asAddr v) := by unfold Go.asAddr; split <;> first | exact Sb.pure _ | exact Sb.stuck _ | exact Sb.unsupported _ | exact Sb.goPanic _ | exact Sb.runtimePanic _
theorem Sb.zeroValue (t : TypeId) : Sb P (zeroValue t) := by
  unfold Go.zeroValue; refine Sb.bind _ _ (Sb.typeInfo t) fun _ => ?_; split <;> first | exact Sb.pure _ | exact Sb.stuck _ | exact Sb.unsupported _ | exact Sb.goPanic _
theorem Sb.fieldPlace (a : Addr) (f : Field) : Sb P (fieldPlace a f) := by
  unfold Go.fieldPlace Go.partAt
  refine Sb.bind _ _ (Sb.sizeOf _) fun _ => ?_
  split
  · exact Sb.bind _ _ (Sb.byteOf _) fun _ => Sb.bind _ _ (Sb.byteOf _) fun _ => Sb.pure _
  · exact Sb.pure _
theorem Sb.fieldAt (s : TypeId) (v : Value) (f : Nat) : Sb P (Instr.fieldAt s v f) := by
  unfold Instr.fieldAt
  repeat (first | with_reducible exact Sb.pure _ | with_reducible exact Sb.stuck _ | with_reducible exact Sb.unsupported _ | with_reducible exact Sb.goPanic _ | exact Sb.underlying _ | exact Sb.sureAddr _ | exact Sb.fieldPlace _ _ | (refine Sb.bind _ _ ?_ fun _ => ?_) | split | (dsimp (config := { zeta := true }) only))
theorem Sb.field (s : TypeId) (v : Value) (f : Nat) : Sb P (Instr.field s v f) := by
  unfold Instr.field
  repeat (first | with_reducible exact Sb.pure _ | with_reducible exact Sb.stuck _ | with_reducible exact Sb.unsupported _ | with_reducible exact Sb.goPanic _ | exact Sb.underlying _ | exact Sb.asAgg _ | exact Sb.part _ _ _ | (refine Sb.bind _ _ ?_ fun _ => ?_) | split | (dsimp (config := { zeta := true }) only))
theorem Sb.indexAt (s : TypeId) (v i : Value) : Sb P (Instr.indexAt s v i) := by
  unfold Instr.indexAt
  repeat (first | with_reducible exact Sb.pure _ | with_reducible exact Sb.stuck _ | with_reducible exact Sb.unsupported _ | with_reducible exact Sb.goPanic _ | exact Sb.underlying _ | exact Sb.asIntOf _ | exact Sb.sureAddr _ | exact Sb.sizeOf _ | exact Sb.boundsPanic _ _ _ _ | (refine Sb.bind _ _ ?_ fun _ => ?_) | split | (dsimp (config := { zeta := true }) only))
theorem Sb.index (s : TypeId) (v i : Value) : Sb P (Instr.index s v i) := by
  unfold Instr.index
  repeat (first | with_reducible exact Sb.pure _ | with_reducible exact Sb.stuck _ | with_reducible exact Sb.unsupported _ | with_reducible exact Sb.goPanic _ | exact Sb.underlying _ | exact Sb.asIntOf _ | exact Sb.part _ _ _ | exact Sb.sizeOf _ | exact Sb.boundsPanic _ _ _ _ | (refine Sb.bind _ _ ?_ fun _ => ?_) | split | (dsimp (config := { zeta := true }) only))
theorem Sb.extract (v : Value) (i : Nat) : Sb P (Instr.extract v i) := by
  unfold Instr.extract; repeat (first | with_reducible exact Sb.pure _ | with_reducible exact Sb.stuck _ | with_reducible exact Sb.unsupported _ | with_reducible exact Sb.goPanic _ | split)
theorem Sb.loadAt (t : TypeId) (v : Value) : Sb P (Instr.loadAt t v) := by
  unfold Instr.loadAt; exact Sb.bind _ _ (Sb.sureAddr v) fun _ => Sb.loadVar _ _
theorem Sb.sliceBound (x : Value) (y : Nat) (c : BoundsCode) : Sb P (Instr.sliceBound x y c) := by
  unfold Instr.sliceBound
  refine Sb.bind _ _ (Sb.asIntOf _) fun _ => ?_
  split
  split <;> first | exact Sb.pure _ | exact Sb.stuck _ | exact Sb.unsupported _ | exact Sb.goPanic _ | exact Sb.boundsPanic _ _ _ _
theorem Sb.sliceBounds (b : Bool) (l c : Nat) (lo hi mx : Option Value) : Sb P (Instr.sliceBounds b l c lo hi mx) := by
  unfold Instr.sliceBounds
  repeat (first | with_reducible exact Sb.pure _ | with_reducible exact Sb.stuck _ | with_reducible exact Sb.unsupported _ | with_reducible exact Sb.goPanic _ | exact Sb.sliceBound _ _ _ | (refine Sb.bind _ _ ?_ fun _ => ?_) | split | (dsimp (config := { zeta := true }) only))
theorem Sb.slice (t : TypeId) (x : Value) (lo hi mx : Option Value) : Sb P (Instr.slice t x lo hi mx) := by
  unfold Instr.slice
  repeat (first | with_reducible exact Sb.pure _ | with_reducible exact Sb.stuck _ | with_reducible exact Sb.unsupported _ | with_reducible exact Sb.goPanic _ | exact Sb.underlying _ | exact Sb.sliceBounds _ _ _ _ _ _ | exact Sb.sizeOf _ | exact Sb.asAddr _ | (refine Sb.bind _ _ ?_ fun _ => ?_) | split | (dsimp (config := { zeta := true }) only))
theorem Sb.sliceAt (t : TypeId) (x : Value) (lo hi mx : Option Value) : Sb P (Instr.sliceAt t x lo hi mx) := by
  unfold Instr.sliceAt
  repeat (first | with_reducible exact Sb.pure _ | with_reducible exact Sb.stuck _ | with_reducible exact Sb.unsupported _ | with_reducible exact Sb.goPanic _ | exact Sb.underlying _ | exact Sb.sliceBounds _ _ _ _ _ _ | exact Sb.sizeOf _ | exact Sb.sureAddr _ | exact Sb.slice _ _ _ _ _ | (refine Sb.bind _ _ ?_ fun _ => ?_) | split | (dsimp (config := { zeta := true }) only))
theorem Sb.behindNumber (a : Addr) : Sb P (behindNumber a) := by
  unfold Go.behindNumber; exact Sb.bind _ _ (Sb.numberAt _) fun _ => Sb.pure _
theorem Sb.movedPointer (t : TypeId) (x y : Value) : Sb P (movedPointer t x y) := by
  unfold Go.movedPointer
  cases x with
  | pointer ptr =>
    cases ptr with
    | none =>
      refine Sb.bind (Go.asInt y) _ (Sb.asInt y) fun n => ?_
      dsimp (config := { zeta := true }) only
      repeat' (first | with_reducible exact Sb.pure _ | with_reducible exact Sb.stuck _ | with_reducible exact Sb.unsupported _ | (with_reducible refine Sb.shape_bindM _ _ (fun _ => ?_) ⟨_, rfl⟩) | with_reducible exact Sb.viewAt _ | with_reducible exact Sb.program | (with_reducible refine Sb.bind _ _ ?_ fun _ => ?_) | split | (dsimp (config := { zeta := true }) only))
    | some a =>
      refine Sb.bind (Go.numberAt a.block) _ (Sb.numberAt _) fun b => ?_
      dsimp only
      split
      ·
        refine Sb.bind _ _ (Sb.unsupported _) fun _ => ?_
        refine Sb.bind (Go.asInt y) _ (Sb.asInt y) fun n => ?_
        dsimp (config := { zeta := true }) only
        repeat' (first | with_reducible exact Sb.pure _ | with_reducible exact Sb.stuck _ | with_reducible exact Sb.unsupported _ | (with_reducible refine Sb.shape_bindM _ _ (fun _ => ?_) ⟨_, rfl⟩) | with_reducible exact Sb.viewAt _ | with_reducible exact Sb.program | (with_reducible refine Sb.bind _ _ ?_ fun _ => ?_) | split | (dsimp (config := { zeta := true }) only))
      ·
        refine Sb.bind (Go.asInt y) _ (Sb.asInt y) fun n => ?_
        dsimp (config := { zeta := true }) only
        repeat' (first | with_reducible exact Sb.pure _ | with_reducible exact Sb.stuck _ | with_reducible exact Sb.unsupported _ | (with_reducible refine Sb.shape_bindM _ _ (fun _ => ?_) ⟨_, rfl⟩) | with_reducible exact Sb.viewAt _ | with_reducible exact Sb.program | (with_reducible refine Sb.bind _ _ ?_ fun _ => ?_) | split | (dsimp (config := { zeta := true }) only))
  | _ => exact Sb.stuck _
theorem Sb.movedNumber (t : TypeId) (x y : Value) : Sb P (movedNumber t x y) := by
  unfold Go.movedNumber Go.asNumber
  refine Sb.bind _ _ (Sb.underlying t) fun u => ?_
  dsimp (config := { zeta := true }) only
  split
  ·
    refine Sb.bind _ _ (Sb.unsupported _) fun _ => ?_
    cases x with
    | pointer ptr =>
      cases ptr with
      | none =>
        refine Sb.bind (Go.asInt y) _ (Sb.asInt y) fun n => ?_
        dsimp (config := { zeta := true }) only
        repeat' (first | with_reducible exact Sb.pure _ | with_reducible exact Sb.stuck _ | with_reducible exact Sb.unsupported _ | (with_reducible refine Sb.shape_bindM _ _ (fun _ => ?_) ⟨_, rfl⟩) | with_reducible exact Sb.viewAt _ | with_reducible exact Sb.program | (with_reducible refine Sb.bind _ _ ?_ fun _ => ?_) | split | (dsimp (config := { zeta := true }) only))
      | some n =>
        refine Sb.bind (Go.behindNumber n) _ (Sb.behindNumber n) fun ab => ?_
        refine Sb.bind _ _ ?_ fun v => ?_
        ·
          refine Sb.bind (Go.asInt y) _ (Sb.asInt y) fun n => ?_
          dsimp (config := { zeta := true }) only
          repeat' (first | with_reducible exact Sb.pure _ | with_reducible exact Sb.stuck _ | with_reducible exact Sb.unsupported _ | (with_reducible refine Sb.shape_bindM _ _ (fun _ => ?_) ⟨_, rfl⟩) | with_reducible exact Sb.viewAt _ | with_reducible exact Sb.program | (with_reducible refine Sb.bind _ _ ?_ fun _ => ?_) | split | (dsimp (config := { zeta := true }) only))
        ·
          split
          · exact Sb.bind _ _ (Sb.newObj _) fun _ => Sb.pure _
          · exact Sb.pure _
    | _ => exact Sb.stuck _
  ·
    cases x with
    | pointer ptr =>
      cases ptr with
      | none =>
        refine Sb.bind (Go.asInt y) _ (Sb.asInt y) fun n => ?_
        dsimp (config := { zeta := true }) only
        repeat' (first | with_reducible exact Sb.pure _ | with_reducible exact Sb.stuck _ | with_reducible exact Sb.unsupported _ | (with_reducible refine Sb.shape_bindM _ _ (fun _ => ?_) ⟨_, rfl⟩) | with_reducible exact Sb.viewAt _ | with_reducible exact Sb.program | (with_reducible refine Sb.bind _ _ ?_ fun _ => ?_) | split | (dsimp (config := { zeta := true }) only))
      | some n =>
        refine Sb.bind (Go.behindNumber n) _ (Sb.behindNumber n) fun ab => ?_
        refine Sb.bind _ _ ?_ fun v => ?_
        ·
          refine Sb.bind (Go.asInt y) _ (Sb.asInt y) fun n => ?_
          dsimp (config := { zeta := true }) only
          repeat' (first | with_reducible exact Sb.pure _ | with_reducible exact Sb.stuck _ | with_reducible exact Sb.unsupported _ | (with_reducible refine Sb.shape_bindM _ _ (fun _ => ?_) ⟨_, rfl⟩) | with_reducible exact Sb.viewAt _ | with_reducible exact Sb.program | (with_reducible refine Sb.bind _ _ ?_ fun _ => ?_) | split | (dsimp (config := { zeta := true }) only))
        ·
          split
          · exact Sb.bind _ _ (Sb.newObj _) fun _ => Sb.pure _
          · exact Sb.pure _
    | _ => exact Sb.stuck _
theorem Sb.forIn_list {α β : Type} (f : α → β → Sem (ForInStep β)) (hf : ∀ a b, Sb P (f a b)) : ∀ (l : List α) (b : β), Sb P (forIn l b f)
  | [], b => by rw [List.forIn_nil]; exact Sb.pure _
  | x :: l, b => by
    rw [List.forIn_cons]
    refine Sb.bind _ _ (hf x b) fun r => ?_
    split
    · exact Sb.pure _
    · exact Sb.forIn_list f hf l _
theorem Sb.forIn_array {α β : Type} (f : α → β → Sem (ForInStep β)) (hf : ∀ a b, Sb P (f a b)) (l : Array α) (b : β) : Sb P (forIn l b f) := by
  rw [← Array.forIn_toList]; exact Sb.forIn_list f hf _ _
theorem Sb.forIn_range {β : Type} (f : Nat → β → Sem (ForInStep β)) (hf : ∀ a b, Sb P (f a b)) (r : Std.Legacy.Range) (b : β) : Sb P (forIn r b f) := by
  rw [Std.Legacy.Range.forIn_eq_forIn_range']; exact Sb.forIn_list f hf _ _

theorem Sb.typeStr (t : TypeId) : Sb P (typeStr t) := by
  unfold Go.typeStr
  repeat' (first | with_reducible exact Sb.pure _ | with_reducible exact Sb.stuck _ | with_reducible exact Sb.unsupported _ | with_reducible exact Sb.typeInfo _ | (with_reducible refine Sb.bind _ _ ?_ fun _ => ?_) | split | (dsimp (config := { zeta := true }) only))
theorem Sb.equalIn : ∀ (d : Nat) (t : TypeId) (x y : Value), eqOk P d t = true → Sb P (Op.equalIn d t x y)
  | 0, _, _, _, _ => Sb.unsupported _
  | d + 1, t, x, y, hk => by
    unfold Op.equalIn
    refine Sb.under_bind' _ _ fun u hu => ?_
    unfold eqOk at hk
    rw [hu] at hk
    split
    all_goals first | (exfalso; simp at hk; done) | skip
    all_goals try dsimp only at hk
    all_goals repeat' (first | with_reducible exact Sb.pure _ | with_reducible exact Sb.stuck _ | with_reducible exact Sb.unsupported _ | with_reducible exact Sb.behindNumber _ | with_reducible exact Sb.program | with_reducible exact Sb.byteOf _ | with_reducible exact Sb.typeInfo _ | with_reducible exact Sb.sizeOf _ | with_reducible exact Sb.choose _ | with_reducible exact Sb.typeStr _ | with_reducible exact Sb.runtimePanic _ | with_reducible exact Sb.part _ _ _ | (with_reducible refine Sb.forIn_arrayM _ _ (fun f hf _ => ?_) _) | (with_reducible refine Sb.forIn_range _ (fun _ _ => ?_) _ _) | exact Sb.equalIn d _ _ _ hk | (exact Sb.equalIn d _ _ _ (Array.all_eq_true'.1 hk _ ‹_›)) | (with_reducible refine Sb.bind _ _ ?_ fun _ => ?_) | split | (dsimp (config := { zeta := true }) only))
theorem Sb.eqGuardIn : ∀ (d : Nat) (t : TypeId) (x y : Value), Sb P (Op.eqGuardIn d t x y)
  | 0, _, _, _ => by first | exact Sb.pure _ | exact Sb.unsupported _
  | d + 1, t, x, y => by
    unfold Op.eqGuardIn
    refine Sb.bind _ _ (Sb.underlying t) fun u => ?_
    split
    all_goals repeat' (first | with_reducible exact Sb.pure _ | with_reducible exact Sb.stuck _ | with_reducible exact Sb.unsupported _ | with_reducible exact Sb.eqGuardIn d _ _ _ | with_reducible exact Sb.sizeOf _ | with_reducible exact Sb.part _ _ _ | (with_reducible refine Sb.forIn_array _ (fun _ _ => ?_) _ _) | (with_reducible refine Sb.forIn_range _ (fun _ _ => ?_) _ _) | (with_reducible refine Sb.bind _ _ ?_ fun _ => ?_) | split | (dsimp (config := { zeta := true }) only))
theorem Sb.eqGuard (op : BinOp) (t : TypeId) (x y : Operand) (a b : Value) : Sb P (eqGuard op t x y a b) := by
  unfold Go.eqGuard
  repeat' (first | with_reducible exact Sb.pure _ | with_reducible exact Sb.stuck _ | with_reducible exact Sb.unsupported _ | with_reducible exact Sb.eqGuardIn _ _ _ _ | with_reducible exact Sb.program | (with_reducible refine Sb.bind _ _ ?_ fun _ => ?_) | split | (dsimp (config := { zeta := true }) only))
theorem Sb.addrSub (k : IntKind) (a b : Addr) : Sb P (Op.addrSub k a b) := by
  unfold Op.addrSub Op.twoPlaces
  repeat' (first | with_reducible exact Sb.pure _ | with_reducible exact Sb.stuck _ | with_reducible exact Sb.unsupported _ | with_reducible exact Sb.byteOf _ | with_reducible exact Sb.program | (with_reducible refine Sb.bind _ _ ?_ fun _ => ?_) | split | (dsimp (config := { zeta := true }) only))
theorem Sb.addrCmp (k : BinOp) (a b : Addr) : Sb P (Op.addrCmp k a b) := by
  unfold Op.addrCmp Op.twoPlaces
  repeat' (first | with_reducible exact Sb.pure _ | with_reducible exact Sb.stuck _ | with_reducible exact Sb.unsupported _ | with_reducible exact Sb.byteOf _ | with_reducible exact Sb.program | (with_reducible refine Sb.bind _ _ ?_ fun _ => ?_) | split | (dsimp (config := { zeta := true }) only))
theorem Sb.floatArith (op : BinOp) (k : FloatKind) (x y : Nat) : Sb P (Op.floatArith op k x y) := by
  unfold Op.floatArith
  repeat' (first | with_reducible exact Sb.pure _ | with_reducible exact Sb.stuck _ | with_reducible exact Sb.choose _ | (with_reducible refine Sb.bind _ _ ?_ fun _ => ?_) | split | (dsimp (config := { zeta := true }) only))
theorem Sb.floatCmp (op : BinOp) (k : FloatKind) (x y : Nat) : Sb P (Op.floatCmp op k x y) := by
  unfold Op.floatCmp; dsimp (config := { zeta := true }) only; split <;> first | exact Sb.pure _ | exact Sb.stuck _ | exact Sb.unsupported _ | exact Sb.goPanic _
theorem Sb.carith (op : BinOp) (k : FloatKind) (x y : Nat) : Sb P (Op.Complex.arith op k x y) := by
  unfold Op.Complex.arith
  refine Sb.bind _ _ (Sb.floatArith _ _ _ _) fun _ => ?_
  split <;> first | exact Sb.pure _ | exact Sb.stuck _ | exact Sb.unsupported _ | exact Sb.goPanic _
theorem Sb.ccmp (op : BinOp) (k : FloatKind) (x y : Nat) : Sb P (Op.Complex.cmp op k x y) := by
  unfold Op.Complex.cmp
  exact Sb.bind _ _ (Sb.floatCmp _ _ _ _) fun _ => Sb.asBool _
theorem Sb.cconv (k : FloatKind) (x : Nat) (k' : FloatKind) : Sb P (Op.Complex.conv k x k') := by
  unfold Op.Complex.conv
  split
  · exact Sb.pure _
  · refine Sb.bind _ _ ?_ fun _ => ?_
    · unfold Conv.floatToFloat
      repeat' (first | with_reducible exact Sb.pure _ | with_reducible exact Sb.stuck _ | with_reducible exact Sb.choose _ | (with_reducible refine Sb.bind _ _ ?_ fun _ => ?_) | split | (dsimp (config := { zeta := true }) only))
    · split <;> first | exact Sb.pure _ | exact Sb.stuck _ | exact Sb.unsupported _ | exact Sb.goPanic _
theorem Sb.cadd (x y : Nat) : Sb P (Op.Complex.add x y) := Sb.carith _ _ _ _
theorem Sb.csub (x y : Nat) : Sb P (Op.Complex.sub x y) := Sb.carith _ _ _ _
theorem Sb.cmul (x y : Nat) : Sb P (Op.Complex.mul x y) := Sb.carith _ _ _ _
theorem Sb.cquo (x y : Nat) : Sb P (Op.Complex.quo x y) := Sb.carith _ _ _ _
theorem Sb.cproduct (a b c d : Nat) : Sb P (Op.Complex.product a b c d) := by
  unfold Op.Complex.product
  repeat' (first | with_reducible exact Sb.pure _ | exact Sb.carith _ _ _ _ | (refine Sb.bind _ _ ?_ fun _ => ?_))
theorem Sb.ccorrected (s a b c d : Nat) : Sb P (Op.Complex.corrected s a b c d) := by
  unfold Op.Complex.corrected
  repeat' (first | with_reducible exact Sb.pure _ | exact Sb.carith _ _ _ _ | (refine Sb.bind _ _ ?_ fun _ => ?_))
set_option maxHeartbeats 2000000 in
theorem Sb.cquotient (a b c d : Nat) : Sb P (Op.Complex.quotient a b c d) := by
  unfold Op.Complex.quotient
  repeat' (first | with_reducible exact Sb.pure _ | with_reducible exact Sb.ccmp _ _ _ _ | with_reducible exact Sb.ccorrected _ _ _ _ _ | with_reducible exact Sb.cadd _ _ | with_reducible exact Sb.csub _ _ | with_reducible exact Sb.cmul _ _ | with_reducible exact Sb.cquo _ _ | (with_reducible refine Sb.bind _ _ ?_ fun _ => ?_) | split | (dsimp (config := { zeta := true }) only))
theorem Sb.complexOp (op : BinOp) (k : FloatKind) (a b c d : Nat) : Sb P (Op.complexOp op k a b c d) := by
  unfold Op.complexOp
  repeat' (first | with_reducible exact Sb.pure _ | with_reducible exact Sb.stuck _ | with_reducible exact Sb.ccmp _ _ _ _ | with_reducible exact Sb.carith _ _ _ _ | with_reducible exact Sb.cconv _ _ _ | with_reducible exact Sb.cproduct _ _ _ _ | with_reducible exact Sb.cquotient _ _ _ _ | (with_reducible refine Sb.bind _ _ ?_ fun _ => ?_) | split | (dsimp (config := { zeta := true }) only))
theorem Sb.binOp (op : BinOp) (t : TypeId) (x y : Value) (hk : eqOk P Op.maxDepth t = true) : Sb P (binOp op t x y) := by
  unfold Go.binOp
  split
  all_goals repeat' (first | with_reducible exact Sb.pure _ | with_reducible exact Sb.stuck _ | with_reducible exact Sb.unsupported _ | exact Sb.equalIn _ _ _ _ (by assumption) | with_reducible exact Sb.movedNumber _ _ _ | with_reducible exact Sb.movedPointer _ _ _ | with_reducible exact Sb.behindNumber _ | with_reducible exact Sb.addrSub _ _ _ | with_reducible exact Sb.addrCmp _ _ _ | with_reducible exact Sb.addrMod _ _ _ | with_reducible exact Sb.underlying _ | with_reducible exact Sb.choose _ | with_reducible exact Sb.runtimePanic _ | (unfold Op.shift) | (unfold Op.intArith) | (unfold Op.intDiv) | (unfold Op.intBits) | (unfold Op.intCmp) | with_reducible exact Sb.floatArith _ _ _ _ | with_reducible exact Sb.floatCmp _ _ _ _ | with_reducible exact Sb.complexOp _ _ _ _ _ _ | (unfold Op.stringOp) | (unfold Op.equal) | (with_reducible refine Sb.bind _ _ ?_ fun _ => ?_) | split | (dsimp (config := { zeta := true }) only))
theorem Sb.intToInt (k : IntKind) (n : Int) : Sb P (Conv.intToInt k n) := Sb.pure _
theorem Sb.convertInt (src dst : TypeId) (k k' : IntKind) (x : Value) (hs : P.underlying src = some (.int k')) (h : P.underlying dst = some (.int k)) : Sb P (convert src dst x) := by
  unfold Go.convert
  refine Sb.under_bind _ _ hs _ (Sb.under_bind _ _ h _ ?_)
  cases x <;> first | exact Sb.intToInt _ _ | (dsimp only; unfold Conv.floatToInt; repeat' (first | with_reducible exact Sb.pure _ | with_reducible exact Sb.choose _ | (with_reducible refine Sb.bind _ _ ?_ fun _ => ?_) | split | (dsimp (config := { zeta := true }) only))) | (rename_i a; cases a <;> exact Sb.unsupported _) | exact Sb.unsupported _
theorem Sb.unary (op : UnOp) (x : Value) : Sb P (Op.unary op x) := by
  unfold Op.unary
  split
  all_goals repeat' (first | with_reducible exact Sb.pure _ | with_reducible exact Sb.stuck _ | with_reducible exact Sb.unsupported _ | (unfold Op.intArith) | (unfold Op.intBits) | split | (dsimp (config := { zeta := true }) only))
theorem Sb.len (a : Array TypeId) (t : TypeId) (v : Array Value) : Sb P (Builtin.len_ a t v) := by
  unfold Builtin.len_
  repeat' (first | with_reducible exact Sb.pure _ | with_reducible exact Sb.stuck _ | with_reducible exact Sb.underlying _ | with_reducible exact Sb.getObj _ | (with_reducible refine Sb.bind _ _ ?_ fun _ => ?_) | split | (dsimp (config := { zeta := true }) only))
theorem Sb.cap (a : Array TypeId) (t : TypeId) (v : Array Value) : Sb P (Builtin.cap_ a t v) := by
  unfold Builtin.cap_
  repeat' (first | with_reducible exact Sb.pure _ | with_reducible exact Sb.stuck _ | with_reducible exact Sb.underlying _ | with_reducible exact Sb.getObj _ | (with_reducible refine Sb.bind _ _ ?_ fun _ => ?_) | split | (dsimp (config := { zeta := true }) only))
theorem Sb.stringOp (op : BinOp) (x y : ByteArray) : Sb P (Op.stringOp op x y) := by
  unfold Op.stringOp
  repeat' (first | with_reducible exact Sb.pure _ | with_reducible exact Sb.stuck _ | with_reducible exact Sb.unsupported _ | split | (dsimp (config := { zeta := true }) only))
theorem Sb.foldlM {α β : Type} (f : β → α → Sem β) (hf : ∀ a b, Sb P (f a b)) : ∀ (l : List α) (b : β), Sb P (l.foldlM f b)
  | [], b => by rw [List.foldlM_nil]; exact Sb.pure _
  | x :: l, b => by rw [List.foldlM_cons]; exact Sb.bind _ _ (hf b x) fun r => Sb.foldlM f hf l r
theorem Sb.min2 (x y : Value) : Sb P (Builtin.min2 x y) := by
  unfold Builtin.min2
  repeat' (first | with_reducible exact Sb.pure _ | with_reducible exact Sb.stuck _ | with_reducible exact Sb.unsupported _ | with_reducible exact Sb.choose _ | with_reducible exact Sb.stringOp _ _ _ | with_reducible exact Sb.asBool _ | (with_reducible refine Sb.bind _ _ ?_ fun _ => ?_) | split | (dsimp (config := { zeta := true }) only))
theorem Sb.max2 (x y : Value) : Sb P (Builtin.max2 x y) := by
  unfold Builtin.max2
  repeat' (first | with_reducible exact Sb.pure _ | with_reducible exact Sb.stuck _ | with_reducible exact Sb.unsupported _ | with_reducible exact Sb.choose _ | with_reducible exact Sb.stringOp _ _ _ | with_reducible exact Sb.asBool _ | (with_reducible refine Sb.bind _ _ ?_ fun _ => ?_) | split | (dsimp (config := { zeta := true }) only))
theorem Sb.min (a : Array TypeId) (t : TypeId) (v : Array Value) : Sb P (Builtin.min_ a t v) := by
  unfold Builtin.min_; split
  · exact Sb.stuck _
  · exact Sb.foldlM _ (fun _ _ => Sb.min2 _ _) _ _
theorem Sb.max (a : Array TypeId) (t : TypeId) (v : Array Value) : Sb P (Builtin.max_ a t v) := by
  unfold Builtin.max_; split
  · exact Sb.stuck _
  · exact Sb.foldlM _ (fun _ _ => Sb.max2 _ _) _ _
theorem Sb.mapM_list {α β : Type} (f : α → Sem β) (hf : ∀ a, Sb P (f a)) : ∀ (l : List α), Sb P (l.mapM f)
  | [] => by rw [List.mapM_nil]; exact Sb.pure _
  | x :: l => by rw [List.mapM_cons]; exact Sb.bind _ _ (hf x) fun r => Sb.bind _ _ (Sb.mapM_list f hf l) fun _ => Sb.pure _
theorem Sb.followBlind : ∀ (l : List FieldStep) (t : TypeId) (x : Option Value), Sb P (followBlind l t x)
  | [], _, _ => Sb.pure _
  | s :: rest, t, x => by
    unfold Go.followBlind
    repeat' (first | with_reducible exact Sb.pure _ | with_reducible exact Sb.stuck _ | with_reducible exact Sb.followBlind _ _ _ | with_reducible exact Sb.underlying _ | with_reducible exact Sb.part _ _ _ | (with_reducible refine Sb.bind _ _ ?_ fun _ => ?_) | split | (dsimp (config := { zeta := true }) only))
theorem Sb.nilAhead : ∀ (n : Nat) (t : TypeId) (v : Value) (s : String), Sb P (nilAhead n t v s)
  | 0, _, _, _ => by first | exact Sb.pure _ | exact Sb.unsupported _
  | n + 1, t, v, s => by
    unfold Go.nilAhead
    repeat' (first | with_reducible exact Sb.pure _ | with_reducible exact Sb.stuck _ | with_reducible exact Sb.nilAhead _ _ _ _ | with_reducible exact Sb.followBlind _ _ _ | with_reducible exact Sb.underlying _ | with_reducible exact Sb.typeInfo _ | (with_reducible refine Sb.bind _ _ ?_ fun _ => ?_) | split | (dsimp (config := { zeta := true }) only))
end


/-- An operation that neither writes nor calls, and that gives in each later world what it gives now. -/
def stabB (P : Program) (o : Oper) : Bool :=
  match o.op with
  | .move _ | .assign _ | .pick .. | .load .. | .unOp .. | .fieldAddr .. | .field .. | .indexAddr .. | .index .. | .extract .. | .slice .. | .makeFunc .. | .nilCheck _ => true
  | .binOp _ t _ _ _ => eqOk P 10000 t
  | .convert s d _ => match P.underlying s, P.underlying d with | some (.int _), some (.int _) => true | _, _ => false
  | .call c => match c.callee with | .builtin .len | .builtin .cap | .builtin .min | .builtin .max => true | _ => false
  | .build .. => true
  | _ => false
def GivesStable (P : Program) (e : Sem Next) : Prop := ∃ s : Sem Value, Sb P s ∧ ∀ w, e.run P w = (s.run P w).andThen fun v w => .ok (.value v) w
theorem GivesStable.mk_ {P : Program} (s : Sem Value) (h : Sb P s) : GivesStable P (do pure (.value (← s))) :=
  ⟨s, h, fun w => by rw [Sem.run_bind]; rfl⟩
theorem GivesStable.pure_ {P : Program} (v : Value) : GivesStable P (Pure.pure (.value v)) := ⟨Pure.pure v, Sb.pure _, fun w => rfl⟩
theorem Sb.mapM_array {P : Program} {α β : Type} (f : α → Sem β) (hf : ∀ a, Sb P (f a)) (l : Array α) : Sb P (l.mapM f) := by
  have h : ∀ (l : List α), Sb P (l.mapM f) := Sb.mapM_list f hf
  rw [Array.mapM_eq_mapM_toList]
  exact Sb.map _ _ (h _)
theorem Sb.build {P : Program} (t : TypeId) (ps : Array (Nat × Value)) : Sb P (Instr.build t ps) := by
  unfold Instr.build
  refine Sb.bind _ _ (Sb.zeroValue t) fun z => ?_
  dsimp (config := { zeta := true }) only
  refine Sb.bind _ _ (Sb.underlying t) fun u => ?_
  split
  · refine Sb.bind _ _ (Sb.mapM_array _ (fun f => Sb.bind _ _ (Sb.sizeOf _) fun _ => Sb.pure _) _) fun pl => ?_
    split
    · exact Sb.pure _
    · exact Sb.stuck _
  · refine Sb.bind _ _ (Sb.sizeOf _) fun n => ?_
    split
    · exact Sb.pure _
    · exact Sb.stuck _
  · exact Sb.stuck _
theorem stab_nilAhead {P : Program} (t : TypeId) (u : Value) (name : String) (why : Unsupported) (v : Value) : GivesStable P (do
    if (← nilAhead ((← Go.program).types.size + Made.depth) t u name) != some false then Go.unsupported why
    Pure.pure (.value v)) := by
  refine ⟨(do
    if (← nilAhead ((← Go.program).types.size + Made.depth) t u name) != some false then Go.unsupported why
    Pure.pure v), ?_, fun w => ?_⟩
  · refine Sb.bind _ _ Sb.program fun p => Sb.bind _ _ (Sb.nilAhead _ _ _ _) fun b => ?_
    split
    · exact Sb.bind _ _ (Sb.unsupported _) fun _ => Sb.pure _
    · exact Sb.pure _
  · simp only [Sem.run_bind]
    cases hp : (Go.program).run P w with
    | halt x w1 => rfl
    | ok p w1 =>
      simp only [Result.andThen]
      cases hn : (nilAhead (p.types.size + Made.depth) t u name).run P w1 with
      | halt x w1 => rfl
      | ok b w2 =>
        simp only [Result.andThen]
        split <;> rfl
theorem stab_gives {P : Program} {ρ : Operand → Value} {o : Oper} (h : stabB P o = true) : GivesStable P (execOp ρ o) := by
  unfold stabB at h
  unfold execOp
  split at h
  all_goals (rename_i heq; simp only [heq])
  · exact .pure_ _
  · exact .pure_ _
  · rename_i c a b
    refine ⟨do Pure.pure (if ← asBool (ρ c) then ρ a else ρ b), Sb.bind _ _ (Sb.asBool _) fun _ => Sb.pure _, fun w => ?_⟩
    simp only [Sem.run_bind]
    cases (asBool (ρ c)).run P w <;> rfl
  · exact .mk_ _ (Sb.loadAt _ _)
  · exact .mk_ _ (Sb.unary _ _)
  · exact .mk_ _ (Sb.fieldAt _ _ _)
  · exact .mk_ _ (Sb.field _ _ _)
  · exact .mk_ _ (Sb.indexAt _ _ _)
  · exact .mk_ _ (Sb.index _ _ _)
  · exact .mk_ _ (Sb.extract _ _)
  · exact .mk_ _ (Sb.sliceAt _ _ _ _ _)
  · exact .mk_ _ (Sb.pure _)
  · rename_i x
    split
    · exact ⟨runtimePanic .nilDeref, Sb.runtimePanic _, fun w => rfl⟩
    · exact ⟨runtimePanic .nilDeref, Sb.runtimePanic _, fun w => rfl⟩
    · exact ⟨runtimePanic .nilDeref, Sb.runtimePanic _, fun w => rfl⟩
    · rename_i name first captured hx
      split
      · exact ⟨runtimePanic .nilDeref, Sb.runtimePanic _, fun w => rfl⟩
      · exact stab_nilAhead _ _ _ _ _
      · exact .pure_ _
    · exact .pure_ _
  · exact .mk_ _ (Sb.bind _ _ (Sb.eqGuard _ _ _ _ _ _) fun _ => Sb.binOp _ _ _ _ h)
  · split at h
    · rename_i k k' hk hk'
      exact .mk_ _ (Sb.convertInt _ _ _ _ _ hk hk')
    · cases h
  · rename_i c
    split at h
    all_goals first | (cases h; done) | skip
    all_goals rename_i hc; simp only [resolve, hc]
    · exact .mk_ _ (Sb.len _ _ _)
    · exact .mk_ _ (Sb.cap _ _ _)
    · exact .mk_ _ (Sb.min _ _ _)
    · exact .mk_ _ (Sb.max _ _ _)
  · exact .mk_ _ (Sb.build _ _)
  · cases h
end Go.Proofs.YtpbanfkjeiihbaaDoor
