/- Regions that draw their order: one walk in a fixed order serves every order. -/
import Derived.Still
import Derived.Tactics
import Derived.KernelRfl
set_option linter.unusedVariables false
set_option linter.unusedSimpArgs false
namespace Go.Proofs.YtpbanfkjeiihbaaDoor

/-! ### what does not write in place -/
def NW (P : Program) {α : Type} : Sem α → Prop
  | .pure _ => True
  | .load _ _ k => ∀ v, NW P (k v)
  | .store .. => False
  | .new _ k => ∀ n, NW P (k n)
  | .shape _ k => ∀ s, NW P (k s)
  | .freeze .. => False
  | .frozen _ k => ∀ b, NW P (k b)
  | .getObj _ k => ∀ o, NW P (k o)
  | .setObj .. => False
  | .choose _ k => ∀ n, NW P (k n)
  | .sys .. => False
  | .program k => NW P (k P)
  | .mark _ k => NW P k
  | .halt _ => True

structure Grew (w w' : World) : Prop where
  os : w'.os = w.os
  tape : w'.tape = w.tape
  output : w'.output = w.output
  size : w.heap.size ≤ w'.heap.size
  drawn : w.drawn ≤ w'.drawn
  block : ∀ k, k < w.heap.size → w'.heap[k]? = w.heap[k]?
theorem Grew.refl (w : World) : Grew w w := ⟨rfl, rfl, rfl, Nat.le_refl _, Nat.le_refl _, fun _ _ => rfl⟩
theorem Grew.trans {a b c : World} (h : Grew a b) (k : Grew b c) : Grew a c :=
  ⟨k.os.trans h.os, k.tape.trans h.tape, k.output.trans h.output, Nat.le_trans h.size k.size, Nat.le_trans h.drawn k.drawn, fun i hi => (k.block i (Nat.lt_of_lt_of_le hi h.size)).trans (h.block i hi)⟩
theorem Grew.antisymm {a b : World} (h : Grew a b) (k : Grew b a) : a = b := by
  have hs : a.heap.size = b.heap.size := Nat.le_antisymm h.size k.size
  have hh : a.heap = b.heap := by
    apply Array.ext hs
    intro i h1 h2
    have := h.block i h1
    rw [Array.getElem?_eq_getElem h1, Array.getElem?_eq_getElem h2] at this
    exact (Option.some.inj this).symm
  obtain ⟨h1, h2, h3, h4, h5⟩ := a
  obtain ⟨g1, g2, g3, g4, g5⟩ := b
  have e1 := h.os; have e2 := h.tape; have e3 := h.output; have e4 := Nat.le_antisymm h.drawn k.drawn
  simp at e1 e2 e3 e4 hh
  subst e1 e2 e3 e4 hh
  rfl

theorem NW.run {P : Program} {α : Type} (e : Sem α) : ∀ (w w' : World) (a : α), NW P e → e.run P w = .ok a w' → Grew w w' := by
  induction e with
  | pure a => intro w w' b _ h; simp only [Sem.run, Result.ok.injEq] at h; obtain ⟨_, rfl⟩ := h; exact Grew.refl _
  | load m a k ih =>
    intro w w' b hn h
    simp only [Sem.run] at h
    split at h
    · exact ih _ _ _ _ (hn _) h
    · split at h
      · exact ih _ _ _ _ (hn _) h
      · cases h
  | store m a v k ih => intro w w' b hn h; exact hn.elim
  | new o k ih =>
    intro w w' b hn h
    simp only [Sem.run] at h
    refine Grew.trans (b := { w with heap := w.heap.push o }) ⟨rfl, rfl, rfl, by simp, Nat.le_refl _, fun k hk => ?_⟩ (ih _ _ _ _ (hn _) h)
    show (w.heap.push o)[k]? = _
    rw [Array.getElem?_push, if_neg (by omega)]
  | shape r k ih => intro w w' b hn h; exact ih _ _ _ _ (hn _) h
  | freeze a n k ih => intro w w' b hn h; exact hn.elim
  | frozen a k ih => intro w w' b hn h; exact ih _ _ _ _ (hn _) h
  | getObj r k ih =>
    intro w w' b hn h
    simp only [Sem.run] at h
    split at h
    · cases h
    · exact ih _ _ _ _ (hn _) h
    · cases h
  | setObj r o k ih => intro w w' b hn h; exact hn.elim
  | choose q k ih =>
    intro w w' b hn h
    simp only [Sem.run] at h
    split at h
    · exact ih _ _ _ _ (hn _) h
    · exact Grew.trans (b := { w with drawn := w.drawn + 1 }) ⟨rfl, rfl, rfl, Nat.le_refl _, Nat.le_succ _, fun _ _ => rfl⟩ (ih _ _ _ _ (hn _) h)
  | sys c k ih => intro w w' b hn h; exact hn.elim
  | program k ih => intro w w' b hn h; exact ih _ _ _ _ hn h
  | mark m k ih => intro w w' b hn h; exact ih _ _ _ hn h
  | halt x => intro w w' b hn h; cases h

theorem NW.bind {P : Program} {α β : Type} (e : Sem α) (f : α → Sem β) (h : NW P e) (hf : ∀ a, NW P (f a)) : NW P (e >>= f) := by
  show NW P (e.bind f)
  induction e with
  | pure a => exact hf a
  | load m a k ih => exact fun v => ih v (h v)
  | store m a v k ih => exact h.elim
  | new o k ih => exact fun v => ih v (h v)
  | shape r k ih => exact fun v => ih v (h v)
  | freeze a n k ih => exact h.elim
  | frozen a k ih => exact fun v => ih v (h v)
  | getObj r k ih => exact fun v => ih v (h v)
  | setObj r o k ih => exact h.elim
  | choose q k ih => exact fun v => ih v (h v)
  | sys c k ih => exact h.elim
  | program k ih => exact ih P h
  | mark m k ih => exact ih h
  | halt x => trivial

section
variable {P : Program}
theorem NW.pure {α : Type} (a : α) : NW P (Pure.pure a : Sem α) := trivial
theorem NW.halt {α : Type} (h : Halt) : NW P (Sem.halt h : Sem α) := trivial
theorem NW.program : NW P Go.program := trivial
theorem NW.load (a : Addr) (m : Mode) : NW P (Go.load a m) := fun _ => trivial
theorem NW.typeInfo (t : TypeId) : NW P (typeInfo t) := by
  unfold Go.typeInfo; refine NW.bind _ _ NW.program fun p => ?_; split <;> exact trivial
theorem NW.underlying (t : TypeId) : NW P (underlying t) := by
  unfold Go.underlying; refine NW.bind _ _ NW.program fun p => ?_; split <;> exact trivial
theorem underlying_form (t : TypeId) : ∃ s, Go.underlying t = (Go.program >>= fun p => match p.underlying t with | some d => Pure.pure d | none => Go.stuck s) := ⟨_, rfl⟩
theorem NW.sizeOf (t : TypeId) : NW P (Go.sizeOf t) := by
  unfold Go.sizeOf; exact NW.bind _ _ (NW.typeInfo t) fun _ => trivial
theorem NW.isAgg (t : TypeId) : NW P (isAgg t) := by
  unfold Go.isAgg; refine NW.bind _ _ (NW.underlying t) fun p => ?_; split <;> exact trivial
theorem NW.loadCellsFrom (a : Addr) : ∀ (n i : Nat) (acc : Array Value), NW P (loadCellsFrom a i n acc)
  | 0, _, _ => trivial
  | n + 1, i, acc => by
    unfold Go.loadCellsFrom
    exact NW.bind _ _ (NW.load _ _) fun v => NW.loadCellsFrom a n (i + 1) _
theorem NW.loadVar (t : TypeId) (a : Addr) : NW P (loadVar t a) := by
  unfold Go.loadVar
  refine NW.bind _ _ (NW.isAgg t) fun b => ?_
  split
  · exact NW.bind _ _ (NW.sizeOf t) fun n => NW.bind _ _ (NW.loadCellsFrom _ _ _ _) fun _ => trivial
  · exact NW.load _ _
theorem NW.sureAddr (v : Value) : NW P (Instr.sureAddr v) := by unfold Instr.sureAddr; split <;> exact trivial
theorem NW.part (t : TypeId) (cs : Array Value) (o : Nat) : NW P (part t cs o) := by
  unfold Go.part
  refine NW.bind _ _ (NW.isAgg t) fun b => ?_
  split
  · exact NW.bind _ _ (NW.sizeOf t) fun n => trivial
  · split <;> exact trivial

theorem NW.shape (r : Nat) : NW P (Go.shape r) := fun _ => trivial
theorem NW.getObj (r : Nat) : NW P (Go.getObj r) := fun _ => trivial
theorem NW.frozen (a : Addr) : NW P (Go.frozen a) := fun _ => trivial
theorem NW.choose (q : Question) : NW P (Go.choose q) := fun _ => trivial
theorem NW.newObj (o : Obj) : NW P (Go.newObj o) := fun _ => trivial
theorem NW.map {α β : Type} (f : α → β) (e : Sem α) (h : NW P e) : NW P (f <$> e) := NW.bind e (fun a => Sem.pure (f a)) h fun _ => trivial
theorem NW.runtimePanic {α : Type} (e : RuntimeError) : NW P (runtimePanic e : Sem α) := by
  unfold Go.runtimePanic
  refine NW.bind _ _ NW.program fun p => ?_
  cases e <;> dsimp only <;> repeat (first | exact trivial | exact NW.underlying _ | exact NW.newObj _ | (unfold Go.elemOf) | (unfold Go.newVar Go.newRow) | (refine NW.bind _ _ ?_ fun _ => ?_) | split | (dsimp (config := { zeta := true }) only))
theorem NW.boundsPanic {α : Type} (k : IntKind) (x y : Int) (c : BoundsCode) : NW P (boundsPanic k x y c : Sem α) := by
  unfold Go.boundsPanic
  repeat (first | exact trivial | exact NW.runtimePanic _ | exact NW.map _ _ (NW.choose _) | (refine NW.bind _ _ ?_ fun _ => ?_) | split | (dsimp (config := { zeta := true }) only))
theorem NW.asIntOf (v : Value) : NW P (asIntOf v) := by unfold Go.asIntOf; split <;> exact trivial
theorem NW.asInt (v : Value) : NW P (asInt v) := by unfold Go.asInt; exact NW.bind _ _ (NW.asIntOf v) fun _ => trivial
theorem NW.asBool (v : Value) : NW P (asBool v) := by unfold Go.asBool; split <;> exact trivial
theorem NW.asAgg (v : Value) : NW P (asAgg v) := by unfold Go.asAgg; split <;> exact trivial
theorem NW.asAddr (v : Value) : NW P (asAddr v) := by unfold Go.asAddr; split <;> first | exact trivial | exact NW.runtimePanic _
theorem NW.zeroValue (t : TypeId) : NW P (zeroValue t) := by
  unfold Go.zeroValue; refine NW.bind _ _ (NW.typeInfo t) fun _ => ?_; split <;> exact trivial
theorem NW.byteOf (a : Addr) : NW P (byteOf a) := by
  unfold Go.byteOf
  repeat (first | exact trivial | exact NW.shape _ | exact NW.program | exact NW.getObj _ | exact NW.typeInfo _ | (refine NW.bind _ _ ?_ fun _ => ?_) | split | (dsimp (config := { zeta := true }) only))
theorem NW.fieldPlace (a : Addr) (f : Field) : NW P (fieldPlace a f) := by
  unfold Go.fieldPlace Go.partAt
  refine NW.bind _ _ (NW.sizeOf _) fun _ => ?_
  split
  · exact NW.bind _ _ (NW.byteOf _) fun _ => NW.bind _ _ (NW.byteOf _) fun _ => trivial
  · exact trivial
theorem NW.fieldAt (s : TypeId) (v : Value) (f : Nat) : NW P (Instr.fieldAt s v f) := by
  unfold Instr.fieldAt
  repeat (first | exact trivial | exact NW.underlying _ | exact NW.sureAddr _ | exact NW.fieldPlace _ _ | (refine NW.bind _ _ ?_ fun _ => ?_) | split | (dsimp (config := { zeta := true }) only))
theorem NW.field (s : TypeId) (v : Value) (f : Nat) : NW P (Instr.field s v f) := by
  unfold Instr.field
  repeat (first | exact trivial | exact NW.underlying _ | exact NW.asAgg _ | exact NW.part _ _ _ | (refine NW.bind _ _ ?_ fun _ => ?_) | split | (dsimp (config := { zeta := true }) only))
theorem NW.indexAt (s : TypeId) (v i : Value) : NW P (Instr.indexAt s v i) := by
  unfold Instr.indexAt
  repeat (first | exact trivial | exact NW.underlying _ | exact NW.asIntOf _ | exact NW.sureAddr _ | exact NW.sizeOf _ | exact NW.boundsPanic _ _ _ _ | (refine NW.bind _ _ ?_ fun _ => ?_) | split | (dsimp (config := { zeta := true }) only))
theorem NW.index (s : TypeId) (v i : Value) : NW P (Instr.index s v i) := by
  unfold Instr.index
  repeat (first | exact trivial | exact NW.underlying _ | exact NW.asIntOf _ | exact NW.part _ _ _ | exact NW.sizeOf _ | exact NW.boundsPanic _ _ _ _ | (refine NW.bind _ _ ?_ fun _ => ?_) | split | (dsimp (config := { zeta := true }) only))
theorem NW.extract (v : Value) (i : Nat) : NW P (Instr.extract v i) := by
  unfold Instr.extract; repeat (first | exact trivial | split)
theorem NW.loadAt (t : TypeId) (v : Value) : NW P (Instr.loadAt t v) := by
  unfold Instr.loadAt; exact NW.bind _ _ (NW.sureAddr v) fun _ => NW.loadVar _ _
theorem NW.sliceBound (x : Value) (y : Nat) (c : BoundsCode) : NW P (Instr.sliceBound x y c) := by
  unfold Instr.sliceBound
  refine NW.bind _ _ (NW.asIntOf _) fun _ => ?_
  split
  split <;> first | exact trivial | exact NW.boundsPanic _ _ _ _
theorem NW.sliceBounds (b : Bool) (l c : Nat) (lo hi mx : Option Value) : NW P (Instr.sliceBounds b l c lo hi mx) := by
  unfold Instr.sliceBounds
  repeat (first | exact trivial | exact NW.sliceBound _ _ _ | (refine NW.bind _ _ ?_ fun _ => ?_) | split | (dsimp (config := { zeta := true }) only))
theorem NW.slice (t : TypeId) (x : Value) (lo hi mx : Option Value) : NW P (Instr.slice t x lo hi mx) := by
  unfold Instr.slice
  repeat (first | exact trivial | exact NW.underlying _ | exact NW.sliceBounds _ _ _ _ _ _ | exact NW.sizeOf _ | exact NW.asAddr _ | (refine NW.bind _ _ ?_ fun _ => ?_) | split | (dsimp (config := { zeta := true }) only))
theorem NW.sliceAt (t : TypeId) (x : Value) (lo hi mx : Option Value) : NW P (Instr.sliceAt t x lo hi mx) := by
  unfold Instr.sliceAt
  repeat (first | exact trivial | exact NW.underlying _ | exact NW.sliceBounds _ _ _ _ _ _ | exact NW.sizeOf _ | exact NW.sureAddr _ | exact NW.slice _ _ _ _ _ | (refine NW.bind _ _ ?_ fun _ => ?_) | split | (dsimp (config := { zeta := true }) only))
theorem NW.numberAt (r : Nat) : NW P (numberAt r) := by
  unfold Go.numberAt
  repeat (first | exact trivial | exact NW.shape _ | exact NW.getObj _ | (refine NW.bind _ _ ?_ fun _ => ?_) | split | (dsimp (config := { zeta := true }) only))
theorem NW.viewAt (r : Nat) : NW P (viewAt r) := by
  unfold Go.viewAt
  repeat (first | exact trivial | exact NW.shape _ | exact NW.getObj _ | (refine NW.bind _ _ ?_ fun _ => ?_) | split | (dsimp (config := { zeta := true }) only))
theorem NW.stuck {α : Type} (s : String) : NW P (Go.stuck s : Sem α) := trivial
theorem NW.unsupported {α : Type} (u : Unsupported) : NW P (Go.unsupported u : Sem α) := trivial
theorem NW.behindNumber (a : Addr) : NW P (behindNumber a) := by
  unfold Go.behindNumber; exact NW.bind _ _ (NW.numberAt _) fun _ => trivial
theorem NW.movedPointer (t : TypeId) (x y : Value) : NW P (movedPointer t x y) := by
  unfold Go.movedPointer
  cases x with
  | pointer ptr =>
    cases ptr with
    | none =>
      refine NW.bind (Go.asInt y) _ (NW.asInt y) fun n => ?_
      dsimp (config := { zeta := true }) only
      repeat' (first | with_reducible exact NW.pure _ | with_reducible exact NW.stuck _ | with_reducible exact NW.unsupported _ | with_reducible exact NW.shape _ | with_reducible exact NW.viewAt _ | with_reducible exact NW.program | (with_reducible refine NW.bind _ _ ?_ fun _ => ?_) | split | (dsimp (config := { zeta := true }) only))
    | some a =>
      refine NW.bind (Go.numberAt a.block) _ (NW.numberAt _) fun b => ?_
      dsimp only
      split
      ·
        refine NW.bind _ _ (NW.unsupported _) fun _ => ?_
        refine NW.bind (Go.asInt y) _ (NW.asInt y) fun n => ?_
        dsimp (config := { zeta := true }) only
        repeat' (first | with_reducible exact NW.pure _ | with_reducible exact NW.stuck _ | with_reducible exact NW.unsupported _ | with_reducible exact NW.shape _ | with_reducible exact NW.viewAt _ | with_reducible exact NW.program | (with_reducible refine NW.bind _ _ ?_ fun _ => ?_) | split | (dsimp (config := { zeta := true }) only))
      ·
        refine NW.bind (Go.asInt y) _ (NW.asInt y) fun n => ?_
        dsimp (config := { zeta := true }) only
        repeat' (first | with_reducible exact NW.pure _ | with_reducible exact NW.stuck _ | with_reducible exact NW.unsupported _ | with_reducible exact NW.shape _ | with_reducible exact NW.viewAt _ | with_reducible exact NW.program | (with_reducible refine NW.bind _ _ ?_ fun _ => ?_) | split | (dsimp (config := { zeta := true }) only))
  | _ => exact NW.stuck _
theorem NW.movedNumber (t : TypeId) (x y : Value) : NW P (movedNumber t x y) := by
  unfold Go.movedNumber Go.asNumber
  refine NW.bind _ _ (NW.underlying t) fun u => ?_
  dsimp (config := { zeta := true }) only
  split
  ·
    refine NW.bind _ _ (NW.unsupported _) fun _ => ?_
    cases x with
    | pointer ptr =>
      cases ptr with
      | none =>
        refine NW.bind (Go.asInt y) _ (NW.asInt y) fun n => ?_
        dsimp (config := { zeta := true }) only
        repeat' (first | with_reducible exact NW.pure _ | with_reducible exact NW.stuck _ | with_reducible exact NW.unsupported _ | with_reducible exact NW.shape _ | with_reducible exact NW.viewAt _ | with_reducible exact NW.program | (with_reducible refine NW.bind _ _ ?_ fun _ => ?_) | split | (dsimp (config := { zeta := true }) only))
      | some n =>
        refine NW.bind (Go.behindNumber n) _ (NW.behindNumber n) fun ab => ?_
        refine NW.bind _ _ ?_ fun v => ?_
        ·
          refine NW.bind (Go.asInt y) _ (NW.asInt y) fun n => ?_
          dsimp (config := { zeta := true }) only
          repeat' (first | with_reducible exact NW.pure _ | with_reducible exact NW.stuck _ | with_reducible exact NW.unsupported _ | with_reducible exact NW.shape _ | with_reducible exact NW.viewAt _ | with_reducible exact NW.program | (with_reducible refine NW.bind _ _ ?_ fun _ => ?_) | split | (dsimp (config := { zeta := true }) only))
        ·
          split
          · exact NW.bind _ _ (NW.newObj _) fun _ => NW.pure _
          · exact NW.pure _
    | _ => exact NW.stuck _
  ·
    cases x with
    | pointer ptr =>
      cases ptr with
      | none =>
        refine NW.bind (Go.asInt y) _ (NW.asInt y) fun n => ?_
        dsimp (config := { zeta := true }) only
        repeat' (first | with_reducible exact NW.pure _ | with_reducible exact NW.stuck _ | with_reducible exact NW.unsupported _ | with_reducible exact NW.shape _ | with_reducible exact NW.viewAt _ | with_reducible exact NW.program | (with_reducible refine NW.bind _ _ ?_ fun _ => ?_) | split | (dsimp (config := { zeta := true }) only))
      | some n =>
        refine NW.bind (Go.behindNumber n) _ (NW.behindNumber n) fun ab => ?_
        refine NW.bind _ _ ?_ fun v => ?_
        ·
          refine NW.bind (Go.asInt y) _ (NW.asInt y) fun n => ?_
          dsimp (config := { zeta := true }) only
          repeat' (first | with_reducible exact NW.pure _ | with_reducible exact NW.stuck _ | with_reducible exact NW.unsupported _ | with_reducible exact NW.shape _ | with_reducible exact NW.viewAt _ | with_reducible exact NW.program | (with_reducible refine NW.bind _ _ ?_ fun _ => ?_) | split | (dsimp (config := { zeta := true }) only))
        ·
          split
          · exact NW.bind _ _ (NW.newObj _) fun _ => NW.pure _
          · exact NW.pure _
    | _ => exact NW.stuck _
theorem NW.forIn_list {α β : Type} (f : α → β → Sem (ForInStep β)) (hf : ∀ a b, NW P (f a b)) : ∀ (l : List α) (b : β), NW P (forIn l b f)
  | [], b => by rw [List.forIn_nil]; exact trivial
  | x :: l, b => by
    rw [List.forIn_cons]
    refine NW.bind _ _ (hf x b) fun r => ?_
    split
    · exact trivial
    · exact NW.forIn_list f hf l _
theorem NW.forIn_array {α β : Type} (f : α → β → Sem (ForInStep β)) (hf : ∀ a b, NW P (f a b)) (l : Array α) (b : β) : NW P (forIn l b f) := by
  rw [← Array.forIn_toList]; exact NW.forIn_list f hf _ _
theorem NW.forIn_range {β : Type} (f : Nat → β → Sem (ForInStep β)) (hf : ∀ a b, NW P (f a b)) (r : Std.Legacy.Range) (b : β) : NW P (forIn r b f) := by
  rw [Std.Legacy.Range.forIn_eq_forIn_range']; exact NW.forIn_list f hf _ _

theorem NW.noView (a : Addr) : NW P (noView a) := by
  unfold Go.noView
  repeat' (first | with_reducible exact NW.pure _ | with_reducible exact NW.stuck _ | with_reducible exact NW.unsupported _ | with_reducible exact NW.viewAt _ | (with_reducible refine NW.bind _ _ ?_ fun _ => ?_) | split | (dsimp (config := { zeta := true }) only))
theorem NW.stringish (a : Addr) : NW P (stringish a) := by
  unfold Go.stringish
  repeat' (first | with_reducible exact NW.pure _ | with_reducible exact NW.stuck _ | with_reducible exact NW.unsupported _ | with_reducible exact NW.frozen _ | with_reducible exact NW.shape _ | (with_reducible refine NW.bind _ _ ?_ fun _ => ?_) | split | (dsimp (config := { zeta := true }) only))
theorem NW.mayBeOne (a b : Addr) : NW P (mayBeOne a b) := by
  unfold Go.mayBeOne
  repeat' (first | with_reducible exact NW.pure _ | with_reducible exact NW.stuck _ | with_reducible exact NW.unsupported _ | with_reducible exact NW.stringish _ | with_reducible exact NW.shape _ | (with_reducible refine NW.bind _ _ ?_ fun _ => ?_) | split | (dsimp (config := { zeta := true }) only))
theorem NW.sameAddr (a b : Addr) : NW P (sameAddr a b) := by
  unfold Go.sameAddr
  repeat' (first | with_reducible exact NW.pure _ | with_reducible exact NW.stuck _ | with_reducible exact NW.unsupported _ | with_reducible exact NW.frozen _ | with_reducible exact NW.noView _ | with_reducible exact NW.mayBeOne _ _ | with_reducible exact NW.choose _ | (with_reducible refine NW.bind _ _ ?_ fun _ => ?_) | split | (dsimp (config := { zeta := true }) only))
theorem NW.samePointer (a b : Option Addr) : NW P (samePointer a b) := by
  unfold Go.samePointer; split <;> first | with_reducible exact NW.sameAddr _ _ | exact trivial
theorem NW.typeStr (t : TypeId) : NW P (typeStr t) := by
  unfold Go.typeStr
  repeat' (first | with_reducible exact NW.pure _ | with_reducible exact NW.stuck _ | with_reducible exact NW.unsupported _ | with_reducible exact NW.typeInfo _ | (with_reducible refine NW.bind _ _ ?_ fun _ => ?_) | split | (dsimp (config := { zeta := true }) only))
theorem NW.equalIn : ∀ (d : Nat) (t : TypeId) (x y : Value), NW P (Op.equalIn d t x y)
  | 0, _, _, _ => trivial
  | d + 1, t, x, y => by
    unfold Op.equalIn
    refine NW.bind _ _ (NW.underlying t) fun u => ?_
    split
    all_goals repeat' (first | with_reducible exact NW.pure _ | with_reducible exact NW.stuck _ | with_reducible exact NW.unsupported _ | with_reducible exact NW.equalIn d _ _ _ | with_reducible exact NW.behindNumber _ | with_reducible exact NW.program | with_reducible exact NW.byteOf _ | with_reducible exact NW.typeInfo _ | with_reducible exact NW.sizeOf _ | with_reducible exact NW.sameAddr _ _ | with_reducible exact NW.samePointer _ _ | with_reducible exact NW.choose _ | with_reducible exact NW.typeStr _ | with_reducible exact NW.runtimePanic _ | with_reducible exact NW.part _ _ _ | (with_reducible refine NW.forIn_array _ (fun _ _ => ?_) _ _) | (with_reducible refine NW.forIn_range _ (fun _ _ => ?_) _ _) | (with_reducible refine NW.bind _ _ ?_ fun _ => ?_) | split | (dsimp (config := { zeta := true }) only))
theorem NW.eqGuardIn : ∀ (d : Nat) (t : TypeId) (x y : Value), NW P (Op.eqGuardIn d t x y)
  | 0, _, _, _ => trivial
  | d + 1, t, x, y => by
    unfold Op.eqGuardIn
    refine NW.bind _ _ (NW.underlying t) fun u => ?_
    split
    all_goals repeat' (first | with_reducible exact NW.pure _ | with_reducible exact NW.stuck _ | with_reducible exact NW.unsupported _ | with_reducible exact NW.eqGuardIn d _ _ _ | with_reducible exact NW.sizeOf _ | with_reducible exact NW.part _ _ _ | (with_reducible refine NW.forIn_array _ (fun _ _ => ?_) _ _) | (with_reducible refine NW.forIn_range _ (fun _ _ => ?_) _ _) | (with_reducible refine NW.bind _ _ ?_ fun _ => ?_) | split | (dsimp (config := { zeta := true }) only))
theorem NW.eqGuard (op : BinOp) (t : TypeId) (x y : Operand) (a b : Value) : NW P (eqGuard op t x y a b) := by
  unfold Go.eqGuard
  repeat' (first | with_reducible exact NW.pure _ | with_reducible exact NW.stuck _ | with_reducible exact NW.unsupported _ | with_reducible exact NW.eqGuardIn _ _ _ _ | with_reducible exact NW.program | (with_reducible refine NW.bind _ _ ?_ fun _ => ?_) | split | (dsimp (config := { zeta := true }) only))
theorem NW.addrSub (k : IntKind) (a b : Addr) : NW P (Op.addrSub k a b) := by
  unfold Op.addrSub Op.twoPlaces
  repeat' (first | with_reducible exact NW.pure _ | with_reducible exact NW.stuck _ | with_reducible exact NW.unsupported _ | with_reducible exact NW.byteOf _ | with_reducible exact NW.program | (with_reducible refine NW.bind _ _ ?_ fun _ => ?_) | split | (dsimp (config := { zeta := true }) only))
theorem NW.addrCmp (k : BinOp) (a b : Addr) : NW P (Op.addrCmp k a b) := by
  unfold Op.addrCmp Op.twoPlaces
  repeat' (first | with_reducible exact NW.pure _ | with_reducible exact NW.stuck _ | with_reducible exact NW.unsupported _ | with_reducible exact NW.byteOf _ | with_reducible exact NW.program | (with_reducible refine NW.bind _ _ ?_ fun _ => ?_) | split | (dsimp (config := { zeta := true }) only))
theorem NW.addrMod (k : IntKind) (a : Addr) (n : Int) : NW P (Op.addrMod k a n) := by
  unfold Op.addrMod
  repeat' (first | with_reducible exact NW.pure _ | with_reducible exact NW.stuck _ | with_reducible exact NW.unsupported _ | with_reducible exact NW.byteOf _ | with_reducible exact NW.shape _ | with_reducible exact NW.typeInfo _ | (with_reducible refine NW.bind _ _ ?_ fun _ => ?_) | split | (dsimp (config := { zeta := true }) only))
theorem NW.floatArith (op : BinOp) (k : FloatKind) (x y : Nat) : NW P (Op.floatArith op k x y) := by
  unfold Op.floatArith
  repeat' (first | with_reducible exact NW.pure _ | with_reducible exact NW.stuck _ | with_reducible exact NW.choose _ | (with_reducible refine NW.bind _ _ ?_ fun _ => ?_) | split | (dsimp (config := { zeta := true }) only))
theorem NW.floatCmp (op : BinOp) (k : FloatKind) (x y : Nat) : NW P (Op.floatCmp op k x y) := by
  unfold Op.floatCmp; dsimp (config := { zeta := true }) only; split <;> trivial
theorem NW.carith (op : BinOp) (k : FloatKind) (x y : Nat) : NW P (Op.Complex.arith op k x y) := by
  unfold Op.Complex.arith
  refine NW.bind _ _ (NW.floatArith _ _ _ _) fun _ => ?_
  split <;> trivial
theorem NW.ccmp (op : BinOp) (k : FloatKind) (x y : Nat) : NW P (Op.Complex.cmp op k x y) := by
  unfold Op.Complex.cmp
  exact NW.bind _ _ (NW.floatCmp _ _ _ _) fun _ => NW.asBool _
theorem NW.cconv (k : FloatKind) (x : Nat) (k' : FloatKind) : NW P (Op.Complex.conv k x k') := by
  unfold Op.Complex.conv
  split
  · trivial
  · refine NW.bind _ _ ?_ fun _ => ?_
    · unfold Conv.floatToFloat
      repeat' (first | with_reducible exact NW.pure _ | with_reducible exact NW.stuck _ | with_reducible exact NW.choose _ | (with_reducible refine NW.bind _ _ ?_ fun _ => ?_) | split | (dsimp (config := { zeta := true }) only))
    · split <;> trivial
theorem NW.cadd (x y : Nat) : NW P (Op.Complex.add x y) := NW.carith _ _ _ _
theorem NW.csub (x y : Nat) : NW P (Op.Complex.sub x y) := NW.carith _ _ _ _
theorem NW.cmul (x y : Nat) : NW P (Op.Complex.mul x y) := NW.carith _ _ _ _
theorem NW.cquo (x y : Nat) : NW P (Op.Complex.quo x y) := NW.carith _ _ _ _
theorem NW.cproduct (a b c d : Nat) : NW P (Op.Complex.product a b c d) := by
  unfold Op.Complex.product
  repeat' (first | with_reducible exact NW.pure _ | exact NW.carith _ _ _ _ | (refine NW.bind _ _ ?_ fun _ => ?_))
theorem NW.ccorrected (s a b c d : Nat) : NW P (Op.Complex.corrected s a b c d) := by
  unfold Op.Complex.corrected
  repeat' (first | with_reducible exact NW.pure _ | exact NW.carith _ _ _ _ | (refine NW.bind _ _ ?_ fun _ => ?_))
set_option maxHeartbeats 2000000 in
theorem NW.cquotient (a b c d : Nat) : NW P (Op.Complex.quotient a b c d) := by
  unfold Op.Complex.quotient
  repeat' (first | with_reducible exact NW.pure _ | with_reducible exact NW.ccmp _ _ _ _ | with_reducible exact NW.ccorrected _ _ _ _ _ | with_reducible exact NW.cadd _ _ | with_reducible exact NW.csub _ _ | with_reducible exact NW.cmul _ _ | with_reducible exact NW.cquo _ _ | (with_reducible refine NW.bind _ _ ?_ fun _ => ?_) | split | (dsimp (config := { zeta := true }) only))
theorem NW.complexOp (op : BinOp) (k : FloatKind) (a b c d : Nat) : NW P (Op.complexOp op k a b c d) := by
  unfold Op.complexOp
  repeat' (first | with_reducible exact NW.pure _ | with_reducible exact NW.stuck _ | with_reducible exact NW.ccmp _ _ _ _ | with_reducible exact NW.carith _ _ _ _ | with_reducible exact NW.cconv _ _ _ | with_reducible exact NW.cproduct _ _ _ _ | with_reducible exact NW.cquotient _ _ _ _ | (with_reducible refine NW.bind _ _ ?_ fun _ => ?_) | split | (dsimp (config := { zeta := true }) only))
theorem NW.binOp (op : BinOp) (t : TypeId) (x y : Value) : NW P (binOp op t x y) := by
  unfold Go.binOp
  split
  all_goals repeat' (first | with_reducible exact NW.pure _ | with_reducible exact NW.stuck _ | with_reducible exact NW.unsupported _ | with_reducible exact NW.equalIn _ _ _ _ | with_reducible exact NW.movedNumber _ _ _ | with_reducible exact NW.movedPointer _ _ _ | with_reducible exact NW.behindNumber _ | with_reducible exact NW.addrSub _ _ _ | with_reducible exact NW.addrCmp _ _ _ | with_reducible exact NW.addrMod _ _ _ | with_reducible exact NW.underlying _ | with_reducible exact NW.choose _ | with_reducible exact NW.runtimePanic _ | (unfold Op.shift) | (unfold Op.intArith) | (unfold Op.intDiv) | (unfold Op.intBits) | (unfold Op.intCmp) | with_reducible exact NW.floatArith _ _ _ _ | with_reducible exact NW.floatCmp _ _ _ _ | with_reducible exact NW.complexOp _ _ _ _ _ _ | (unfold Op.stringOp) | (unfold Op.equal) | (with_reducible refine NW.bind _ _ ?_ fun _ => ?_) | split | (dsimp (config := { zeta := true }) only))
theorem NW.intToInt (k : IntKind) (n : Int) : NW P (Conv.intToInt k n) := trivial
theorem NW.under_bind (t : TypeId) (d : TypeDesc) (h : P.underlying t = some d) {α : Type} (f : TypeDesc → Sem α) (hf : NW P (f d)) : NW P (Go.underlying t >>= f) := by
  obtain ⟨s, hs⟩ := underlying_form t
  rw [hs]
  show NW P ((match P.underlying t with | some d => (Pure.pure d : Sem TypeDesc) | none => Go.stuck s).bind f)
  rw [h]; exact hf
theorem NW.convertInt (src dst : TypeId) (k k' : IntKind) (x : Value) (hs : P.underlying src = some (.int k')) (h : P.underlying dst = some (.int k)) : NW P (convert src dst x) := by
  unfold Go.convert
  refine NW.under_bind _ _ hs _ (NW.under_bind _ _ h _ ?_)
  cases x <;> first | exact NW.intToInt _ _ | (dsimp only; unfold Conv.floatToInt; repeat' (first | with_reducible exact NW.pure _ | with_reducible exact NW.choose _ | (with_reducible refine NW.bind _ _ ?_ fun _ => ?_) | split | (dsimp (config := { zeta := true }) only))) | (rename_i a; cases a <;> exact trivial) | exact trivial
theorem NW.unary (op : UnOp) (x : Value) : NW P (Op.unary op x) := by
  unfold Op.unary
  split
  all_goals repeat' (first | with_reducible exact NW.pure _ | with_reducible exact NW.stuck _ | with_reducible exact NW.unsupported _ | (unfold Op.intArith) | (unfold Op.intBits) | split | (dsimp (config := { zeta := true }) only))
theorem NW.len (a : Array TypeId) (t : TypeId) (v : Array Value) : NW P (Builtin.len_ a t v) := by
  unfold Builtin.len_
  repeat' (first | with_reducible exact NW.pure _ | with_reducible exact NW.stuck _ | with_reducible exact NW.underlying _ | with_reducible exact NW.getObj _ | (with_reducible refine NW.bind _ _ ?_ fun _ => ?_) | split | (dsimp (config := { zeta := true }) only))
theorem NW.cap (a : Array TypeId) (t : TypeId) (v : Array Value) : NW P (Builtin.cap_ a t v) := by
  unfold Builtin.cap_
  repeat' (first | with_reducible exact NW.pure _ | with_reducible exact NW.stuck _ | with_reducible exact NW.underlying _ | with_reducible exact NW.getObj _ | (with_reducible refine NW.bind _ _ ?_ fun _ => ?_) | split | (dsimp (config := { zeta := true }) only))
theorem NW.stringOp (op : BinOp) (x y : ByteArray) : NW P (Op.stringOp op x y) := by
  unfold Op.stringOp
  repeat' (first | with_reducible exact NW.pure _ | with_reducible exact NW.stuck _ | with_reducible exact NW.unsupported _ | split | (dsimp (config := { zeta := true }) only))
theorem NW.foldlM {α β : Type} (f : β → α → Sem β) (hf : ∀ a b, NW P (f a b)) : ∀ (l : List α) (b : β), NW P (l.foldlM f b)
  | [], b => by rw [List.foldlM_nil]; exact trivial
  | x :: l, b => by rw [List.foldlM_cons]; exact NW.bind _ _ (hf b x) fun r => NW.foldlM f hf l r
theorem NW.min2 (x y : Value) : NW P (Builtin.min2 x y) := by
  unfold Builtin.min2
  repeat' (first | with_reducible exact NW.pure _ | with_reducible exact NW.stuck _ | with_reducible exact NW.unsupported _ | with_reducible exact NW.choose _ | with_reducible exact NW.stringOp _ _ _ | with_reducible exact NW.asBool _ | (with_reducible refine NW.bind _ _ ?_ fun _ => ?_) | split | (dsimp (config := { zeta := true }) only))
theorem NW.max2 (x y : Value) : NW P (Builtin.max2 x y) := by
  unfold Builtin.max2
  repeat' (first | with_reducible exact NW.pure _ | with_reducible exact NW.stuck _ | with_reducible exact NW.unsupported _ | with_reducible exact NW.choose _ | with_reducible exact NW.stringOp _ _ _ | with_reducible exact NW.asBool _ | (with_reducible refine NW.bind _ _ ?_ fun _ => ?_) | split | (dsimp (config := { zeta := true }) only))
theorem NW.min (a : Array TypeId) (t : TypeId) (v : Array Value) : NW P (Builtin.min_ a t v) := by
  unfold Builtin.min_; split
  · exact trivial
  · exact NW.foldlM _ (fun _ _ => NW.min2 _ _) _ _
theorem NW.max (a : Array TypeId) (t : TypeId) (v : Array Value) : NW P (Builtin.max_ a t v) := by
  unfold Builtin.max_; split
  · exact trivial
  · exact NW.foldlM _ (fun _ _ => NW.max2 _ _) _ _
theorem NW.mapM_list {α β : Type} (f : α → Sem β) (hf : ∀ a, NW P (f a)) : ∀ (l : List α), NW P (l.mapM f)
  | [] => by rw [List.mapM_nil]; exact trivial
  | x :: l => by rw [List.mapM_cons]; exact NW.bind _ _ (hf x) fun r => NW.bind _ _ (NW.mapM_list f hf l) fun _ => trivial
theorem NW.followBlind : ∀ (l : List FieldStep) (t : TypeId) (x : Option Value), NW P (followBlind l t x)
  | [], _, _ => trivial
  | s :: rest, t, x => by
    unfold Go.followBlind
    repeat' (first | with_reducible exact NW.pure _ | with_reducible exact NW.stuck _ | with_reducible exact NW.followBlind _ _ _ | with_reducible exact NW.underlying _ | with_reducible exact NW.part _ _ _ | (with_reducible refine NW.bind _ _ ?_ fun _ => ?_) | split | (dsimp (config := { zeta := true }) only))
theorem NW.nilAhead : ∀ (n : Nat) (t : TypeId) (v : Value) (s : String), NW P (nilAhead n t v s)
  | 0, _, _, _ => trivial
  | n + 1, t, v, s => by
    unfold Go.nilAhead
    repeat' (first | with_reducible exact NW.pure _ | with_reducible exact NW.stuck _ | with_reducible exact NW.nilAhead _ _ _ _ | with_reducible exact NW.followBlind _ _ _ | with_reducible exact NW.underlying _ | with_reducible exact NW.typeInfo _ | (with_reducible refine NW.bind _ _ ?_ fun _ => ?_) | split | (dsimp (config := { zeta := true }) only))
end

/-! ### operations that neither write nor call -/
def pureB (P : Program) (o : Oper) : Bool :=
  match o.op with
  | .move _ | .assign _ | .pick .. | .load .. | .binOp .. | .unOp .. | .fieldAddr .. | .field .. | .indexAddr .. | .index .. | .extract .. | .slice .. | .makeFunc .. | .nilCheck _ => true
  | .convert s d _ => match P.underlying s, P.underlying d with | some (.int _), some (.int _) => true | _, _ => false
  | .call c => match c.callee with | .builtin .len | .builtin .cap | .builtin .min | .builtin .max => true | _ => false
  | _ => false

/-- It is a value out of a part that writes nothing. -/
def GivesValue (P : Program) (e : Sem Next) : Prop := ∃ s : Sem Value, NW P s ∧ ∀ w, e.run P w = (s.run P w).andThen fun v w => .ok (.value v) w
theorem GivesValue.mk_ {P : Program} (s : Sem Value) (h : NW P s) : GivesValue P (do pure (.value (← s))) :=
  ⟨s, h, fun w => by rw [Sem.run_bind]; rfl⟩
theorem GivesValue.pure_ {P : Program} (v : Value) : GivesValue P (Pure.pure (.value v)) := ⟨Pure.pure v, trivial, fun w => rfl⟩
theorem GivesValue.halt {P : Program} (h : Halt) : GivesValue P (Sem.halt h) := ⟨Sem.halt h, trivial, fun w => rfl⟩
theorem gives_nilAhead {P : Program} (t : TypeId) (u : Value) (name : String) (why : Unsupported) (v : Value) : GivesValue P (do
    if (← nilAhead ((← Go.program).types.size + Made.depth) t u name) != some false then Go.unsupported why
    Pure.pure (.value v)) := by
  refine ⟨(do
    if (← nilAhead ((← Go.program).types.size + Made.depth) t u name) != some false then Go.unsupported why
    Pure.pure v), ?_, fun w => ?_⟩
  · refine NW.bind _ _ NW.program fun p => NW.bind _ _ (NW.nilAhead _ _ _ _) fun b => ?_
    split
    · exact NW.bind _ _ (NW.unsupported _) fun _ => trivial
    · exact trivial
  · simp only [Sem.run_bind]
    cases hp : (Go.program).run P w with
    | halt x w1 => rfl
    | ok p w1 =>
      simp only [Result.andThen]
      cases hn : (nilAhead (p.types.size + Made.depth) t u name).run P w1 with
      | halt x w1 => rfl
      | ok b w2 =>
        simp only [Result.andThen]
        split <;> rfl
theorem pure_gives {P : Program} {ρ : Operand → Value} {o : Oper} (h : pureB P o = true) : GivesValue P (execOp ρ o) := by
  unfold pureB at h
  unfold execOp
  split at h
  all_goals (rename_i heq; simp only [heq])
  · exact .pure_ _
  · exact .pure_ _
  · rename_i c a b
    refine ⟨do Pure.pure (if ← asBool (ρ c) then ρ a else ρ b), NW.bind _ _ (NW.asBool _) fun _ => trivial, fun w => ?_⟩
    simp only [Sem.run_bind]
    cases (asBool (ρ c)).run P w <;> rfl
  · exact .mk_ _ (NW.loadAt _ _)
  · refine .mk_ _ (NW.bind _ _ (NW.eqGuard _ _ _ _ _ _) fun _ => NW.binOp _ _ _ _)
  · exact .mk_ _ (NW.unary _ _)
  · exact .mk_ _ (NW.fieldAt _ _ _)
  · exact .mk_ _ (NW.field _ _ _)
  · exact .mk_ _ (NW.indexAt _ _ _)
  · exact .mk_ _ (NW.index _ _ _)
  · exact .mk_ _ (NW.extract _ _)
  · exact .mk_ _ (NW.sliceAt _ _ _ _ _)
  · exact .mk_ _ trivial
  · rename_i x
    split
    · exact ⟨runtimePanic .nilDeref, NW.runtimePanic _, fun w => rfl⟩
    · exact ⟨runtimePanic .nilDeref, NW.runtimePanic _, fun w => rfl⟩
    · exact ⟨runtimePanic .nilDeref, NW.runtimePanic _, fun w => rfl⟩
    · rename_i name first captured hx
      split
      · exact ⟨runtimePanic .nilDeref, NW.runtimePanic _, fun w => rfl⟩
      · exact gives_nilAhead _ _ _ _ _
      · exact .pure_ _
    · exact .pure_ _
  · rename_i d _ 
    split at h
    · rename_i k k' hk hk'
      exact .mk_ _ (NW.convertInt _ _ _ _ _ hk hk')
    · cases h
  · rename_i c
    split at h
    all_goals first | (cases h; done) | skip
    all_goals rename_i hc; simp only [resolve, hc]
    · exact .mk_ _ (NW.len _ _ _)
    · exact .mk_ _ (NW.cap _ _ _)
    · exact .mk_ _ (NW.min _ _ _)
    · exact .mk_ _ (NW.max _ _ _)
  · cases h
end Go.Proofs.YtpbanfkjeiihbaaDoor
