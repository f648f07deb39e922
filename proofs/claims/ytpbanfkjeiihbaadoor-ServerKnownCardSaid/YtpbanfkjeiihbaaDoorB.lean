/- Words for memory, shared by the proofs of this seat. -/
import Derived.Test.YtpbanfkjeiihbaaDoorRows
import Derived.WalkKit
import Derived.WalkSpells
import Derived.WalkLawsBesides
import Derived.Below
import Derived.Laws.OwnMore
import Derived.Deep.AppendLies
import Derived.Deep.Draws
import Derived.Outline
import Derived.Lib.Hide
import Derived.Test.YtpbanfkjeiihbaaDoorV
import Derived.BigQuiet
import Derived.Deep.QuietTactic
import Derived.Deep.LoopGhost
import Derived.Deep.DeepCutAuto
import Derived.Deep.CutBlock
import Derived.Deep.Light
import Derived.Maps.AppendAt
set_option linter.unusedVariables false
namespace Go.Proofs.YtpbanfkjeiihbaaDoor
open Go.RowKit

theorem block_of_add (a : Addr) (n : Nat) : (a.add n).block = a.block := by unfold Addr.add; split <;> rfl
theorem add_of_add (a : Addr) (i j : Nat) : (a.add i).add j = a.add (i + j) := by
  unfold Addr.add
  by_cases hi : i = 0 <;> by_cases hj : j = 0 <;> simp [hi, hj, Nat.add_assoc]

/-- A slice's cells: at the address (if there are any) the world holds these cells. -/
def Rd (w : World) (A : Option Addr) (cs : List Value) : Prop :=
  cs = [] ∨ ∃ b o, A = some ⟨b, o, none⟩ ∧ ∀ j u, cs[j]? = some u → w.cell? ⟨b, o + j, none⟩ = some u

theorem Rd.nil (w : World) (A : Option Addr) : Rd w A [] := .inl rfl
theorem Rd.keep {w w' : World} {A : Option Addr} {cs : List Value} (h : Rd w A cs) (hk : ∀ a u, w.cell? a = some u → w'.cell? a = some u) : Rd w' A cs := by
  rcases h with h | ⟨b, o, hA, hc⟩
  · exact .inl h
  · exact .inr ⟨b, o, hA, fun j u hu => hk _ _ (hc j u hu)⟩
theorem Rd.below {w w' : World} {A : Option Addr} {cs : List Value} (h : Rd w A cs) (hb : Below w.heap.size w w') : Rd w' A cs :=
  h.keep fun a u hu => (hb.cell (World.block_lt_of_cell? w a hu)).trans hu
theorem Rd.at_ {w : World} {A : Option Addr} {cs : List Value} (h : Rd w A cs) {j : Nat} (hj : j < cs.length) : ∃ b o, A = some ⟨b, o, none⟩ ∧ ∀ j u, cs[j]? = some u → w.cell? ⟨b, o + j, none⟩ = some u := by
  rcases h with rfl | h
  · simp at hj
  · exact h

theorem flat_length {α : Type} (enc : α → List Value) (s : Nat) (hs : ∀ x, (enc x).length = s) (l : List α) : (l.flatMap enc).length = l.length * s := by
  induction l with
  | nil => simp
  | cons a l ih => simp [hs, ih, Nat.add_mul]; omega
theorem flat_get {α : Type} (enc : α → List Value) (s : Nat) (hs : ∀ x, (enc x).length = s) : ∀ (l : List α) (k : Nat) (x : α), l[k]? = some x → ∀ j, j < s → (l.flatMap enc)[k * s + j]? = (enc x)[j]?
  | [], k, x, h, j, hj => by simp at h
  | a :: l, 0, x, h, j, hj => by
    simp at h; subst h
    simp [List.getElem?_append, hs, hj]
  | a :: l, k + 1, x, h, j, hj => by
    simp at h
    have := flat_get enc s hs l k x h j hj
    rw [List.flatMap_cons, List.getElem?_append_right (by rw [hs, Nat.add_mul]; omega), hs]
    rw [show (k + 1) * s + j - s = k * s + j by rw [Nat.add_mul]; omega]
    exact this
theorem drop_get {α : Type} {l : List α} {k : Nat} {x : α} (h : l[k]? = some x) : l.drop k = x :: l.drop (k + 1) := by
  obtain ⟨hk, rfl⟩ := List.getElem?_eq_some_iff.1 h
  exact List.drop_eq_getElem_cons hk
theorem get_lt {α : Type} {l : List α} {k : Nat} (h : k < l.length) : ∃ x, l[k]? = some x := ⟨_, List.getElem?_eq_getElem h⟩
theorem ret_int {k : IntKind} {a b : Int} (h : a = b) : Ending.returned (.int k a) = .returned (.int k b) := by rw [h]
theorem ret_bool {a b : Bool} (h : a = b) : Ending.returned (.bool a) = .returned (.bool b) := by rw [h]


/-- The element type e of the slice type t: its cells and bytes. -/
structure ElemTy (P : Program) (t e : TypeId) (size bytes : Nat) : Prop where
  ht : P.underlying t = some (.slice e)
  info : ∃ i z, P.info? e = some i ∧ i.zero = some z ∧ i.size = size ∧ i.bytes = bytes ∧ z.cells.size = size
  pos : 0 < size

section
variable {α : Type} (enc : α → List Value)
/-- v is a slice that reads as the list l. -/
def IsL (w : World) (v : Value) (l : List α) : Prop := ∃ A c, v = .slice A l.length c ∧ l.length ≤ maxLen ∧ l.length ≤ c ∧ Rd w A (l.flatMap enc)
/-- v is a slice of the call's own (blocks from base on) that reads as l. -/
def OwnL (e : TypeId) (size : Nat) (w : World) (base : Nat) (v : Value) (l : List α) : Prop := w.ownsRow base e size v l.length (l.flatMap enc)
end

section
variable {α : Type} {enc : α → List Value} {e : TypeId} {size base : Nat} {w w' : World} {v : Value} {l : List α}
theorem IsL.nil (w : World) : IsL enc w (.slice none 0 0) [] := ⟨none, 0, rfl, by simp, Nat.le_refl _, .inl rfl⟩
theorem IsL.keep (h : IsL enc w v l) (hk : ∀ a u, w.cell? a = some u → w'.cell? a = some u) : IsL enc w' v l := by
  obtain ⟨A, c, hv, hm, hc, hr⟩ := h
  exact ⟨A, c, hv, hm, hc, hr.keep hk⟩
theorem IsL.below (h : IsL enc w v l) (hb : Below w.heap.size w w') : IsL enc w' v l := by
  obtain ⟨A, c, hv, hm, hc, hr⟩ := h
  exact ⟨A, c, hv, hm, hc, hr.below hb⟩
theorem IsL.alloc (h : IsL enc w v l) (o : Obj) : IsL enc (w.alloc o) v l := h.below ((Below.refl _ _).alloc (Nat.le_refl _) o)
theorem OwnL.is (h : OwnL enc e size w base v l) : IsL enc w v l := by
  rcases h.2 with ⟨rfl, hn⟩ | ⟨g, cap, cur, rfl, hb, hg, hn, hm, hs, ht⟩
  · have : l = [] := List.eq_nil_of_length_eq_zero hn
    subst this
    exact IsL.nil w
  · refine ⟨some ⟨g, 0, none⟩, cap, rfl, by omega, hn, .inr ⟨g, 0, rfl, fun j u hu => ?_⟩⟩
    have := World.ownsRow.cells h (g := g) rfl j u hu
    rwa [Addr.add_lit] at this
theorem OwnL.nil (w : World) (base : Nat) : OwnL enc e size w base (.slice none 0 0) [] := World.ownsRow_nil w base e size
theorem OwnL.below (h : OwnL enc e size w base v l) (hb : Below w.heap.size w w') : OwnL enc e size w' base v l := by
  refine ⟨h.1, ?_⟩
  rcases h.2 with hn | ⟨g, cap, cur, rfl, hbg, hg, rest⟩
  · exact .inl hn
  · refine .inr ⟨g, cap, cur, rfl, hbg, ?_, rest⟩
    rw [hb.block g (Array.getElem?_eq_some_iff.1 hg).1]
    exact hg
theorem OwnL.alloc (h : OwnL enc e size w base v l) (o : Obj) : OwnL enc e size (w.alloc o) base v l := World.ownsRow.alloc h o
theorem OwnL.base_le {b : Nat} (h : OwnL enc e size w base v l) (hb : b ≤ base) : OwnL enc e size w b v l := by
  refine ⟨h.1, ?_⟩
  rcases h.2 with hn | ⟨g, cap, cur, hv, hbg, rest⟩
  · exact .inl hn
  · exact .inr ⟨g, cap, cur, hv, by omega, rest⟩
theorem OwnL.kept {row : Option Nat} (h : OwnL enc e size w base v l) (hg : w.grownBy w' row) (hne : ∀ k, row = some k → k < base) : OwnL enc e size w' base v l := by
  refine World.ownsRow.kept h hg ?_
  rcases h.2 with ⟨rfl, _⟩ | ⟨g, cap, cur, rfl, hbg, rest⟩
  · exact .inl rfl
  · refine .inr fun e => ?_
    have := hne g e.symm
    omega
end

/-- What an own row's writer leaves below the row's base. -/
theorem below_grown {α : Type} {enc : α → List Value} {e : TypeId} {size base : Nat} {w w0 w' : World} {v : Value} {l : List α} (h : OwnL enc e size w0 base v l) (hg : w.grownBy w' v.ownBlock) (hb : base ≤ w.heap.size) : Below base w w' :=
  (Below.refl base w).grown hg hb fun k hk => (World.ownsRow.lt h k hk).1

section
variable {P : Program} {t e : TypeId} {size bytes : Nat}
/-- 'append(s, y)': one element, in the block that the statement has just made. -/
theorem wpList_app1 (ET : ElemTy P t e size bytes) {α : Type} (enc : α → List Value) (w : World) {ops : Array Oper} {rest : List Oper} {o : Oper} {a : Act} {Q : Exit → Act → World → Prop} (hgd : o.guard = none) (s x : Operand)
    (ho : o.op = .call { callee := .builtin .append, args := #[s, x], argTypes := #[t, t] })
    (base : Nat) (v : Value) (l : List α) (hs : a.eval s = v) (hown : OwnL enc e size w base v l) (y : α) (cs : Array Value) (c : Nat) (hx : a.eval x = .slice (some ⟨w.heap.size, 0, none⟩) 1 c)
    (hcs : cs.toList = enc y) (hlen : (enc y).length = size) (h1 : ∀ u ∈ enc y, u.oneCell' = true)
    (hbytes : (l.length + 1) * bytes ≤ 140737488355328) (h63 : l.length + 1 ≤ maxLen) (hbase : base ≤ w.heap.size)
    (h : ∀ v' w', OwnL enc e size w' base v' (l ++ [y]) → Below base w w' → (w.alloc (.cells cs e)).grownBy w' v.ownBlock → wpList P ops Q rest (a.put o.dst v') w') : wpList P ops Q (o :: rest) a (w.alloc (.cells cs e)) := by
  obtain ⟨i, z, hi, hz, hsz, hby, hzs⟩ := ET.info
  refine wpList_append_own _ hgd s x t ho base e i z size bytes ET.ht hi hz hsz hby hzs ET.pos v l.length (l.flatMap enc) hs (World.ownsRow.alloc hown _) ⟨w.heap.size, 0, none⟩ 1 c (enc y) hx (by omega) ?_ h1 h63 hbytes (by simp; omega) ?_
  · intro j u hu
    rw [Addr.add_lit, cell_of_row _ _ _ cs e (0, 0) (heap_alloc_new w _)]
    rw [← hcs] at hu
    simpa using hu
  · intro v' w' hown' hg _
    refine h v' w' ?_ ?_ hg
    · show w'.ownsRow base e size v' (l ++ [y]).length ((l ++ [y]).flatMap enc)
      simpa using hown'
    · exact ((Below.refl base w).alloc hbase _).trans (below_grown (enc := enc) hown hg (by simp; omega))

/-- 'append(s, xs...)': the source reads as a list. -/
theorem wpList_appL (ET : ElemTy P t e size bytes) {α : Type} (enc : α → List Value) (hlen : ∀ y, (enc y).length = size) (h1 : ∀ y, ∀ u ∈ enc y, u.oneCell' = true) (w : World) {ops : Array Oper} {rest : List Oper} {o : Oper} {a : Act} {Q : Exit → Act → World → Prop} (hgd : o.guard = none) (s x : Operand)
    (ho : o.op = .call { callee := .builtin .append, args := #[s, x], argTypes := #[t, t] })
    (base : Nat) (v : Value) (l : List α) (hs : a.eval s = v) (hown : OwnL enc e size w base v l) (m : List α) (vx : Value) (hx : a.eval x = vx) (hm : IsL enc w vx m)
    (hbytes : (l.length + m.length) * bytes ≤ 140737488355328) (h63 : l.length + m.length ≤ maxLen) (hbase : base ≤ w.heap.size)
    (h : ∀ v' w', OwnL enc e size w' base v' (l ++ m) → Below base w w' → w.grownBy w' v.ownBlock → wpList P ops Q rest (a.put o.dst v') w') : wpList P ops Q (o :: rest) a w := by
  obtain ⟨i, z, hi, hz, hsz, hby, hzs⟩ := ET.info
  obtain ⟨A, c, rfl, hml, hmc, hr⟩ := hm
  have hl : (m.flatMap enc).length = m.length * size := flat_length enc size hlen m
  have h1' : ∀ u ∈ m.flatMap enc, u.oneCell' = true := by
    intro u hu
    obtain ⟨y, _, hy⟩ := List.mem_flatMap.1 hu
    exact h1 y u hy
  rcases hr with hnil | ⟨b, of, rfl, hc⟩
  · have hm0 : m.length = 0 := by
      rw [hnil] at hl
      rcases Nat.mul_eq_zero.1 hl.symm with h | h
      · exact h
      · have := ET.pos; omega
    have hm0' : m = [] := List.eq_nil_of_length_eq_zero hm0
    subst hm0'
    rcases A with _ | ad
    · refine wpList_plain hgd fun K hK => ?_
      have hrun : (Builtin.append_ #[t, t] o.type #[v, .slice none 0 c]).run P w = .ok v w := by
        rcases hown.2 with ⟨rfl, hx0⟩ | ⟨g, cap, cur, rfl, _, _, hnc, _⟩
        · simp [Builtin.append_, run_underlying ET.ht, sizeOf, typeInfo, hi, Builtin.lenOf, Builtin.firstCells]
        · simp [Builtin.append_, run_underlying ET.ht, sizeOf, typeInfo, hi, Builtin.lenOf, Builtin.firstCells, hnc, storeCells]
      unfold Oper.wp execOp
      simp only [ho, resolve, invoke, builtin, Sem.run_bind, Sem.run_pure, Result.andThen_ok, List.map_toArray, List.map_cons, List.map_nil, hs, hx]
      rw [show ([] : List α).length = 0 from rfl, hrun]
      exact hK _ _ (h v w (by simpa using hown) (Below.refl _ _) (World.grownBy.refl w _))
    · refine wpList_append_own _ hgd s x t ho base e i z size bytes ET.ht hi hz hsz hby hzs ET.pos v l.length (l.flatMap enc) hs hown ad 0 c [] hx (by simp) (by simp) (by simp) (by simpa using h63) (by simpa using hbytes) hbase ?_
      intro v' w' hown' hg _
      refine h v' w' ?_ (below_grown (enc := enc) hown hg hbase) hg
      show w'.ownsRow base e size v' (l ++ []).length ((l ++ []).flatMap enc)
      simpa using hown'
  · refine wpList_append_own _ hgd s x t ho base e i z size bytes ET.ht hi hz hsz hby hzs ET.pos v l.length (l.flatMap enc) hs hown ⟨b, of, none⟩ m.length c (m.flatMap enc) hx hl (fun j u hu => by rw [Addr.add_lit]; exact hc j u hu) h1' h63 hbytes hbase ?_
    intro v' w' hown' hg _
    refine h v' w' ?_ (below_grown (enc := enc) hown hg hbase) hg
    show w'.ownsRow base e size v' (l ++ m).length ((l ++ m).flatMap enc)
    simpa using hown'

/-- 'make([]T, 0, n)'. -/
theorem wpList_make0 (ET : ElemTy P t e size bytes) {α : Type} (enc : α → List Value) (w : World) {ops : Array Oper} {rest : List Oper} {o : Oper} {a : Act} {Q : Exit → Act → World → Prop} (hgd : o.guard = none) (l c : Operand)
    (hop : o.op = Op.makeSlice t l c) (base : Nat) (kl kc : IntKind) (C : Int) (n : Nat) (hl : a.eval l = .int kl 0) (hc : a.eval c = .int kc C) (hC : C = (n : Int)) (b2 : bytes * n ≤ 281474976710656) (b3 : n ≤ maxLen) (b4 : base ≤ w.heap.size)
    (h : ∀ v' w', OwnL enc e size w' base v' [] → Below base w w' → w.grownBy w' none → wpList P ops Q rest (a.put o.dst v') w') : wpList P ops Q (o :: rest) a w := by
  obtain ⟨i, z, hi, hz, hsz, hby, hzs⟩ := ET.info
  refine wpList_make_own w hgd l c t hop base e i z size ET.ht hi hz hsz kl kc C n hl hc hC (by rw [hby]; exact b2) b3 b4 ?_
  intro w' hown hg
  exact h _ w' hown ((Below.refl base w).grown hg b4 (by simp)) hg
end

theorem bcell {w w1 : World} {B : Nat} (hb : Below B w w1) : (∀ b o, b < B → w1.cell? ⟨b, o, none⟩ = w.cell? ⟨b, o, none⟩) ∧ (∀ b o, b < B → w1.frozen? ⟨b, o, none⟩ = w.frozen? ⟨b, o, none⟩) :=
  ⟨fun b o h => hb.cell (p := ⟨b, o, none⟩) h, fun b o h => hb.frozen (p := ⟨b, o, none⟩) h⟩
theorem ret2 {a b c d : Value} (h1 : a = c) (h2 : b = d) : Ending.returned (.tuple #[a, b]) = .returned (.tuple #[c, d]) := by rw [h1, h2]
theorem size_le {B : Nat} {w w1 : World} (hb : Below B w w1) : w.heap.size ≤ w1.heap.size := hb.size
/-- Block g is just the cells cs of element type t, none frozen. -/
def Blk (w : World) (g : Nat) (t : TypeId) (cs : Array Value) : Prop := w.heap[g]? = some (.cells cs t (0, 0))
section
variable {w w' : World} {g : Nat} {t : TypeId} {cs : Array Value}
theorem Blk.lt (h : Blk w g t cs) : g < w.heap.size := (Array.getElem?_eq_some_iff.1 h).1
theorem Blk.cell (h : Blk w g t cs) (i : Nat) : w.cell? ⟨g, i, none⟩ = cs[i]? := cell_of_row w g i cs t (0, 0) h
theorem Blk.frozen (h : Blk w g t cs) (i : Nat) : w.frozen? ⟨g, i, none⟩ = false := by
  unfold Blk at h
  simp [World.frozen?, h]
theorem Blk.new (w : World) (t : TypeId) (cs : Array Value) : Blk (w.alloc (.cells cs t)) w.heap.size t cs := heap_alloc_new w _
theorem Blk.alloc (h : Blk w g t cs) (o : Obj) : Blk (w.alloc o) g t cs := (Below.heap_alloc w o g h.lt).trans h
theorem Blk.set_ (h : Blk w g t cs) (i : Nat) (u : Value) : Blk (w.setCell ⟨g, i, none⟩ u) g t (cs.setIfInBounds i u) := by
  unfold Blk at h ⊢
  simp [World.setCell, Array.getElem?_modify, h]
theorem Blk.far (h : Blk w g t cs) {p : Addr} (hp : g ≠ p.block) (u : Value) : Blk (w.setCell p u) g t cs := (Below.heap_setCell w p u g hp).trans h
theorem Blk.below {B : Nat} (h : Blk w g t cs) (hb : Below B w w') (hg : g < B) : Blk w' g t cs := (hb.block g hg).trans h
theorem Blk.ext (h : Blk w g t cs) (hb : Below w.heap.size w w') : Blk w' g t cs := h.below hb h.lt
theorem Blk.drew (h : Blk w g t cs) : Blk w.drew g t cs := h
end
theorem flat_take {α : Type} (enc : α → List Value) : ∀ (l : List α) (X j : Nat) (u : Value), ((l.take X).flatMap enc)[j]? = some u → (l.flatMap enc)[j]? = some u
  | [], X, j, u, h => by simp at h
  | a :: l, 0, j, u, h => by simp at h
  | a :: l, X + 1, j, u, h => by
    simp only [List.take_succ_cons, List.flatMap_cons] at h ⊢
    rw [List.getElem?_append] at h ⊢
    split at h
    · rename_i hlt; rw [if_pos hlt]; exact h
    · rename_i hlt; rw [if_neg hlt]; exact flat_take enc l X _ u h
theorem flat_drop {α : Type} (enc : α → List Value) (s : Nat) (hs : ∀ x, (enc x).length = s) : ∀ (l : List α) (X j : Nat), ((l.drop X).flatMap enc)[j]? = (l.flatMap enc)[X * s + j]? ∨ l.length < X
  | l, 0, j => by simp
  | [], X + 1, j => by simp
  | a :: l, X + 1, j => by
    simp only [List.drop_succ_cons, List.flatMap_cons, List.length_cons]
    rcases flat_drop enc s hs l X j with h | h
    · left
      rw [h, List.getElem?_append_right (by rw [hs, Nat.add_mul]; omega), hs]
      congr 1
      rw [Nat.add_mul]; omega
    · right; omega
section
variable {α : Type} {enc : α → List Value} {w : World} {A : Option Addr} {c : Nat} {l : List α}
theorem isL_take (hr : Rd w A (l.flatMap enc)) {X : Nat} (hX : X ≤ l.length) (hc : l.length ≤ c) (hm : l.length ≤ maxLen) : IsL enc w (.slice A X c) (l.take X) := by
  have e : (l.take X).length = X := by simp; omega
  refine ⟨A, c, by rw [e], by omega, by omega, ?_⟩
  rcases hr with h | ⟨b, o, hA, hcell⟩
  · left
    apply List.eq_nil_iff_forall_not_mem.2
    intro u hu
    obtain ⟨y, hy, hu⟩ := List.mem_flatMap.1 hu
    have : u ∈ l.flatMap enc := List.mem_flatMap.2 ⟨y, List.mem_of_mem_take hy, hu⟩
    rw [h] at this
    cases this
  · exact .inr ⟨b, o, hA, fun j u hu => hcell j u (flat_take enc l X j u hu)⟩
theorem isL_drop {s : Nat} (hs : ∀ x, (enc x).length = s) (hr : Rd w A (l.flatMap enc)) {X : Nat} (hX : X ≤ l.length) (hc : l.length ≤ c) (hm : l.length ≤ maxLen) :
    IsL enc w (.slice (if c = X then A else A.map fun a => a.add (X * s)) (l.length - X) (c - X)) (l.drop X) := by
  have e : (l.drop X).length = l.length - X := by simp
  refine ⟨_, _, by rw [e], by omega, by omega, ?_⟩
  rcases Nat.lt_or_ge X l.length with hlt | hge
  · rcases hr with h | ⟨b, o, hA, hcell⟩
    · left
      apply List.eq_nil_iff_forall_not_mem.2
      intro u hu
      obtain ⟨y, hy, hu⟩ := List.mem_flatMap.1 hu
      have : u ∈ l.flatMap enc := List.mem_flatMap.2 ⟨y, List.mem_of_mem_drop hy, hu⟩
      rw [h] at this
      cases this
    · subst hA
      refine .inr ⟨b, o + X * s, ?_, fun j u hu => ?_⟩
      · rw [if_neg (by omega)]
        simp [Addr.add_lit]
      · rw [Nat.add_assoc]
        apply hcell
        rcases flat_drop enc s hs l X j with h | h
        · rw [← h]; exact hu
        · omega
  · left
    rw [List.drop_eq_nil_of_le hge]; rfl
end
theorem unN {B n : Nat} {w w' : World} (h : Below B (w.drewN n) w') : Below B w w' := (below_drewN (Below.refl B w) n).trans h
theorem un1 {B : Nat} {w w' : World} (h : Below B w.drew w') : Below B w w' := (Below.refl B w).drew.trans h
section
variable {α : Type} {enc : α → List Value} {e : TypeId} {size base : Nat} {w : World} {v : Value} {l : List α}
theorem OwnL.drew (h : OwnL enc e size w base v l) : OwnL enc e size w.drew base v l := h
theorem OwnL.drewN (h : OwnL enc e size w base v l) (n : Nat) : OwnL enc e size (w.drewN n) base v l := h
theorem IsL.drew (h : IsL enc w v l) : IsL enc w.drew v l := h
theorem IsL.drewN (h : IsL enc w v l) (n : Nat) : IsL enc (w.drewN n) v l := h
theorem Rd.drew {A : Option Addr} {cs : List Value} (h : Rd w A cs) : Rd w.drew A cs := h
end
theorem grownBy_set {w wr : World} {g : Nat} (h : w.grownBy wr (some g)) (i : Nat) (u : Value) : w.grownBy (wr.setCell ⟨g, i, none⟩ u) (some g) :=
  ⟨h.os, h.tape, h.output, by simpa [World.setCell] using h.size, fun k hk hne => (Below.heap_setCell wr ⟨g, i, none⟩ u k (fun e => hne (by rw [e]))).trans (h.block k hk hne)⟩
theorem below_of_grownBy {w w' : World} {row : Option Nat} {B : Nat} (h : w.grownBy w' row) (hB : B ≤ w.heap.size) (hr : ∀ k, row = some k → B ≤ k) : Below B w w' := (Below.refl B w).grown h hB hr

/-- Where the new row lies. -/
def At (w : World) (v v' : Value) : Prop := v'.ownBlock = v.ownBlock ∨ ∀ g, v'.ownBlock = some g → w.heap.size ≤ g
section
variable {P : Program} {t e : TypeId} {size bytes : Nat}
/-- 'append(s, y)' as wpList_app1, and where the new row lies. -/
theorem wpList_app1n (ET : ElemTy P t e size bytes) {α : Type} (enc : α → List Value) (w : World) {ops : Array Oper} {rest : List Oper} {o : Oper} {a : Act} {Q : Exit → Act → World → Prop} (hgd : o.guard = none) (s x : Operand)
    (ho : o.op = .call { callee := .builtin .append, args := #[s, x], argTypes := #[t, t] })
    (base : Nat) (v : Value) (l : List α) (hs : a.eval s = v) (hown : OwnL enc e size w base v l) (y : α) (cs : Array Value) (c : Nat) (hx : a.eval x = .slice (some ⟨w.heap.size, 0, none⟩) 1 c)
    (hcs : cs.toList = enc y) (hlen : (enc y).length = size) (h1 : ∀ u ∈ enc y, u.oneCell' = true)
    (hbytes : (l.length + 1) * bytes ≤ 140737488355328) (h63 : l.length + 1 ≤ maxLen) (hbase : base ≤ w.heap.size)
    (h : ∀ v' w', OwnL enc e size w' base v' (l ++ [y]) → Below base w w' → (w.alloc (.cells cs e)).grownBy w' v.ownBlock → At w v v' → wpList P ops Q rest (a.put o.dst v') w') : wpList P ops Q (o :: rest) a (w.alloc (.cells cs e)) := by
  obtain ⟨i, z, hi, hz, hsz, hby, hzs⟩ := ET.info
  refine wpList_plain hgd fun K hK => ?_
  obtain ⟨v', w', hrun, hown', hg, _, hat⟩ := run_append_own_at (P := P) (w.alloc (.cells cs e)) base t o.type e i z size bytes ET.ht hi hz hsz hby hzs ET.pos v l.length (l.flatMap enc) (World.ownsRow.alloc hown _) ⟨w.heap.size, 0, none⟩ 1 c (enc y) (by omega) (by
    intro j u hu
    rw [Addr.add_lit, cell_of_row _ _ _ cs e (0, 0) (heap_alloc_new w _)]
    rw [← hcs] at hu
    simpa using hu) h1 h63 hbytes (by simp; omega)
  unfold Oper.wp execOp
  simp only [ho, resolve, invoke, builtin, Sem.run_bind, Sem.run_pure, Result.andThen_ok, List.map_toArray, List.map_cons, List.map_nil, hs, hx, hrun]
  refine hK _ _ (h v' w' ?_ ?_ hg ?_)
  · show w'.ownsRow base e size v' (l ++ [y]).length ((l ++ [y]).flatMap enc)
    simpa using hown'
  · exact ((Below.refl base w).alloc hbase _).trans (below_grown (enc := enc) hown hg (by simp; omega))
  · rcases hat with h | h
    · exact .inl h
    · exact .inr fun g hg => by rw [h] at hg; simp at hg; omega
end
/-- Two own rows in different blocks. -/
def Apart (v u : Value) : Prop := ∀ g, v.ownBlock = some g → u.ownBlock ≠ some g
theorem Apart.symm {v u : Value} (h : Apart v u) : Apart u v := fun g hu hv => h g hv hu
theorem Apart.nil (u : Value) : Apart (.slice none 0 0) u := fun g h => by simp [Value.ownBlock] at h
section
variable {α : Type} {enc : α → List Value} {e : TypeId} {size base : Nat} {w w' : World} {v v' u : Value} {l : List α}
theorem OwnL.apart (h : OwnL enc e size w base u l) (ha : Apart v u) (hg : w.grownBy w' v.ownBlock) : OwnL enc e size w' base u l := by
  refine World.ownsRow.kept h hg ?_
  rcases h.2 with ⟨rfl, _⟩ | ⟨g, cap, cur, rfl, hbg, rest⟩
  · exact .inl rfl
  · exact .inr fun e => ha g e.symm rfl
theorem Apart.next (ha : Apart v u) (hat : At w v v') (h : OwnL enc e size w base u l) : Apart v' u := by
  intro g hg hu
  rcases hat with h1 | h1
  · exact ha g (by rw [← h1]; exact hg) hu
  · have h2 := h1 g hg
    have h3 := (World.ownsRow.lt h g hu).2
    omega
end
end Go.Proofs.YtpbanfkjeiihbaaDoor
