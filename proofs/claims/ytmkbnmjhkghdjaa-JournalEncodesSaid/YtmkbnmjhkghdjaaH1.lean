/- The abstract machine: values, objects, and what they stand for in a world. -/
import Derived.Below
import Derived.Orders
import Derived.Laws.AppendOwn
set_option linter.unusedVariables false
set_option linter.unusedSimpArgs false
namespace Go.Proofs.Ytmkbnmjhkghdjaa
open Go.RowKit

/-- Data: a value of one cell without an address, or a slice by what it holds (cells, elements, capacity if known). -/
inductive DV where
  | val (v : Value)
  | dl (cells : List DV) (n : Nat) (cap : Option Nat)
/-- What a temporary holds: data; an address in an object of the call's own; a slice of one; an address in data; a struct or an array; several results; a function value; nothing yet; whatever. -/
inductive AV where
  | d (x : DV)
  | ptr (r off : Nat)
  | sl (r off n : Nat) (cap : Option Nat)
  | dptr (cells : List DV) (off : Nat)
  | agg (cs : List AV)
  | tup (vs : List AV)
  | clo (f : FuncId) (caps : List AV)
  | undef
  | ab
  | junk
/-- An object of the call's own: a row of data (element type, cells an element; may it be written?), a variable, one that is used up. -/
inductive AO where
  | data (e size : Nat) (cs : List DV) (wr : Bool)
  | mix (cs : List AV)
  | dead

instance : Inhabited DV := ⟨.val (.bool false)⟩
instance : Inhabited AV := ⟨.junk⟩

def AO.mutB : AO → Bool
  | .data _ _ _ m => m
  | .mix _ => true
  | .dead => false
/-- The same kind of object, or used up since. -/
def AO.like : AO → AO → Prop
  | .data e s _ _, .data e' s' _ _ => e = e' ∧ s = s'
  | .mix _, .mix _ => True
  | _, .dead => True
  | _, _ => False
theorem AO.like_refl (o : AO) : o.like o := by cases o <;> simp [AO.like]
theorem AO.like_trans {a b c : AO} (h : a.like b) (k : b.like c) : a.like c := by
  cases a <;> cases b <;> cases c <;> simp_all [AO.like]

def cellH (h : Array Obj) (b o : Nat) : Option Value :=
  match h[b]? with
  | some (.cells c _ _) => c[o]?
  | _ => none
theorem cell_eq (w : World) (b o : Nat) : w.cell? ⟨b, o, none⟩ = cellH w.heap b o := by
  unfold World.cell? cellH
  simp only [Option.isSome_none, Bool.false_eq_true, if_false]
  split <;> rename_i h1 <;> split <;> rename_i h2 <;> simp_all
theorem cellH_lt {h : Array Obj} {b o : Nat} {u : Value} (hc : cellH h b o = some u) : b < h.size := by
  unfold cellH at hc
  rcases Nat.lt_or_ge b h.size with hb | hb
  · exact hb
  · rw [Array.getElem?_eq_none hb] at hc
    cases hc

mutual
/-- A value is this data: blocks of X may be written, so no data lies in them. -/
def RelD (h : Array Obj) (X : Nat → Prop) : DV → Value → Prop
  | .val v, u => u = v ∧ v.oneCell' = true
  | .dl cells n cap, u => ∃ A c, u = .slice A n c ∧ n ≤ c ∧ c ≤ maxLen ∧ (∀ k, cap = some k → c = k) ∧ (cells = [] ∨ ∃ b o, A = some ⟨b, o, none⟩ ∧ ¬ X b ∧ RelC h X cells b o)
def RelC (h : Array Obj) (X : Nat → Prop) : List DV → Nat → Nat → Prop
  | [], _, _ => True
  | x :: xs, b, o => (∃ u, cellH h b o = some u ∧ RelD h X x u) ∧ RelC h X xs b (o + 1)
end

structure En where
  m : Nat → Option (Nat × Nat)
  hp : Nat → Option AO
  X : Nat → Prop
  h : Array Obj

mutual
def Rel (E : En) : AV → Value → Prop
  | .d x, u => RelD E.h E.X x u
  | .ptr r off, u => match E.hp r with
    | none => False
    | some .dead => True
    | some _ => ∃ b z, E.m r = some (b, z) ∧ u = .pointer (some ⟨b, off, none⟩)
  | .sl r off n cap, u => match E.hp r with
    | none => False
    | some .dead => True
    | some (.mix _) => ∃ b z c, E.m r = some (b, z) ∧ u = .slice (some ⟨b, off, none⟩) n c ∧ cap = some c ∧ n ≤ c ∧ c ≤ maxLen
    | some (.data _ s _ _) => (n = 0 ∧ (cap = none ∨ cap = some 0) ∧ (cap = none → off = 0 → ∀ b z, E.m r = some (b, z) → z = 0) ∧ ∃ A, u = .slice A 0 0) ∨
        ∃ b z c, E.m r = some (b, z) ∧ u = .slice (some ⟨b, off, none⟩) n c ∧ n ≤ c ∧ c ≤ maxLen ∧ off + c * s ≤ z ∧ (match cap with | some k => c = k | none => off + c * s = z)
  | .dptr cells off, u => ∃ b o, u = .pointer (some ⟨b, o + off, none⟩) ∧ (cells = [] ∨ (¬ E.X b ∧ RelC E.h E.X cells b o))
  | .agg cs, u => ∃ vs, u = .agg vs ∧ RelL E cs vs.toList
  | .tup cs, u => ∃ vs, u = .tuple vs ∧ RelL E cs vs.toList
  | .clo f caps, u => ∃ vs : Array Value × Array Value, (u = .func (.func (f % 1048576)) vs.1 vs.2 ∧ vs.1.size = f / 1048576) ∧ RelL E caps (vs.1.toList ++ vs.2.toList)
  | .undef, u => u = undef
  | .ab, u => ∃ b, u = .bool b
  | .junk, _ => True
def RelL (E : En) : List AV → List Value → Prop
  | [], vs => vs = []
  | x :: xs, vs => ∃ v vs', vs = v :: vs' ∧ Rel E x v ∧ RelL E xs vs'
end

/-- What holds of an object. -/
def ObjR (E : En) (r : Nat) : AO → Prop
  | .data e s cs mt => (E.m r = none ∧ cs = []) ∨
      ∃ b cur, E.m r = some (b, cur.size) ∧ E.h[b]? = some (.cells cur e (0, 0)) ∧ RelC E.h E.X cs b 0 ∧ (if mt then E.X b else ¬ E.X b) ∧ (∃ c, cur.size = c * s ∧ c ≤ maxLen) ∧ 0 < s
  | .mix cs => ∃ b cur t, E.m r = some (b, cur.size) ∧ E.h[b]? = some (.cells cur t (0, 0)) ∧ RelL E cs cur.toList ∧ E.X b
  | .dead => True
structure SimH (GL : Nat → Option (List DV)) (E : En) : Prop where
  ob : ∀ r o, E.hp r = some o → ObjR E r o
  inj : ∀ r r' o o' b z z', E.hp r = some o → E.hp r' = some o' → o.mutB = true → o'.mutB = true → E.m r = some (b, z) → E.m r' = some (b, z') → r = r'
  gl : ∀ g cells, GL g = some cells → cells = [] ∨ (¬ E.X g ∧ RelC E.h E.X cells g 0)

/-- Data stays. -/
def Sub (h : Array Obj) (X : Nat → Prop) (h' : Array Obj) (X' : Nat → Prop) : Prop := ∀ b o u, ¬ X b → cellH h b o = some u → ¬ X' b ∧ cellH h' b o = some u
theorem Sub.refl (h : Array Obj) (X : Nat → Prop) : Sub h X h X := fun _ _ _ a b => ⟨a, b⟩
theorem Sub.trans {h h' h'' : Array Obj} {X X' X'' : Nat → Prop} (a : Sub h X h' X') (b : Sub h' X' h'' X'') : Sub h X h'' X'' := fun k o u hx hc => let ⟨p, q⟩ := a k o u hx hc; b k o u p q

theorem relC_x {h : Array Obj} {X : Nat → Prop} {h' : Array Obj} {X' : Nat → Prop} (hs : Sub h X h' X') :
    ∀ (cells : List DV) (b o : Nat), cells ≠ [] → ¬ X b → RelC h X cells b o → ¬ X' b
  | [], _, _, hn, _, _ => absurd rfl hn
  | x :: xs, b, o, _, hx, hr => by
    rw [RelC] at hr
    obtain ⟨⟨u, hc, _⟩, _⟩ := hr
    exact (hs b o u hx hc).1
mutual
theorem RelD.mono {h : Array Obj} {X : Nat → Prop} {h' : Array Obj} {X' : Nat → Prop} (hs : Sub h X h' X') : ∀ (x : DV) (u : Value), RelD h X x u → RelD h' X' x u
  | .val v, u, hr => by rw [RelD] at hr ⊢; exact hr
  | .dl cells n cap, u, hr => by
    rw [RelD] at hr ⊢
    obtain ⟨A, c, h1, h2, h3, h4, h5⟩ := hr
    refine ⟨A, c, h1, h2, h3, h4, ?_⟩
    rcases h5 with h5 | ⟨b, o, h5, h6, h7⟩
    · exact .inl h5
    · by_cases hn : cells = []
      · exact .inl hn
      · exact .inr ⟨b, o, h5, relC_x hs cells b o hn h6 h7, RelC.mono hs cells b o h6 h7⟩
theorem RelC.mono {h : Array Obj} {X : Nat → Prop} {h' : Array Obj} {X' : Nat → Prop} (hs : Sub h X h' X') : ∀ (cells : List DV) (b o : Nat), ¬ X b → RelC h X cells b o → RelC h' X' cells b o
  | [], _, _, _, _ => by rw [RelC]; trivial
  | x :: xs, b, o, hx, hr => by
    rw [RelC] at hr ⊢
    obtain ⟨⟨u, hc, hd⟩, hr⟩ := hr
    exact ⟨⟨u, (hs b o u hx hc).2, RelD.mono hs x u hd⟩, RelC.mono hs xs b (o + 1) hx hr⟩
end

/-- The state has gone on: data stays; objects stay where they are, or are used up. -/
structure Ext (E E' : En) : Prop where
  sub : Sub E.h E.X E'.h E'.X
  ob : ∀ r o, E.hp r = some o → ∃ o', E'.hp r = some o' ∧ o.like o' ∧ (o' = .dead ∨ E'.m r = E.m r)
theorem Ext.refl (E : En) : Ext E E := ⟨Sub.refl _ _, fun r o h => ⟨o, h, o.like_refl, .inr rfl⟩⟩
theorem Ext.trans {a b c : En} (h : Ext a b) (k : Ext b c) : Ext a c := by
  refine ⟨h.sub.trans k.sub, fun r o ho => ?_⟩
  obtain ⟨o', h1, h2, h3⟩ := h.ob r o ho
  obtain ⟨o'', k1, k2, k3⟩ := k.ob r o' h1
  refine ⟨o'', k1, AO.like_trans h2 k2, ?_⟩
  rcases k3 with k3 | k3
  · exact .inl k3
  · rcases h3 with h3 | h3
    · subst h3
      cases o'' <;> simp [AO.like] at k2
      exact .inl rfl
    · exact .inr (k3.trans h3)
theorem relC_keep {E E' : En} (hs : Sub E.h E.X E'.h E'.X) (cells : List DV) (b o : Nat) (h6 : ¬ E.X b) (h7 : RelC E.h E.X cells b o) : cells = [] ∨ (¬ E'.X b ∧ RelC E'.h E'.X cells b o) := by
  by_cases hn : cells = []
  · exact .inl hn
  · exact .inr ⟨relC_x hs cells b o hn h6 h7, RelC.mono hs cells b o h6 h7⟩
mutual
theorem Rel.ext {E E' : En} (he : Ext E E') : ∀ (x : AV) (u : Value), Rel E x u → Rel E' x u
  | .d x, u, hr => by rw [Rel] at hr ⊢; exact RelD.mono he.sub x u hr
  | .ptr r off, u, hr => by
    rw [Rel] at hr ⊢
    cases ho : E.hp r with
    | none => rw [ho] at hr; exact hr.elim
    | some o =>
      obtain ⟨o', h1, h2, h3⟩ := he.ob r o ho
      rw [ho] at hr
      rw [h1]
      cases o' with
      | dead => trivial
      | _ =>
        cases o <;> simp [AO.like] at h2 <;> simp at h3 <;> simp only at hr ⊢ <;> rw [h3] <;> exact hr
  | .sl r off n cap, u, hr => by
    rw [Rel] at hr ⊢
    cases ho : E.hp r with
    | none => rw [ho] at hr; exact hr.elim
    | some o =>
      obtain ⟨o', h1, h2, h3⟩ := he.ob r o ho
      rw [ho] at hr
      rw [h1]
      cases o' with
      | dead => trivial
      | mix cs' =>
        cases o <;> simp [AO.like] at h2
        simp at h3
        simp only at hr ⊢
        rw [h3]
        exact hr
      | data e' s' cs' mt' =>
        cases o <;> simp [AO.like] at h2
        obtain ⟨rfl, rfl⟩ := h2
        simp at h3
        simp only at hr ⊢
        rw [h3]
        exact hr
  | .dptr cells off, u, hr => by
    rw [Rel] at hr ⊢
    obtain ⟨b, o, h1, h2⟩ := hr
    refine ⟨b, o, h1, ?_⟩
    rcases h2 with h2 | ⟨h2, h3⟩
    · exact .inl h2
    · exact relC_keep he.sub cells b o h2 h3
  | .agg cs, u, hr => by
    rw [Rel] at hr ⊢
    obtain ⟨vs, h1, h2⟩ := hr
    exact ⟨vs, h1, RelL.ext he cs _ h2⟩
  | .tup cs, u, hr => by
    rw [Rel] at hr ⊢
    obtain ⟨vs, h1, h2⟩ := hr
    exact ⟨vs, h1, RelL.ext he cs _ h2⟩
  | .clo f cs, u, hr => by
    rw [Rel] at hr ⊢
    obtain ⟨vs, h1, h2⟩ := hr
    exact ⟨vs, h1, RelL.ext he cs _ h2⟩
  | .undef, u, hr => by rw [Rel] at hr ⊢; exact hr
  | .ab, u, hr => by rw [Rel] at hr ⊢; exact hr
  | .junk, u, hr => by rw [Rel]; trivial
theorem RelL.ext {E E' : En} (he : Ext E E') : ∀ (xs : List AV) (vs : List Value), RelL E xs vs → RelL E' xs vs
  | [], vs, hr => by rw [RelL] at hr ⊢; exact hr
  | x :: xs, vs, hr => by
    rw [RelL] at hr ⊢
    obtain ⟨v, vs', h1, h2, h3⟩ := hr
    exact ⟨v, vs', h1, Rel.ext he x v h2, RelL.ext he xs vs' h3⟩
end
end Go.Proofs.Ytmkbnmjhkghdjaa
