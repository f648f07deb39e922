/- The abstract machine: new objects, stores, loads. -/
import Derived.Test.YtmkbnmjhkghdjaaH9
set_option linter.unusedVariables false
set_option linter.unusedSimpArgs false
namespace Go.Proofs.Ytmkbnmjhkghdjaa
open Go.RowKit

theorem look_one {α : Type} (k i : Nat) (x : α) : look k [(i, x)] = if i = k then some x else none := rfl
/-- What a new object says of its cells. -/
def NewR (E : En) (cur : Array Value) (t : TypeId) : AO → Prop
  | .mix cs => RelL E cs cur.toList
  | .data e s cs wr => e = t ∧ wr = true ∧ (∀ (i : Nat) (x : DV), cs[i]? = some x → ∃ u, cur[i]? = some u ∧ RelD E.h E.X x u) ∧ (∃ c, cur.size = c * s ∧ c ≤ maxLen) ∧ 0 < s
  | .dead => False
theorem relC_of {h h' : Array Obj} {X X' : Nat → Prop} (hs : Sub h X h' X') {b : Nat} : ∀ (cs : List DV) (o : Nat), (∀ i x, cs[i]? = some x → ∃ u, cellH h' b (o + i) = some u ∧ RelD h X x u) → RelC h' X' cs b o
  | [], _, _ => by rw [RelC]; trivial
  | x :: cs, o, hc => by
    rw [RelC]
    obtain ⟨u, h1, h2⟩ := hc 0 x rfl
    refine ⟨⟨u, h1, RelD.mono hs x u h2⟩, relC_of hs cs (o + 1) fun i y hy => ?_⟩
    obtain ⟨v, h3, h4⟩ := hc (i + 1) y (by simpa using hy)
    exact ⟨v, by rw [show o + 1 + i = o + (i + 1) from by omega]; exact h3, h4⟩
theorem cellH_cells {h : Array Obj} {b : Nat} {cur : Array Value} {t : TypeId} {fz : Nat × Nat} (e : h[b]? = some (.cells cur t fz)) (o : Nat) : cellH h b o = cur[o]? := by unfold cellH; rw [e]
def newE (E : En) (slot : Nat) (o : AO) (cur : Array Value) (t : TypeId) : En :=
  { m := fun r => if r = slot then some (E.h.size, cur.size) else E.m r, hp := updF E.hp [(slot, o)], X := fun k => E.X k ∨ k = E.h.size, h := E.h.push (.cells cur t) }
theorem new_goes {GL : Nat → Option (List DV)} {E : En} {w w' : World} (hw : w.heap = E.h) (hs : SimH GL E) {slot : Nat} (hn : E.hp slot = none) {o : AO} {cur : Array Value} {t : TypeId} (ho : NewR E cur t o)
    (h1 : w'.heap = w.heap.push (.cells cur t)) (h2 : w'.os = w.os) (h3 : w'.tape = w.tape) (h4 : w'.output = w.output) : Goes GL E w [(slot, o)] (newE E slot o cur t) w' := by
  have hnew : (newE E slot o cur t).h[E.h.size]? = some (.cells cur t) := by simp [newE]
  have hold : ∀ k, k < E.h.size → (newE E slot o cur t).h[k]? = E.h[k]? := fun k hk => by simp only [newE]; rw [Array.getElem?_push, if_neg (by omega)]
  have hhp : ∀ r, r ≠ slot → (newE E slot o cur t).hp r = E.hp r := fun r hr => by simp only [newE, updF, look_one]; rw [if_neg (fun e => hr e.symm)]
  have hm : ∀ r, r ≠ slot → (newE E slot o cur t).m r = E.m r := fun r hr => by simp only [newE]; rw [if_neg hr]
  have hslot : ∀ r ob, E.hp r = some ob → r ≠ slot := fun r ob he e => by rw [e, hn] at he; cases he
  have hblk : ∀ r ob b z, E.hp r = some ob → ob ≠ .dead → E.m r = some (b, z) → b < E.h.size := fun r ob b z he hd hb => by
    have := hs.ob r ob he
    cases ob with
    | dead => exact (hd rfl).elim
    | mix cs => obtain ⟨b', cur', t', g1, g2, _⟩ := this; rw [hb] at g1; cases g1; exact (Array.getElem?_eq_some_iff.1 g2).1
    | data e s cs wr =>
      rcases this with ⟨g1, _⟩ | ⟨b', cur', g1, g2, _⟩
      · rw [hb] at g1; cases g1
      · rw [hb] at g1; cases g1; exact (Array.getElem?_eq_some_iff.1 g2).1
  have hex : Ext E (newE E slot o cur t) := by
    refine ⟨fun b ofs u hx hc => ?_, fun r ob he => ⟨ob, (hhp r (hslot r ob he)).trans he, ob.like_refl, .inr (hm r (hslot r ob he))⟩⟩
    have hlt := cellH_lt hc
    exact ⟨fun hx' => hx'.elim hx (fun e => by omega), by rw [cellH_of (hold b hlt)]; exact hc⟩
  have hmutnew : o.mutB = true := by
    cases o with
    | dead => exact ho.elim
    | mix cs => rfl
    | data e s cs wr => exact ho.2.1
  have hself : ObjR (newE E slot o cur t) slot o := by
    have e1 : (newE E slot o cur t).m slot = some (E.h.size, cur.size) := by simp [newE]
    cases o with
    | dead => exact trivial
    | mix cs => exact ⟨E.h.size, cur, t, e1, hnew, RelL.ext hex _ _ ho, .inr rfl⟩
    | data e s cs wr =>
      obtain ⟨rfl, rfl, g3, g4, g5⟩ := ho
      refine .inr ⟨E.h.size, cur, e1, hnew, relC_of hex.sub cs 0 fun i x hx => ?_, by simp only [if_true]; exact .inr rfl, g4, g5⟩
      obtain ⟨u, k1, k2⟩ := g3 i x hx
      exact ⟨u, by rw [cellH_cells hnew, Nat.zero_add]; exact k1, k2⟩
  have hmm : ∀ r ob, (newE E slot o cur t).hp r = some ob → (r = slot ∧ ob = o) ∨ (r ≠ slot ∧ E.hp r = some ob) := fun r ob he => by
    by_cases hr : r = slot
    · subst hr
      simp only [newE, updF, look_one, if_true, Option.some.injEq] at he
      exact .inl ⟨rfl, he.symm⟩
    · exact .inr ⟨hr, (hhp r hr).symm.trans he⟩
  refine ⟨by rw [h1, hw]; rfl, rfl, hex, ⟨fun r ob he => ?_, fun r r' ob ob' b z z' e1 e2 e3 e4 e5 e6 => ?_, fun g cells hg => ?_⟩, ⟨h2, h3, h4, by rw [h1]; simp, fun k hk _ => ?_, fun k ⟨r, ob, z, e1, e2, e3⟩ => ?_, fun k hk => ?_, fun k _ hx _ => .inl hx⟩⟩
  · rcases hmm r ob he with ⟨rfl, rfl⟩ | ⟨hr, he'⟩
    · exact hself
    · by_cases hd : ob = .dead
      · subst hd; exact trivial
      · refine ObjR.ext hex (hs.ob r ob he') (.inr (hm r hr)) (fun b z hb => hold b (hblk r ob b z he' hd hb)) (fun b z hb => ⟨fun h => h.elim id (fun e => ?_), fun h => .inl h⟩)
        have := hblk r ob b z he' hd hb
        omega
  · have nd : ∀ ob : AO, ob.mutB = true → ob ≠ .dead := fun ob h e => by rw [e] at h; cases h
    rcases hmm r ob e1 with ⟨rfl, rfl⟩ | ⟨hr, e1'⟩
    · rcases hmm r' ob' e2 with ⟨rfl, rfl⟩ | ⟨hr', e2'⟩
      · rfl
      · rw [hm r' hr'] at e6
        have := hblk r' ob' b z' e2' (nd _ e4) e6
        simp only [newE, if_true, Option.some.injEq, Prod.mk.injEq] at e5
        omega
    · rcases hmm r' ob' e2 with ⟨rfl, rfl⟩ | ⟨hr', e2'⟩
      · rw [hm r hr] at e5
        have := hblk r ob b z e1' (nd _ e3) e5
        simp only [newE, if_true, Option.some.injEq, Prod.mk.injEq] at e6
        omega
      · rw [hm r hr] at e5
        rw [hm r' hr'] at e6
        exact hs.inj r r' ob ob' b z z' e1' e2' e3 e4 e5 e6
  · rcases hs.gl g cells hg with g0 | ⟨g1, g2⟩
    · exact .inl g0
    · exact relC_keep hex.sub cells g 0 g1 g2
  · rw [h1, hw]
    exact hold k (by rw [← hw]; exact hk)
  · rcases hmm r ob e1 with ⟨rfl, rfl⟩ | ⟨hr, e1'⟩
    · simp only [newE, if_true, Option.some.injEq, Prod.mk.injEq] at e3
      exact .inr (by rw [hw]; omega)
    · rw [hm r hr] at e3
      exact .inl ⟨r, ob, z, e1', e2, e3⟩
  · rcases hk with hk | hk
    · exact .inl hk
    · exact .inr (by rw [hw]; omega)

/-! ### stores -/
/-- What an object says of its cells behind a store. -/
def SetR (E : En) (cur : Array Value) : AO → Prop
  | .mix cs => RelL E cs cur.toList
  | .data e s cs wr => wr = true ∧ (∀ (i : Nat) (x : DV), cs[i]? = some x → ∃ u, cur[i]? = some u ∧ RelD E.h E.X x u)
  | .dead => False
def setE (E : En) (r : Nat) (o : AO) (h' : Array Obj) : En := { E with hp := updF E.hp [(r, o)], h := h' }
theorem set_goes {GL : Nat → Option (List DV)} {E : En} {w w' : World} (hw : w.heap = E.h) (hs : SimH GL E) {r b z : Nat} {o o' : AO} (hr : E.hp r = some o) (hmu : o.mutB = true) (hmr : E.m r = some (b, z)) (hl : o.like o')
    {cur cur' : Array Value} {t : TypeId} (hb : E.h[b]? = some (.cells cur t)) (hsz : cur'.size = cur.size) (ho : SetR E cur' o') (hb' : w'.heap[b]? = some (.cells cur' t)) (hoth : ∀ k, k ≠ b → w'.heap[k]? = w.heap[k]?)
    (hsize : w'.heap.size = w.heap.size) (h2 : w'.os = w.os) (h3 : w'.tape = w.tape) (h4 : w'.output = w.output) : Goes GL E w [(r, o')] (setE E r o' w'.heap) w' := by
  have hself := hs.ob r o hr
  have hXb : E.X b := by
    cases o with
    | dead => cases hmu
    | mix cs => obtain ⟨b', cur0, t0, g1, g2, g3, g4⟩ := hself; rw [hmr] at g1; cases g1; exact g4
    | data e s cs wr =>
      rcases hself with ⟨g1, _⟩ | ⟨b', cur0, g1, g2, g3, g4, _⟩
      · rw [hmr] at g1; cases g1
      · rw [hmr] at g1; cases g1
        have : wr = true := hmu
        subst this
        simpa using g4
  have hz : z = cur.size := by
    cases o with
    | dead => cases hmu
    | mix cs => obtain ⟨b', cur0, t0, g1, g2, g3, g4⟩ := hself; rw [hmr] at g1; cases g1; rw [hb] at g2; cases g2; rfl
    | data e s cs wr =>
      rcases hself with ⟨g1, _⟩ | ⟨b', cur0, g1, g2, g3, g4, _⟩
      · rw [hmr] at g1; cases g1
      · rw [hmr] at g1; cases g1; rw [hb] at g2; cases g2; rfl
  have hothE : ∀ k, k ≠ b → (setE E r o' w'.heap).h[k]? = E.h[k]? := fun k hk => by rw [← hw]; exact hoth k hk
  have hhp : ∀ q, q ≠ r → (setE E r o' w'.heap).hp q = E.hp q := fun q hq => by simp only [setE, updF, look_one]; rw [if_neg (fun e => hq e.symm)]
  have hhr : (setE E r o' w'.heap).hp r = some o' := by simp [setE, updF, look_one]
  have hnd : o' ≠ .dead := fun e => by rw [e] at ho; exact ho
  have hex : Ext E (setE E r o' w'.heap) := by
    refine ⟨fun k ofs u hx hc => ⟨hx, ?_⟩, fun q ob he => ?_⟩
    · have : k ≠ b := fun e => hx (by rw [e]; exact hXb)
      rw [cellH_of (hothE k this)]; exact hc
    · by_cases hq : q = r
      · subst hq
        rw [hr] at he; cases he
        exact ⟨o', hhr, hl, .inr rfl⟩
      · exact ⟨ob, (hhp q hq).trans he, ob.like_refl, .inr rfl⟩
  have hmu' : o'.mutB = true := by
    cases o' with
    | dead => exact ho.elim
    | mix cs => rfl
    | data e s cs wr => exact ho.1
  have hmm : ∀ q ob, (setE E r o' w'.heap).hp q = some ob → (q = r ∧ ob = o') ∨ (q ≠ r ∧ E.hp q = some ob) := fun q ob he => by
    by_cases hq : q = r
    · subst hq; rw [hhr] at he; cases he; exact .inl ⟨rfl, rfl⟩
    · exact .inr ⟨hq, (hhp q hq).symm.trans he⟩
  have hbne : ∀ q ob b' z', q ≠ r → E.hp q = some ob → ob ≠ .dead → E.m q = some (b', z') → b' ≠ b := fun q ob b' z' hq he hd hb2 e => by
    subst e
    by_cases hm2 : ob.mutB = true
    · exact hq (hs.inj q r ob o b' z' z he hr hm2 hmu hb2 hmr)
    · have := hs.ob q ob he
      cases ob with
      | dead => exact hd rfl
      | mix cs => exact hm2 rfl
      | data e s cs wr =>
        cases wr with
        | true => exact hm2 rfl
        | false =>
          rcases this with ⟨g1, _⟩ | ⟨b1, cur1, g1, g2, g3, g4, _⟩
          · rw [hb2] at g1; cases g1
          · rw [hb2] at g1; cases g1; simp only [Bool.false_eq_true, if_false] at g4; exact g4 hXb
  refine ⟨rfl, rfl, hex, ⟨fun q ob he => ?_, fun q q' ob ob' b1 z1 z2 e1 e2 e3 e4 e5 e6 => ?_, fun g cells hg => ?_⟩, ⟨h2, h3, h4, by omega, fun k hk hm => ?_, fun k ⟨q, ob, z1, e1, e2, e3⟩ => ?_, fun k hk => .inl hk, fun k _ hx _ => hx⟩⟩
  · rcases hmm q ob he with ⟨rfl, rfl⟩ | ⟨hq, he'⟩
    · cases ob with
      | dead => exact trivial
      | mix cs => exact ⟨b, cur', t, by rw [show (setE E q (.mix cs) w'.heap).m q = E.m q from rfl, hmr, hz, hsz], hb', RelL.ext hex _ _ ho, hXb⟩
      | data e s cs wr =>
        obtain ⟨rfl, ho2⟩ := ho
        cases o with
        | dead => cases hmu
        | mix cs => exact hl.elim
        | data e0 s0 cs0 wr0 =>
          obtain ⟨rfl, rfl⟩ := hl
          rcases hself with ⟨g1, _⟩ | ⟨b', cur0, g1, g2, g3, g4, g5, g6⟩
          · rw [hmr] at g1; cases g1
          · rw [hmr] at g1; cases g1
            rw [hb] at g2; cases g2
            refine .inr ⟨b, cur', by rw [hsz]; exact hmr, hb', relC_of hex.sub cs 0 fun i x hx => ?_, by simp only [if_true]; exact hXb, by rw [hsz]; exact g5, g6⟩
            obtain ⟨u, k1, k2⟩ := ho2 i x hx
            exact ⟨u, by rw [Nat.zero_add]; exact (cellH_cells hb' i).trans k1, k2⟩
    · by_cases hd : ob = .dead
      · subst hd; exact trivial
      · exact ObjR.ext hex (hs.ob q ob he') (.inr rfl) (fun b' z' hb2 => hothE b' (hbne q ob b' z' hq he' hd hb2)) (fun b' z' hb2 => Iff.rfl)
  · rcases hmm q ob e1 with ⟨rfl, rfl⟩ | ⟨hq, e1'⟩
    · rcases hmm q' ob' e2 with ⟨rfl, rfl⟩ | ⟨hq', e2'⟩
      · rfl
      · exact hs.inj q q' o ob' b1 z1 z2 hr e2' hmu e4 e5 e6
    · rcases hmm q' ob' e2 with ⟨rfl, rfl⟩ | ⟨hq', e2'⟩
      · exact hs.inj q q' ob o b1 z1 z2 e1' hr e3 hmu e5 e6
      · exact hs.inj q q' ob ob' b1 z1 z2 e1' e2' e3 e4 e5 e6
  · rcases hs.gl g cells hg with g0 | ⟨g1, g2⟩
    · exact .inl g0
    · exact relC_keep hex.sub cells g 0 g1 g2
  · exact hoth k (fun e => hm (by subst e; exact ⟨r, o, z, hr, hmu, hmr⟩))
  · rcases hmm q ob e1 with ⟨rfl, rfl⟩ | ⟨hq, e1'⟩
    · exact .inl ⟨q, o, z1, hr, hmu, e3⟩
    · exact .inl ⟨q, ob, z1, e1', e2, e3⟩

/-- An object is used up. -/
def killE (E : En) (r : Nat) : En := { E with hp := updF E.hp [(r, .dead)] }
theorem kill_goes {GL : Nat → Option (List DV)} {E : En} {w : World} (hw : w.heap = E.h) (hs : SimH GL E) {r : Nat} {o : AO} (hr : E.hp r = some o) : Goes GL E w [(r, .dead)] (killE E r) w := by
  have hhp : ∀ q, q ≠ r → (killE E r).hp q = E.hp q := fun q hq => by simp only [killE, updF, look_one]; rw [if_neg (fun e => hq e.symm)]
  have hhr : (killE E r).hp r = some .dead := by simp [killE, updF, look_one]
  have hex : Ext E (killE E r) := by
    refine ⟨Sub.refl _ _, fun q ob he => ?_⟩
    by_cases hq : q = r
    · subst hq; exact ⟨.dead, hhr, by cases ob <;> exact trivial, .inl rfl⟩
    · exact ⟨ob, (hhp q hq).trans he, ob.like_refl, .inr rfl⟩
  have hmm : ∀ q ob, (killE E r).hp q = some ob → ob ≠ .dead → q ≠ r ∧ E.hp q = some ob := fun q ob he hd => by
    by_cases hq : q = r
    · subst hq; rw [hhr] at he; cases he; exact (hd rfl).elim
    · exact ⟨hq, (hhp q hq).symm.trans he⟩
  have nd : ∀ ob : AO, ob.mutB = true → ob ≠ .dead := fun ob h e => by rw [e] at h; cases h
  refine ⟨hw, rfl, hex, ⟨fun q ob he => ?_, fun q q' ob ob' b1 z1 z2 e1 e2 e3 e4 e5 e6 => ?_, fun g cells hg => hs.gl g cells hg⟩, ⟨rfl, rfl, rfl, Nat.le_refl _, fun _ _ _ => rfl, fun k ⟨q, ob, z1, e1, e2, e3⟩ => ?_, fun k hk => .inl hk, fun k _ hx _ => hx⟩⟩
  · by_cases hd : ob = .dead
    · subst hd; exact trivial
    · obtain ⟨hq, he'⟩ := hmm q ob he hd
      exact ObjR.ext hex (hs.ob q ob he') (.inr rfl) (fun _ _ _ => rfl) (fun _ _ _ => Iff.rfl)
  · exact hs.inj q q' ob ob' b1 z1 z2 (hmm q ob e1 (nd _ e3)).2 (hmm q' ob' e2 (nd _ e4)).2 e3 e4 e5 e6
  · exact .inl ⟨q, ob, z1, (hmm q ob e1 (nd _ e2)).2, e2, e3⟩
/-- A row goes on under a new name. -/
def moveE (E : En) (r slot : Nat) (o : AO) : En := { E with m := fun q => if q = slot then E.m r else E.m q, hp := updF E.hp [(slot, o), (r, .dead)] }
theorem move_goes {GL : Nat → Option (List DV)} {E : En} {w : World} (hw : w.heap = E.h) (hs : SimH GL E) {r slot : Nat} {o : AO} (hr : E.hp r = some o) (hn : E.hp slot = none) : Goes GL E w [(slot, o), (r, .dead)] (moveE E r slot o) w := by
  have hne : r ≠ slot := fun e => by rw [e, hn] at hr; cases hr
  have h1 : (moveE E r slot o).hp slot = some o := by simp [moveE, updF, look]
  have h2 : (moveE E r slot o).hp r = some .dead := by simp [moveE, updF, look, Ne.symm hne]
  have h3 : ∀ q, q ≠ r → q ≠ slot → (moveE E r slot o).hp q = E.hp q := fun q a b => by simp [moveE, updF, look, Ne.symm a, Ne.symm b]
  have m1 : (moveE E r slot o).m slot = E.m r := by simp [moveE]
  have m2 : ∀ q, q ≠ slot → (moveE E r slot o).m q = E.m q := fun q a => by simp [moveE, a]
  have hex : Ext E (moveE E r slot o) := by
    refine ⟨Sub.refl _ _, fun q ob he => ?_⟩
    have hqs : q ≠ slot := fun e => by rw [e, hn] at he; cases he
    by_cases hq : q = r
    · subst hq; exact ⟨.dead, h2, by cases ob <;> exact trivial, .inl rfl⟩
    · exact ⟨ob, (h3 q hq hqs).trans he, ob.like_refl, .inr (m2 q hqs)⟩
  have hmm : ∀ q ob, (moveE E r slot o).hp q = some ob → ob ≠ .dead → ∃ p, E.hp p = some ob ∧ (moveE E r slot o).m q = E.m p ∧ (q = slot ∧ p = r ∨ q ≠ slot ∧ p = q ∧ p ≠ r) := fun q ob he hd => by
    by_cases hq : q = slot
    · subst hq; rw [h1] at he; cases he; exact ⟨r, hr, m1, .inl ⟨rfl, rfl⟩⟩
    · by_cases hqr : q = r
      · subst hqr; rw [h2] at he; cases he; exact (hd rfl).elim
      · exact ⟨q, (h3 q hqr hq).symm.trans he, m2 q hq, .inr ⟨hq, rfl, hqr⟩⟩
  have nd : ∀ ob : AO, ob.mutB = true → ob ≠ .dead := fun ob h e => by rw [e] at h; cases h
  refine ⟨hw, rfl, hex, ⟨fun q ob he => ?_, fun q q' ob ob' b1 z1 z2 e1 e2 e3 e4 e5 e6 => ?_, fun g cells hg => hs.gl g cells hg⟩, ⟨rfl, rfl, rfl, Nat.le_refl _, fun _ _ _ => rfl, fun k ⟨q, ob, z1, e1, e2, e3⟩ => ?_, fun k hk => .inl hk, fun k _ hx _ => hx⟩⟩
  · by_cases hd : ob = .dead
    · subst hd; exact trivial
    · obtain ⟨p, g1, g2, g3⟩ := hmm q ob he hd
      have := hs.ob p ob g1
      cases ob with
      | dead => exact trivial
      | mix cs => obtain ⟨b, cur, t, k1, k2, k3, k4⟩ := this; exact ⟨b, cur, t, g2.trans k1, k2, RelL.ext hex _ _ k3, k4⟩
      | data e s cs wr =>
        rcases this with ⟨k1, k2⟩ | ⟨b, cur, k1, k2⟩
        · exact .inl ⟨g2.trans k1, k2⟩
        · exact .inr ⟨b, cur, g2.trans k1, k2⟩
  · obtain ⟨p, g1, g2, g3⟩ := hmm q ob e1 (nd _ e3)
    obtain ⟨p', g1', g2', g3'⟩ := hmm q' ob' e2 (nd _ e4)
    rw [g2] at e5
    rw [g2'] at e6
    have := hs.inj p p' ob ob' b1 z1 z2 g1 g1' e3 e4 e5 e6
    subst this
    rcases g3 with ⟨rfl, rfl⟩ | ⟨a, rfl, c⟩
    · rcases g3' with ⟨rfl, _⟩ | ⟨_, rfl, c'⟩
      · rfl
      · exact (c' rfl).elim
    · rcases g3' with ⟨rfl, rfl⟩ | ⟨_, e, _⟩
      · exact (c rfl).elim
      · exact e
  · obtain ⟨p, g1, g2, g3⟩ := hmm q ob e1 (nd _ e2)
    exact .inl ⟨p, ob, z1, g1, e2, g2.symm.trans e3⟩

/-! ### loads -/
theorem takeD_sim {E : En} {b o : Nat} {cs : List DV} (hc : RelC E.h E.X cs b o) : ∀ (n off : Nat) (l : List AV), takeD cs off n = some l → ∃ us : List Value, us.length = n ∧ (∀ j v, us[j]? = some v → cellH E.h b (o + off + j) = some v) ∧ RelL E l us
  | 0, off, l, h => by
    simp only [takeD, Option.some.injEq] at h
    subst h
    exact ⟨[], rfl, fun j v hv => by simp at hv, by rw [RelL]⟩
  | n + 1, off, l, h => by
    simp only [takeD] at h
    split at h
    · rename_i x l' h1 h2
      simp only [Option.some.injEq] at h
      subst h
      obtain ⟨us, g1, g2, g3⟩ := takeD_sim hc n (off + 1) l' h2
      obtain ⟨u, k1, k2⟩ := relC_get cs b o off x hc h1
      refine ⟨u :: us, by simp [g1], fun j v hv => ?_, by rw [RelL]; exact ⟨u, us, rfl, by rw [Rel]; exact k2, g3⟩⟩
      cases j with
      | zero => simp at hv; subst hv; exact k1
      | succ j =>
        have := g2 j v (by simpa using hv)
        rw [show o + off + (j + 1) = o + (off + 1) + j from by omega]
        exact this
    · cases h
section
variable {P : Program} {E : En} {w : World}
theorem loadVar_agg {t : Nat} {i : TI} (ht : tiOf P t = some i) (ha : i.k.isAgg = true) {b o : Nat} {us : List Value} (hl : us.length = i.size) (hc : ∀ j v, us[j]? = some v → cellH w.heap b (o + j) = some v) :
    (Instr.loadAt t (.pointer (some ⟨b, o, none⟩))).run P w = .ok (.agg us.toArray) w := by
  have h1 := run_loadCells_list (P := P) w ⟨b, o, none⟩ us (fun j v hv => by rw [addr_add, cell_eq]; exact hc j v hv)
  rw [hl] at h1
  simp only [Instr.loadAt, Instr.sureAddr, Sem.run_bind, Sem.run_pure, Result.andThen_ok, loadVar, run_isAgg ht, ha, if_true, run_sizeOf ht, h1]
theorem loadVar_one {t : Nat} {i : TI} (ht : tiOf P t = some i) (ha : i.k.isAgg = false) {b o : Nat} {u : Value} (hc : cellH w.heap b o = some u) :
    (Instr.loadAt t (.pointer (some ⟨b, o, none⟩))).run P w = .ok u w := by
  have h1 : (load ⟨b, o, none⟩).run P w = .ok u w := by simp [go_sem, cell_eq, hc]
  simp only [Instr.loadAt, Instr.sureAddr, Sem.run_bind, Sem.run_pure, Result.andThen_ok, loadVar, run_isAgg ht, ha, Bool.false_eq_true, if_false, h1]
theorem loadD_sim (hw : w.heap = E.h) {t : Nat} {i : TI} (ht : tiOf P t = some i) {b o : Nat} {cs : List DV} (hc : RelC E.h E.X cs b o) {off : Nat} {v : AV} (h : loadD i cs off = some v) :
    ∃ u, (Instr.loadAt t (.pointer (some ⟨b, o + off, none⟩))).run P w = .ok u w ∧ Rel E v u := by
  unfold loadD at h
  split at h
  · rename_i ha
    simp only [Option.map_eq_some_iff] at h
    obtain ⟨l, hl, rfl⟩ := h
    obtain ⟨us, g1, g2, g3⟩ := takeD_sim hc _ _ _ hl
    exact ⟨_, loadVar_agg ht ha g1 (by rw [hw]; exact g2), by rw [Rel]; exact ⟨_, rfl, g3⟩⟩
  · rename_i ha
    simp only [Option.map_eq_some_iff] at h
    obtain ⟨x, hx, rfl⟩ := h
    obtain ⟨u, k1, k2⟩ := relC_get cs b o off x hc hx
    exact ⟨u, loadVar_one ht (by simpa using ha) (by rw [hw]; exact k1), by rw [Rel]; exact k2⟩
theorem loadM_sim (hw : w.heap = E.h) {t : Nat} {i : TI} (ht : tiOf P t = some i) {b : Nat} {cur : Array Value} {t0 : TypeId} (hb : E.h[b]? = some (.cells cur t0)) {cs : List AV} (hc : RelL E cs cur.toList) {off : Nat} {v : AV} (h : partA i cs off = some v) :
    ∃ u, (Instr.loadAt t (.pointer (some ⟨b, off, none⟩))).run P w = .ok u w ∧ Rel E v u := by
  have hlen := relL_length _ _ hc
  unfold partA at h
  split at h
  · rename_i ha
    split at h
    · rename_i hl
      simp only [Option.some.injEq] at h
      subst h
      have g3 := relL_take i.size _ _ (relL_drop off _ _ hc)
      refine ⟨_, loadVar_agg (us := (cur.toList.drop off).take i.size) ht ha (by rw [List.length_take, List.length_drop]; omega) (fun j u hu => ?_), by rw [Rel]; exact ⟨_, rfl, g3⟩⟩
      rw [hw, cellH_cells hb]
      rw [List.getElem?_take] at hu
      split at hu
      · rw [List.getElem?_drop] at hu
        simpa using hu
      · cases hu
    · cases h
  · rename_i ha
    obtain ⟨u, hu, hr⟩ := relL_get _ _ _ _ hc h
    refine ⟨u, loadVar_one ht (by simpa using ha) ?_, hr⟩
    rw [hw, cellH_cells hb]
    simpa using hu
end
end Go.Proofs.Ytmkbnmjhkghdjaa
