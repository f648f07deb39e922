/- The abstract machine: how a state goes on: rows no longer to be written, new objects, stores. -/
import Derived.Test.YtmkbnmjhkghdjaaH8
set_option linter.unusedVariables false
set_option linter.unusedSimpArgs false
namespace Go.Proofs.Ytmkbnmjhkghdjaa
open Go.RowKit

def updF (hp : Nat → Option AO) (us : List (Nat × AO)) : Nat → Option AO := fun r => match look r us with | some o => some o | none => hp r
theorem look_append {α : Type} (k : Nat) : ∀ (a b : List (Nat × α)), look k (a ++ b) = match look k a with | some x => some x | none => look k b
  | [], b => rfl
  | (i, x) :: a, b => by
    simp only [List.cons_append, look]
    split
    · rfl
    · exact look_append k a b
theorem look_mem {α : Type} {k : Nat} {x : α} : ∀ {l : List (Nat × α)}, look k l = some x → (k, x) ∈ l
  | [], h => by cases h
  | (i, y) :: l, h => by
    simp only [look] at h
    split at h
    · rename_i hi; subst hi; cases h; exact List.mem_cons_self
    · exact List.mem_cons_of_mem _ (look_mem h)
theorem look_none {α : Type} {k : Nat} : ∀ {l : List (Nat × α)}, look k l = none → ∀ x, (k, x) ∉ l
  | [], _, x, hx => by cases hx
  | (i, y) :: l, h, x, hx => by
    simp only [look] at h
    split at h
    · cases h
    · rename_i hi
      rcases List.mem_cons.1 hx with e | hx
      · cases e; exact hi rfl
      · exact look_none h x hx
theorem updF_append (hp : Nat → Option AO) (a b : List (Nat × AO)) : updF hp (a ++ b) = updF (updF hp b) a := by
  funext r
  simp only [updF, look_append]
  cases look r a <;> rfl

/-- Blocks that may be written. -/
def MutB (E : En) (k : Nat) : Prop := ∃ r o z, E.hp r = some o ∧ o.mutB = true ∧ E.m r = some (k, z)
structure StepF (E : En) (w : World) (E' : En) (w' : World) : Prop where
  os : w'.os = w.os
  tape : w'.tape = w.tape
  output : w'.output = w.output
  size : w.heap.size ≤ w'.heap.size
  blk : ∀ k, k < w.heap.size → ¬ MutB E k → w'.heap[k]? = w.heap[k]?
  mb : ∀ k, MutB E' k → MutB E k ∨ w.heap.size ≤ k
  xs : ∀ k, E'.X k → E.X k ∨ w.heap.size ≤ k
  xk : ∀ k, k < w.heap.size → E.X k → ¬ MutB E k → E'.X k
theorem StepF.refl (E : En) (w : World) : StepF E w E w := ⟨rfl, rfl, rfl, Nat.le_refl _, fun _ _ _ => rfl, fun _ h => .inl h, fun _ h => .inl h, fun _ _ h _ => h⟩
theorem StepF.trans {E E' E'' : En} {w w' w'' : World} (h : StepF E w E' w') (k : StepF E' w' E'' w'') : StepF E w E'' w'' := by
  refine ⟨k.os.trans h.os, k.tape.trans h.tape, k.output.trans h.output, Nat.le_trans h.size k.size, fun j hj hm => ?_, fun j hj => ?_, fun j hj => ?_, fun j hj hx hm => ?_⟩
  · rw [k.blk j (by have := h.size; omega) (fun hm' => ?_), h.blk j hj hm]
    rcases h.mb j hm' with q | q
    · exact hm q
    · omega
  · rcases k.mb j hj with q | q
    · exact h.mb j q
    · have := h.size; exact .inr (by omega)
  · rcases k.xs j hj with q | q
    · exact h.xs j q
    · have := h.size; exact .inr (by omega)
  · refine k.xk j (by have := h.size; omega) (h.xk j hj hx hm) (fun hm' => ?_)
    rcases h.mb j hm' with q | q
    · exact hm q
    · omega
/-- All that an operation's end says. -/
structure Goes (GL : Nat → Option (List DV)) (E : En) (w : World) (us : List (Nat × AO)) (E' : En) (w' : World) : Prop where
  h : w'.heap = E'.h
  hp : E'.hp = updF E.hp us
  ext : Ext E E'
  sim : SimH GL E'
  fr : StepF E w E' w'
theorem Goes.refl {GL : Nat → Option (List DV)} {E : En} {w : World} (hw : w.heap = E.h) (hs : SimH GL E) : Goes GL E w [] E w := ⟨hw, rfl, Ext.refl _, hs, StepF.refl _ _⟩
theorem Goes.trans {GL : Nat → Option (List DV)} {E E' E'' : En} {w w' w'' : World} {us us' : List (Nat × AO)} (h : Goes GL E w us E' w') (k : Goes GL E' w' us' E'' w'') : Goes GL E w (us' ++ us) E'' w'' :=
  ⟨k.h, by rw [k.hp, h.hp, updF_append], h.ext.trans k.ext, k.sim, h.fr.trans k.fr⟩

theorem relC_ne {h : Array Obj} {X : Nat → Prop} {cells : List DV} {b o : Nat} (hr : RelC h X cells b o) (hc : cells ≠ []) : b < h.size := by
  cases cells with
  | nil => exact (hc rfl).elim
  | cons x xs =>
    rw [RelC] at hr
    obtain ⟨⟨u, hu, _⟩, _⟩ := hr
    exact cellH_lt hu
theorem RelC.at_ {h : Array Obj} {X : Nat → Prop} {h' : Array Obj} {X' : Nat → Prop} (hs : Sub h X h' X') {b b' : Nat} : ∀ (cells : List DV) (o o' : Nat), (∀ i u, i < cells.length → cellH h b (o + i) = some u → cellH h' b' (o' + i) = some u) → RelC h X cells b o → RelC h' X' cells b' o'
  | [], _, _, _, _ => by rw [RelC]; trivial
  | x :: xs, o, o', hc, hr => by
    rw [RelC] at hr ⊢
    obtain ⟨⟨u, h1, h2⟩, h3⟩ := hr
    refine ⟨⟨u, hc 0 u (by simp) h1, RelD.mono hs x u h2⟩, RelC.at_ hs xs (o + 1) (o' + 1) (fun i v hi hv => ?_) h3⟩
    have := hc (i + 1) v (by simp; omega) (by rw [show o + (i + 1) = o + 1 + i from by omega]; exact hv)
    rw [show o' + 1 + i = o' + (i + 1) from by omega]
    exact this
theorem cellH_of {h h' : Array Obj} {b : Nat} (e : h'[b]? = h[b]?) (o : Nat) : cellH h' b o = cellH h b o := by unfold cellH; rw [e]
theorem ObjR.ext {E E' : En} (he : Ext E E') {r : Nat} {o : AO} (hr : ObjR E r o) (hm : o = .dead ∨ E'.m r = E.m r) (hb : ∀ b z, E.m r = some (b, z) → E'.h[b]? = E.h[b]?) (hX : ∀ b z, E.m r = some (b, z) → (E'.X b ↔ E.X b)) : ObjR E' r o := by
  cases o with
  | dead => exact trivial
  | mix cs =>
    rcases hm with hm | hm
    · cases hm
    · obtain ⟨b, cur, t, h1, h2, h3, h4⟩ := hr
      exact ⟨b, cur, t, hm.trans h1, (hb b _ h1).trans h2, RelL.ext he _ _ h3, (hX b _ h1).2 h4⟩
  | data e s cs wr =>
    rcases hm with hm | hm
    · cases hm
    · rcases hr with ⟨h1, h2⟩ | ⟨b, cur, h1, h2, h3, h4, h5, h6⟩
      · exact .inl ⟨hm.trans h1, h2⟩
      · refine .inr ⟨b, cur, hm.trans h1, (hb b _ h1).trans h2, ?_, ?_, h5, h6⟩
        · exact RelC.at_ he.sub cs 0 0 (fun i u _ hu => by rw [cellH_of (hb b _ h1)]; exact hu) h3
        · cases wr
          · simp only [Bool.false_eq_true, if_false] at h4 ⊢; exact fun hx => h4 ((hX b _ h1).1 hx)
          · simp only [if_true] at h4 ⊢; exact (hX b _ h1).2 h4

/-! ### rows that are no longer to be written -/
/-- Each names a row, as it is but no longer to be written. -/
def FrzOk (hp : Nat → Option AO) (us : List (Nat × AO)) : Prop := ∀ r o, (r, o) ∈ us → ∃ e s cs wr, hp r = some (.data e s cs wr) ∧ o = .data e s cs false
def frz (E : En) (us : List (Nat × AO)) : En := { E with hp := updF E.hp us, X := fun k => E.X k ∧ ¬ ∃ r o z, (r, o) ∈ us ∧ E.m r = some (k, z) }
theorem frz_ext {E : En} {us : List (Nat × AO)} (hf : FrzOk E.hp us) : Ext E (frz E us) := by
  refine ⟨fun b o u hx hc => ⟨fun hx' => hx hx'.1, hc⟩, fun r o ho => ?_⟩
  show ∃ o', updF E.hp us r = some o' ∧ _
  cases hl : look r us with
  | none => exact ⟨o, by simp only [updF, hl]; exact ho, o.like_refl, .inr rfl⟩
  | some o' =>
    obtain ⟨e, s, cs, wr, h1, h2⟩ := hf r o' (look_mem hl)
    rw [ho] at h1
    cases h1
    exact ⟨o', by simp only [updF, hl], by rw [h2]; exact ⟨rfl, rfl⟩, .inr rfl⟩
theorem frz_goes {GL : Nat → Option (List DV)} {E : En} {w : World} (hw : w.heap = E.h) (hs : SimH GL E) {us : List (Nat × AO)} (hf : FrzOk E.hp us) : Goes GL E w us (frz E us) w := by
  have hex := frz_ext hf
  have hmut : ∀ r o, (frz E us).hp r = some o → o.mutB = true → E.hp r = some o ∧ ∀ o', (r, o') ∉ us := fun r o ho hm => by
    have ho' : updF E.hp us r = some o := ho
    cases hl : look r us with
    | none => simp only [updF, hl] at ho'; exact ⟨ho', look_none hl⟩
    | some o' =>
      simp only [updF, hl, Option.some.injEq] at ho'
      subst ho'
      obtain ⟨e, s, cs, wr, h1, h2⟩ := hf r o' (look_mem hl)
      rw [h2] at hm
      cases hm
  have hX : ∀ r o b z, (frz E us).hp r = some o → o.mutB = true → E.m r = some (b, z) → E.X b → (frz E us).X b := fun r o b z ho hm hb hx => by
    obtain ⟨h1, h2⟩ := hmut r o ho hm
    refine ⟨hx, fun ⟨r', o', z', h3, h4⟩ => ?_⟩
    obtain ⟨e, s, cs, wr, h5, h6⟩ := hf r' o' h3
    cases wr with
    | true =>
      have := hs.inj r r' o _ b z z' h1 h5 hm rfl hb h4
      subst this
      exact h2 _ h3
    | false =>
      have := hs.ob r' _ h5
      rcases this with ⟨g1, _⟩ | ⟨b', cur, g1, g2, g3, g4, _⟩
      · rw [g1] at h4; cases h4
      · rw [h4] at g1
        cases g1
        simp only [Bool.false_eq_true, if_false] at g4
        exact g4 hx
  refine ⟨hw, rfl, hex, ⟨fun r o ho => ?_, fun r r' o o' b z z' h1 h2 h3 h4 h5 h6 => ?_, fun g cells hg => ?_⟩, ⟨rfl, rfl, rfl, Nat.le_refl _, fun _ _ _ => rfl, fun k ⟨r, o, z, h1, h2, h3⟩ => .inl ⟨r, o, z, (hmut r o h1 h2).1, h2, h3⟩, fun k hk => .inl hk.1, fun k _ hx hm => ⟨hx, fun ⟨r, o, z, h3, h4⟩ => ?_⟩⟩⟩
  · have ho' : updF E.hp us r = some o := ho
    cases hl : look r us with
    | none =>
      simp only [updF, hl] at ho'
      have hr := hs.ob r o ho'
      cases o with
      | dead => exact trivial
      | mix cs =>
        obtain ⟨b, cur, t, g1, g2, g3, g4⟩ := hr
        exact ⟨b, cur, t, g1, g2, RelL.ext hex _ _ g3, hX r _ b _ ho rfl g1 g4⟩
      | data e s cs wr =>
        rcases hr with ⟨g1, g2⟩ | ⟨b, cur, g1, g2, g3, g4, g5⟩
        · exact .inl ⟨g1, g2⟩
        · refine .inr ⟨b, cur, g1, g2, RelC.at_ hex.sub cs 0 0 (fun _ _ _ h => h) g3, ?_, g5⟩
          cases wr with
          | false => simp only [Bool.false_eq_true, if_false] at g4 ⊢; exact fun h => g4 h.1
          | true => simp only [if_true] at g4 ⊢; exact hX r _ b _ ho rfl g1 g4
    | some o' =>
      simp only [updF, hl, Option.some.injEq] at ho'
      subst ho'
      obtain ⟨e, s, cs, wr, h1, h2⟩ := hf r o' (look_mem hl)
      subst h2
      rcases hs.ob r _ h1 with ⟨g1, g2⟩ | ⟨b, cur, g1, g2, g3, g4, g5⟩
      · exact .inl ⟨g1, g2⟩
      · refine .inr ⟨b, cur, g1, g2, RelC.at_ hex.sub cs 0 0 (fun _ _ _ h => h) g3, ?_, g5⟩
        simp only [Bool.false_eq_true, if_false]
        exact fun h => h.2 ⟨r, _, _, look_mem hl, g1⟩
  · exact hs.inj r r' o o' b z z' (hmut r o h1 h3).1 (hmut r' o' h2 h4).1 h3 h4 h5 h6
  · rcases hs.gl g cells hg with g0 | ⟨g1, g2⟩
    · exact .inl g0
    · exact .inr ⟨fun h => g1 h.1, RelC.mono hex.sub cells g 0 g1 g2⟩
  · obtain ⟨e, s, cs, wr, h5, h6⟩ := hf r o h3
    cases wr with
    | true => exact hm ⟨r, _, z, h5, rfl, h4⟩
    | false =>
      rcases hs.ob r _ h5 with ⟨g1, _⟩ | ⟨b', cur, g1, g2, g3, g4, _⟩
      · rw [g1] at h4; cases h4
      · rw [h4] at g1
        cases g1
        simp only [Bool.false_eq_true, if_false] at g4
        exact g4 hx
theorem toDV_frz {rd : Nat → Option AO} {hp : Nat → Option AO} (hrd : ∀ r o, rd r = some o → hp r = some o) {x : AV} {y : DV} {us : List (Nat × AO)} (h : toDV rd x = some (y, us)) : FrzOk hp us := by
  unfold toDV at h
  split at h
  · simp only [Option.some.injEq, Prod.mk.injEq] at h
    obtain ⟨_, rfl⟩ := h
    intro r o hm; cases hm
  · split at h
    · rename_i r off n cap e s cs wr hr
      simp only [Option.some.injEq, Prod.mk.injEq] at h
      obtain ⟨_, rfl⟩ := h
      intro r' o hm
      rcases List.mem_singleton.1 hm with hm
      cases hm
      exact ⟨e, s, cs, wr, hrd _ _ hr, rfl⟩
    · cases h
  · cases h
theorem allDV_frz {rd : Nat → Option AO} {hp : Nat → Option AO} (hrd : ∀ r o, rd r = some o → hp r = some o) : ∀ {xs : List AV} {ys : List DV} {us : List (Nat × AO)}, allDV rd xs = some (ys, us) → FrzOk hp us
  | [], ys, us, h => by
    simp only [allDV, Option.some.injEq, Prod.mk.injEq] at h
    obtain ⟨_, rfl⟩ := h
    intro r o hm; cases hm
  | x :: xs, ys, us, h => by
    simp only [allDV] at h
    split at h
    · rename_i y u ys' us' h1 h2
      simp only [Option.some.injEq, Prod.mk.injEq] at h
      obtain ⟨_, rfl⟩ := h
      intro r o hm
      rcases List.mem_append.1 hm with hm | hm
      · exact toDV_frz hrd h1 r o hm
      · exact allDV_frz hrd h2 r o hm
    · cases h
/-- Data that values stand for, one by one. -/
def RelDs (h : Array Obj) (X : Nat → Prop) : List DV → List Value → Prop
  | [], vs => vs = []
  | x :: xs, vs => ∃ v vs', vs = v :: vs' ∧ RelD h X x v ∧ RelDs h X xs vs'
theorem toDV_rel {E : En} {rd : Nat → Option AO} (hrd : ∀ r o, rd r = some o → E.hp r = some o) {GL : Nat → Option (List DV)} (hs : SimH GL E) {x : AV} {y : DV} {us all : List (Nat × AO)} (h : toDV rd x = some (y, us)) (ha : FrzOk E.hp all) (hsub : ∀ p ∈ us, p ∈ all) {u : Value} (hr : Rel E x u) :
    RelD (frz E all).h (frz E all).X y u := by
  have hex := frz_ext ha
  unfold toDV at h
  split at h
  · simp only [Option.some.injEq, Prod.mk.injEq] at h
    obtain ⟨rfl, _⟩ := h
    rw [Rel] at hr
    exact RelD.mono hex.sub _ _ hr
  · rename_i r off n cap
    split at h
    · rename_i e s cs wr hr0
      simp only [Option.some.injEq, Prod.mk.injEq] at h
      obtain ⟨rfl, rfl⟩ := h
      have ho := hrd _ _ hr0
      rw [Rel, ho] at hr
      rw [RelD]
      rcases hr with ⟨rfl, hc, _, A, rfl⟩ | ⟨b, z, c, g1, rfl, g3, g4, g5, g6⟩
      · refine ⟨A, 0, rfl, Nat.le_refl _, Nat.zero_le _, fun k hk => ?_, .inl (by simp)⟩
        rcases hc with rfl | rfl
        · cases hk
        · cases hk; rfl
      · refine ⟨_, c, rfl, g3, g4, fun k hk => ?_, ?_⟩
        · subst hk; exact g6
        · rcases hs.ob r _ ho with ⟨q1, q2⟩ | ⟨b', cur, q1, q2, q3, q4, q5⟩
          · rw [q1] at g1; cases g1
          · rw [q1] at g1
            cases g1
            refine .inr ⟨b, off, rfl, fun hx => hx.2 ⟨r, _, _, hsub _ (List.mem_singleton.2 rfl), q1⟩, ?_⟩
            have := relC_take (n * s) _ _ _ (relC_drop off _ _ _ q3)
            rw [Nat.zero_add] at this
            exact RelC.at_ hex.sub _ _ _ (fun _ _ _ h => h) this
    · cases h
  · cases h
theorem allDV_rel {E : En} {rd : Nat → Option AO} (hrd : ∀ r o, rd r = some o → E.hp r = some o) {GL : Nat → Option (List DV)} (hs : SimH GL E) {all : List (Nat × AO)} (ha : FrzOk E.hp all) : ∀ {xs : List AV} {ys : List DV} {us : List (Nat × AO)}, allDV rd xs = some (ys, us) → (∀ p ∈ us, p ∈ all) → ∀ {vs : List Value}, RelL E xs vs →
    RelDs (frz E all).h (frz E all).X ys vs
  | [], ys, us, h, hsub, vs, hr => by
    simp only [allDV, Option.some.injEq, Prod.mk.injEq] at h
    obtain ⟨rfl, _⟩ := h
    rw [RelL] at hr
    exact hr
  | x :: xs, ys, us, h, hsub, vs, hr => by
    simp only [allDV] at h
    split at h
    · rename_i y u ys' us' h1 h2
      simp only [Option.some.injEq, Prod.mk.injEq] at h
      obtain ⟨rfl, rfl⟩ := h
      rw [RelL] at hr
      obtain ⟨v, vs', rfl, k1, k2⟩ := hr
      exact ⟨v, vs', rfl, toDV_rel hrd hs h1 ha (fun p hp => hsub p (List.mem_append_left _ hp)) k1, allDV_rel hrd hs ha h2 (fun p hp => hsub p (List.mem_append_right _ hp)) k2⟩
    · cases h
end Go.Proofs.Ytmkbnmjhkghdjaa
