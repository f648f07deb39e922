/- The abstract machine: functions: from the body to the call; the call of a law. -/
import Derived.Test.YtmkbnmjhkghdjaaH20
set_option linter.unusedVariables false
set_option linter.unusedSimpArgs false
namespace Go.Proofs.Ytmkbnmjhkghdjaa
open Go.RowKit

mutual
def AV.plain : AV → Bool
  | .ptr _ _ => false
  | .sl _ _ _ _ => false
  | .agg cs => plainL cs
  | .tup cs => plainL cs
  | .clo _ cs => plainL cs
  | _ => true
def plainL : List AV → Bool
  | [] => true
  | x :: xs => x.plain && plainL xs
end
mutual
theorem rel_plain {E E' : En} (h1 : E'.h = E.h) (h2 : E'.X = E.X) : ∀ (x : AV) (v : Value), x.plain = true → Rel E x v → Rel E' x v
  | .d x, v, _, hr => by rw [Rel] at hr ⊢; rw [h1, h2]; exact hr
  | .ptr r o, v, hp, _ => by rw [AV.plain] at hp; cases hp
  | .sl r o n c, v, hp, _ => by rw [AV.plain] at hp; cases hp
  | .dptr cells off, v, _, hr => by rw [Rel] at hr ⊢; rw [h1, h2]; exact hr
  | .agg cs, v, hp, hr => by
    rw [AV.plain] at hp
    rw [Rel] at hr ⊢
    obtain ⟨vs, g1, g2⟩ := hr
    exact ⟨vs, g1, relL_plain h1 h2 cs _ hp g2⟩
  | .tup cs, v, hp, hr => by
    rw [AV.plain] at hp
    rw [Rel] at hr ⊢
    obtain ⟨vs, g1, g2⟩ := hr
    exact ⟨vs, g1, relL_plain h1 h2 cs _ hp g2⟩
  | .clo f cs, v, hp, hr => by
    rw [AV.plain] at hp
    rw [Rel] at hr ⊢
    obtain ⟨vs, g1, g2⟩ := hr
    exact ⟨vs, g1, relL_plain h1 h2 cs _ hp g2⟩
  | .undef, v, _, hr => by rw [Rel] at hr ⊢; exact hr
  | .ab, v, _, hr => by rw [Rel] at hr ⊢; exact hr
  | .junk, v, _, hr => by rw [Rel]; trivial
theorem relL_plain {E E' : En} (h1 : E'.h = E.h) (h2 : E'.X = E.X) : ∀ (xs : List AV) (vs : List Value), plainL xs = true → RelL E xs vs → RelL E' xs vs
  | [], vs, _, hr => by rw [RelL] at hr ⊢; exact hr
  | x :: xs, vs, hp, hr => by
    rw [plainL, Bool.and_eq_true] at hp
    rw [RelL] at hr ⊢
    obtain ⟨v, vs', rfl, g1, g2⟩ := hr
    exact ⟨v, vs', rfl, rel_plain h1 h2 x v hp.1 g1, relL_plain h1 h2 xs vs' hp.2 g2⟩
end
def lookF (us : List (Nat × AO)) : Nat → Option AO := fun r => look r us
/-- No address but in these objects. -/
def refsB (os : List (Nat × AO)) (rs : List Nat) : Bool := rs.all fun r => (look r os).isSome
mutual
theorem rel_refs {E E' : En} (h1 : E'.h = E.h) (h2 : E'.X = E.X) : ∀ (x : AV) (v : Value), (∀ r ∈ x.refs, E'.hp r = E.hp r ∧ E'.m r = E.m r) → Rel E x v → Rel E' x v
  | .d x, v, _, hr => by rw [Rel] at hr ⊢; rw [h1, h2]; exact hr
  | .ptr r o, v, hp, hr => by
    obtain ⟨k1, k2⟩ := hp r (by rw [AV.refs]; exact List.mem_singleton.2 rfl)
    rw [Rel] at hr ⊢
    rw [k1, k2]
    exact hr
  | .sl r o n c, v, hp, hr => by
    obtain ⟨k1, k2⟩ := hp r (by rw [AV.refs]; exact List.mem_singleton.2 rfl)
    rw [Rel] at hr ⊢
    rw [k1, k2]
    exact hr
  | .dptr cells off, v, _, hr => by rw [Rel] at hr ⊢; rw [h1, h2]; exact hr
  | .agg cs, v, hp, hr => by
    rw [AV.refs] at hp
    rw [Rel] at hr ⊢
    obtain ⟨vs, g1, g2⟩ := hr
    exact ⟨vs, g1, relL_refs h1 h2 cs _ hp g2⟩
  | .tup cs, v, hp, hr => by
    rw [AV.refs] at hp
    rw [Rel] at hr ⊢
    obtain ⟨vs, g1, g2⟩ := hr
    exact ⟨vs, g1, relL_refs h1 h2 cs _ hp g2⟩
  | .clo f cs, v, hp, hr => by
    rw [AV.refs] at hp
    rw [Rel] at hr ⊢
    obtain ⟨vs, g1, g2⟩ := hr
    exact ⟨vs, g1, relL_refs h1 h2 cs _ hp g2⟩
  | .undef, v, _, hr => by rw [Rel] at hr ⊢; exact hr
  | .ab, v, _, hr => by rw [Rel] at hr ⊢; exact hr
  | .junk, v, _, hr => by rw [Rel]; trivial
theorem relL_refs {E E' : En} (h1 : E'.h = E.h) (h2 : E'.X = E.X) : ∀ (xs : List AV) (vs : List Value), (∀ r ∈ AV.refs.refsL xs, E'.hp r = E.hp r ∧ E'.m r = E.m r) → RelL E xs vs → RelL E' xs vs
  | [], vs, _, hr => by rw [RelL] at hr ⊢; exact hr
  | x :: xs, vs, hp, hr => by
    rw [AV.refs.refsL] at hp
    rw [RelL] at hr ⊢
    obtain ⟨v, vs', rfl, g1, g2⟩ := hr
    exact ⟨v, vs', rfl, rel_refs h1 h2 x v (fun r h => hp r (List.mem_append_left _ h)) g1, relL_refs h1 h2 xs vs' (fun r h => hp r (List.mem_append_right _ h)) g2⟩
end
def oRefs : AO → List Nat
  | .mix cs => AV.refs.refsL cs
  | _ => []
/-- A call that is handed these objects begins so. -/
def restE (E : En) (os : List (Nat × AO)) : En := { E with hp := lookF os }
def mergeE (E E2 : En) (us : List (Nat × AO)) : En := { m := fun r => if (look r us).isSome then E2.m r else E.m r, hp := updF E.hp us, X := E2.X, h := E2.h }
section
variable {P : Program} {GL : Nat → Option (List DV)} {q : Nat → Bool}
theorem rest_rel {E : En} {os : List (Nat × AO)} (hos : ∀ r o, look r os = some o → E.hp r = some o) {rs : List Nat} (h : refsB os rs = true) : ∀ r ∈ rs, (restE E os).hp r = E.hp r ∧ (restE E os).m r = E.m r := fun r hr => by
  have := List.all_eq_true.1 h r hr
  cases hl : look r os with
  | none => rw [hl] at this; cases this
  | some o => exact ⟨(show look r os = _ by rw [hl, hos r o hl]), rfl⟩
theorem rest_sim {E : En} {os : List (Nat × AO)} (hos : ∀ r o, look r os = some o → E.hp r = some o) (hcl : ∀ r o, look r os = some o → refsB os (oRefs o) = true) (h : SimH GL E) : SimH GL (restE E os) := by
  refine ⟨fun r o ho => ?_, fun r r' o o' b z z' h1 h2 => h.inj r r' o o' b z z' (hos r o h1) (hos r' o' h2), h.gl⟩
  have hr := h.ob r o (hos r o ho)
  cases o with
  | dead => exact trivial
  | data e s cs wr => exact hr
  | mix cs =>
    obtain ⟨b, cur, t, g1, g2, g3, g4⟩ := hr
    exact ⟨b, cur, t, g1, g2, relL_refs (E := E) (E' := restE E os) rfl rfl cs _ (rest_rel hos (hcl r _ ho)) g3, g4⟩
theorem merge_goes {E E2 : En} {w w' : World} {os us : List (Nat × AO)} (hw : w.heap = E.h) (hs : SimH GL E) (hos : ∀ r o, look r os = some o → E.hp r = some o) (h2 : SimH GL E2) (hp2 : E2.hp = lookF us) (hw' : w'.heap = E2.h) (hst : StepF (restE E os) w E2 w') (hsub : Sub E.h E.X E2.h E2.X) (hin0 : ∀ r o, look r os = some o → (look r us).isSome = true) (hfr : ∀ r o, look r us = some o → E.hp r = none ∨ ∃ o0, E.hp r = some o0 ∧ o0.like o ∧ (o = .dead ∨ E2.m r = E.m r)) :
    Goes GL E w us (mergeE E E2 us) w' ∧ ∀ v u, Rel E2 v u → Rel (mergeE E E2 us) v u := by
  have hin : ∀ r o, look r us = some o → (mergeE E E2 us).hp r = some o ∧ (mergeE E E2 us).m r = E2.m r := fun r o h => ⟨by simp [mergeE, updF, h], by simp [mergeE, h]⟩
  have hout : ∀ r, look r us = none → (mergeE E E2 us).hp r = E.hp r ∧ (mergeE E E2 us).m r = E.m r := fun r h => ⟨by simp [mergeE, updF, h], by simp [mergeE, h]⟩
  have hlt : ∀ r o b z, E.hp r = some o → o ≠ .dead → E.m r = some (b, z) → b < w.heap.size := fun r o b z he hd hb => by
    rw [hw]
    have := hs.ob r o he
    cases o with
    | dead => exact (hd rfl).elim
    | mix cs => obtain ⟨b', cur', t', g1, g2, _⟩ := this; rw [hb] at g1; cases g1; exact (Array.getElem?_eq_some_iff.1 g2).1
    | data e s cs wr =>
      rcases this with ⟨g1, _⟩ | ⟨b', cur', g1, g2, _⟩
      · rw [hb] at g1; cases g1
      · rw [hb] at g1; cases g1; exact (Array.getElem?_eq_some_iff.1 g2).1
  have hxm : ∀ r o b z, E.hp r = some o → o.mutB = true → E.m r = some (b, z) → E.X b := fun r o b z he hm hb => by
    have := hs.ob r o he
    cases o with
    | dead => cases hm
    | mix cs => obtain ⟨b', cur', t', g1, g2, g3, g4⟩ := this; rw [hb] at g1; cases g1; exact g4
    | data e s cs wr =>
      have hwr : wr = true := hm
      subst hwr
      rcases this with ⟨g1, _⟩ | ⟨b', cur', g1, g2, g3, g4, _⟩
      · rw [hb] at g1; cases g1
      · rw [hb] at g1; cases g1; simpa using g4
  -- what the call was not handed lies elsewhere
  have hnot : ∀ r o b z, E.hp r = some o → o ≠ .dead → look r us = none → E.m r = some (b, z) → ¬ MutB (restE E os) b := fun r o b z he hd hl hb ⟨r0, o0, z0, k1, k2, k3⟩ => by
    have k1' := hos r0 o0 k1
    have hx := hxm r0 o0 b z0 k1' k2 k3
    cases hm : o.mutB with
    | true =>
      have := hs.inj r r0 o o0 b z z0 he k1' hm k2 hb k3
      subst this
      have := hin0 r o0 k1
      rw [hl] at this
      cases this
    | false =>
      cases o with
      | dead => exact hd rfl
      | mix cs => cases hm
      | data e s cs wr =>
        have hwr : wr = false := hm
        subst hwr
        rcases hs.ob r _ he with ⟨g1, _⟩ | ⟨b', cur', g1, g2, g3, g4, _⟩
        · rw [hb] at g1; cases g1
        · rw [hb] at g1; cases g1
          simp only [Bool.false_eq_true, if_false] at g4
          exact g4 hx
  have nd : ∀ ob : AO, ob.mutB = true → ob ≠ .dead := fun ob h e => by rw [e] at h; cases h
  have hex : Ext E (mergeE E E2 us) := ⟨hsub, fun r o ho => by
    cases hl : look r us with
    | none =>
      have h := hout r hl
      exact ⟨o, h.1.trans ho, o.like_refl, .inr h.2⟩
    | some o' =>
      have h := hin r o' hl
      rcases hfr r o' hl with h0 | ⟨o0, h0, h3, h4⟩
      · rw [h0] at ho; cases ho
      · rw [h0] at ho; cases ho
        exact ⟨o', h.1, h3, h4.imp id (fun h4 => h.2.trans h4)⟩⟩
  have hex2 : Ext E2 (mergeE E E2 us) := ⟨Sub.refl _ _, fun r o ho => by
    rw [hp2] at ho
    have h := hin r o ho
    exact ⟨o, h.1, o.like_refl, .inr h.2⟩⟩
  have hmr : ∀ k, MutB (restE E os) k → MutB E k := fun k ⟨r, o, z, h1, h3, h4⟩ => ⟨r, o, z, hos r o h1, h3, h4⟩
  have hX : ∀ k, k < w.heap.size → ¬ MutB (restE E os) k → (E2.X k ↔ E.X k) := fun k hk hm => ⟨fun h => by
    rcases hst.xs k h with h | h
    · exact h
    · omega, fun h => hst.xk k hk h hm⟩
  have hnew : ∀ r o b z, look r us = some o → o.mutB = true → E2.m r = some (b, z) → MutB (restE E os) b ∨ w.heap.size ≤ b := fun r o b z ho hm hb => hst.mb b ⟨r, o, z, by rw [hp2]; exact ho, hm, hb⟩
  refine ⟨⟨hw', rfl, hex, ⟨fun r o ho => ?_, fun r r' o o' b z z' e1 e2 e3 e4 e5 e6 => ?_, fun g cells hg => h2.gl g cells hg⟩, ⟨hst.os, hst.tape, hst.output, hst.size, fun k hk hm => hst.blk k hk (fun h => hm (hmr k h)), fun k ⟨r, o, z, e1, e2, e3⟩ => ?_, fun k hk => hst.xs k hk, fun k hk hx hm => hst.xk k hk hx (fun h => hm (hmr k h))⟩⟩, fun v u hr => Rel.ext hex2 v u hr⟩
  · cases hl : look r us with
    | some o' =>
      have h := hin r o' hl
      rw [h.1] at ho
      cases ho
      exact ObjR.ext hex2 (h2.ob r _ (by rw [hp2]; exact hl)) (.inr h.2) (fun _ _ _ => rfl) (fun _ _ _ => Iff.rfl)
    | none =>
      have h := hout r hl
      rw [h.1] at ho
      by_cases hd : o = .dead
      · subst hd; exact trivial
      · refine ObjR.ext hex (hs.ob r o ho) (.inr h.2) (fun b z hb => ?_) (fun b z hb => hX b (hlt r o b z ho hd hb) (hnot r o b z ho hd hl hb))
        show E2.h[b]? = E.h[b]?
        rw [← hw', ← hw]
        exact hst.blk b (hlt r o b z ho hd hb) (hnot r o b z ho hd hl hb)
  · cases hl : look r us with
    | some p =>
      have h := hin r p hl
      rw [h.1] at e1; cases e1
      rw [h.2] at e5
      cases hl' : look r' us with
      | some p' =>
        have h' := hin r' p' hl'
        rw [h'.1] at e2; cases e2
        rw [h'.2] at e6
        exact h2.inj r r' _ _ b z z' (by rw [hp2]; exact hl) (by rw [hp2]; exact hl') e3 e4 e5 e6
      | none =>
        have h' := hout r' hl'
        rw [h'.1] at e2
        rw [h'.2] at e6
        have a2 := hlt r' _ b z' e2 (nd _ e4) e6
        rcases hnew r _ b z hl e3 e5 with a1 | a1
        · exact (hnot r' _ b z' e2 (nd _ e4) hl' e6 a1).elim
        · omega
    | none =>
      have h := hout r hl
      rw [h.1] at e1
      rw [h.2] at e5
      cases hl' : look r' us with
      | some p' =>
        have h' := hin r' p' hl'
        rw [h'.1] at e2; cases e2
        rw [h'.2] at e6
        have a2 := hlt r _ b z e1 (nd _ e3) e5
        rcases hnew r' _ b z' hl' e4 e6 with a1 | a1
        · exact (hnot r _ b z e1 (nd _ e3) hl e5 a1).elim
        · omega
      | none =>
        have h' := hout r' hl'
        rw [h'.1] at e2
        rw [h'.2] at e6
        exact hs.inj r r' o o' b z z' e1 e2 e3 e4 e5 e6
  · cases hl : look r us with
    | some p =>
      have h := hin r p hl
      rw [h.1] at e1; cases e1
      rw [h.2] at e3
      exact (hnew r _ k z hl e2 e3).imp (hmr k) id
    | none =>
      have h := hout r hl
      rw [h.1] at e1
      rw [h.2] at e3
      exact .inl ⟨r, o, z, e1, e2, e3⟩
def argTm : Nat → List AV → List (Nat × AV)
  | _, [] => []
  | i, x :: xs => (i, x) :: argTm (i + 1) xs
theorem look_argTm : ∀ (xs : List AV) (i t : Nat), look t (argTm i xs) = if i ≤ t then xs[t - i]? else none
  | [], i, t => by simp [argTm, look]
  | x :: xs, i, t => by
    rw [argTm, look, look_argTm xs (i + 1) t]
    by_cases h : i = t
    · subst h; simp
    · rw [if_neg h]
      by_cases h2 : i ≤ t
      · rw [if_pos h2, if_pos (by omega)]
        rw [show t - i = (t - (i + 1)) + 1 from by omega, List.getElem?_cons_succ]
      · rw [if_neg h2, if_neg (by omega)]
theorem wkH0 {θ : Nat → Option Nat} {hp1 : Nat → Option AO} : WkH θ hp1 (lookF []) := ⟨fun r o h => (by cases h), fun r r' o o' x h => (by cases h)⟩
/-- What is given back: told as v, with the objects us; those that were handed over (os) keep their names. -/
inductive Back (os hp us : List (Nat × AO)) (v x : AV) : Prop
  | mk (θ : Nat → Option Nat) (h0 : ∀ r o, look r os = some o → θ r = some r ∧ (look r us).isSome = true) (h1 : WkH θ (lookF hp) (lookF us)) (h2 : WkV θ (lookF hp) (lookF us) v x) : Back os hp us v x
mutual
theorem wkV_refl {θ : Nat → Option Nat} {hp1 hp2 : Nat → Option AO} : ∀ (x : AV), x.plain = true → WkV θ hp1 hp2 x x
  | .d x, _ => by rw [WkV]; exact ⟨x, .inl rfl, .inl rfl⟩
  | .ptr _ _, h => by rw [AV.plain] at h; cases h
  | .sl _ _ _ _, h => by rw [AV.plain] at h; cases h
  | .dptr _ _, _ => by rw [WkV]
  | .agg cs, h => by rw [AV.plain] at h; rw [WkV]; exact ⟨cs, rfl, wkL_refl cs h⟩
  | .tup cs, h => by rw [AV.plain] at h; rw [WkV]; exact ⟨cs, rfl, wkL_refl cs h⟩
  | .clo f cs, h => by rw [AV.plain] at h; rw [WkV]; exact ⟨cs, rfl, wkL_refl cs h⟩
  | .undef, _ => by rw [WkV]
  | .ab, _ => by rw [WkV]
  | .junk, _ => by rw [WkV]; trivial
theorem wkL_refl {θ : Nat → Option Nat} {hp1 hp2 : Nat → Option AO} : ∀ (xs : List AV), plainL xs = true → WkL θ hp1 hp2 xs xs
  | [], _ => by rw [WkL]
  | x :: xs, h => by
    rw [plainL, Bool.and_eq_true] at h
    rw [WkL]
    exact ⟨x, xs, rfl, wkV_refl x h.1, wkL_refl xs h.2⟩
end
theorem back_same {hp : List (Nat × AO)} {v : AV} (h : v.plain = true) : Back [] hp [] v v := ⟨fun _ => none, fun r o h => (by cases h), wkH0, wkV_refl v h⟩
/-- What is given back holds no object. -/
theorem back_tell {hp : List (Nat × AO)} {v x : AV} (h : WkV (fun _ => none) (lookF hp) (lookF []) v x) : Back [] hp [] v x := ⟨fun _ => none, fun r o h => (by cases h), wkH0, h⟩
/-- A call's end: the result, and the objects that are made, under the names that the contract gives them. -/
def retQ (T : Ty) (fn : Func) (os : List (Nat × AO)) (v : AV) (us : List (Nat × AO)) : Exit → SL → Prop
  | .normal, s => match resA T fn s with | some x => Back os s.hp us v x | none => False
  | .ret, s => match resA T fn s with | some x => Back os s.hp us v x | none => False
  | _, _ => False
/-- The contract of a call that is handed these objects and sees no others. -/
def DoesO (P : Program) (GL : Nat → Option (List DV)) (f : FuncId) (args : List AV) (os : List (Nat × AO)) (v : AV) (us : List (Nat × AO)) : Prop :=
  ∀ (E : En) (w : World) (vs : Array Value), E.hp = lookF os → w.heap = E.h → SimH GL E → RelL E args vs.toList → Calls P f vs w fun e w' => ∃ u E', e = .returned u ∧ w'.heap = E'.h ∧ E'.hp = lookF us ∧ SimH GL E' ∧ Ext E E' ∧ StepF E w E' w' ∧ Rel E' v u
/-- **From the body to the call.** -/
theorem doesO_of_body (hq : QOk P q) (hdp : 30 ≤ P.depth) (hm : P.follows .mixedOrders = true) {T : Ty} (hT : tiOf P = T) {f : FuncId} {fn : Func} {c : Code} (hf : P.funcs[f]? = some fn) (hb : fn.body = some c) {args : List AV} (hn : args.length ≤ fn.ntmps) {os : List (Nat × AO)} {v : AV} {us : List (Nat × AO)}
    (h : ∀ C, C = cxtOf P GL fn.ntmps (lookF os) → acode C T GL q fn.ntmps c (retQ T fn os v us) ⟨fn.ntmps, argTm 0 args, os⟩) : DoesO P GL f args os v us := fun E w vs hE hw hs hrel => by
  have hlen := relL_length _ _ hrel
  have hvs : vs.size = args.length := by rw [← Array.length_toList]; exact hlen
  refine calls_of_wp hf hb ?_
  have hS : Sim GL fn.ntmps E { tmps := vs ++ Array.replicate (fn.ntmps - vs.size) undef, defers := [] } w (⟨fn.ntmps, argTm 0 args, os⟩ : SL).S := by
    refine ⟨hw, hE, hs, ?_, rfl, fun t => ?_⟩
    · simp only [Array.size_append, Array.size_replicate]; omega
    · show Rel _ (match look t (argTm 0 args) with | some x => x | none => .junk) _
      rw [look_argTm]
      simp only [Nat.zero_le, if_true, Nat.sub_zero]
      cases hx : args[t]? with
      | none => simp only; rw [Rel]; trivial
      | some x =>
        obtain ⟨u, h1, h2⟩ := relL_get _ _ t x hrel hx
        have ht : t < vs.size := by
          have := (List.getElem?_eq_some_iff.1 h1).1
          simpa using this
        rw [Array.getD_eq_getD_getElem?, Array.getElem?_append_left ht]
        have h1' : vs[t]? = some u := by simpa using h1
        rw [h1']
        exact h2
  refine wp_mono (acode_sound hq hdp hm hT c _ _ (h _ rfl) E w E _ w hE hS (Along.refl _ _)) fun e a' w' ⟨s', E', ⟨sl, h1, h2⟩, h3, h4⟩ => ?_
  subst h1
  subst hT
  have fin : (match resA (tiOf P) fn sl with | some x => Back os sl.hp us v x | none => False) → a'.defers = [] ∧ ∃ y, (results fn a'.tmps).run P w' = .ok y w' ∧ ∃ u E', Ending.returned y = .returned u ∧ w'.heap = E'.h ∧ E'.hp = lookF us ∧ SimH GL E' ∧ Ext E E' ∧ StepF E w E' w' ∧ Rel E' v u := fun hfin => by
    obtain ⟨x, k1, θ, k0, k2, k3⟩ : ∃ x, resA (tiOf P) fn sl = some x ∧ Back os sl.hp us v x := by
      cases hx : resA (tiOf P) fn sl with
      | none => rw [hx] at hfin; exact hfin.elim
      | some x => rw [hx] at hfin; exact ⟨x, rfl, hfin⟩
    obtain ⟨y, g1, g2⟩ := resA_sim h3 k1
    have hp : E'.hp = lookF sl.hp := h3.hp
    rw [← hp] at k2 k3
    exact ⟨h3.df, y, g1, y, weakE E' θ (lookF us), rfl, h3.h, rfl, weak_simH h3.sim k2, weak_ext0 h4 k2 (fun r o ho => by rw [hE] at ho; exact k0 r o ho), weak_step k2 h4.fr, weak_rel h3.sim k2 _ _ _ k3 g2⟩
  cases e with
  | normal => exact fin h2
  | ret => exact fin h2
  | exit i => exact h2
  | goto l => exact h2
  | panic ch => exact h2.elim
  | outgrown => exact h2.elim
theorem updF_same {hp : Nat → Option AO} {os us : List (Nat × AO)} (hos : ∀ r o, look r os = some o → hp r = some o) : updF hp (us ++ os) = updF hp us := by
  rw [updF_append]
  have : updF hp os = hp := by
    funext r
    unfold updF
    cases hl : look r os with
    | none => rfl
    | some o => exact (hos r o hl).symm
  rw [this]
/-- **A call beside other objects.** -/
theorem does_of_O {f : FuncId} {args : List AV} {os : List (Nat × AO)} {v : AV} {us : List (Nat × AO)} {hp : Nat → Option AO} {rds : List Nat} (h : DoesO P GL f args os v us) (hos : ∀ p ∈ os, p.1 ∈ rds ∧ hp p.1 = some p.2) (hcl : (os.all fun p => refsB os (oRefs p.2)) = true) (hra : refsB os (AV.refs.refsL args) = true)
    (hfr : ∀ p ∈ us, p.1 ∈ rds ∧ (hp p.1 = none ∨ (look p.1 os).isSome = true)) (hin : (os.all fun p => (look p.1 us).isSome) = true) : Does P GL f args rds v us hp := fun E w vs hrd hw hs hrel => by
  have hos' : ∀ r o, look r os = some o → E.hp r = some o := fun r o ho => by
    obtain ⟨k1, k2⟩ := hos _ (look_mem ho)
    rw [hrd r k1]; exact k2
  refine (h (restE E os) w vs rfl hw (rest_sim hos' (fun r o ho => List.all_eq_true.1 hcl _ (look_mem ho)) hs) (relL_refs (E := E) (E' := restE E os) rfl rfl args _ (rest_rel hos' hra) hrel)).mono ?_
  rintro e w' ⟨u, E2, rfl, h1, h2, h3, h4, h5, h6⟩
  obtain ⟨m1, m2⟩ := merge_goes (us := us) hw hs hos' h3 h2 h1 h5 h4.sub (fun r o ho => List.all_eq_true.1 hin _ (look_mem ho)) (fun r o ho => by
    obtain ⟨p1, p2⟩ := hfr _ (look_mem ho)
    rcases p2 with p2 | p2
    · exact .inl (by rw [hrd r p1]; exact p2)
    · cases hl : look r os with
      | none => rw [hl] at p2; cases p2
      | some o0 =>
        obtain ⟨o', k1, k2, k3⟩ := h4.ob r o0 hl
        rw [h2] at k1
        have k1' : look r us = some o' := k1
        rw [ho] at k1'; cases k1'
        exact .inr ⟨o0, hos' r o0 hl, k2, k3⟩)
  exact ⟨u, _, rfl, m1, m2 _ _ h6⟩
/-- **The call of a law.** -/
theorem law_of {f : FuncId} {args : List AV} {W : World} {vs : Array Value} (h : DoesO P (fun _ => none) f args [] (aBool true) []) (hr : RelL { m := fun _ => none, hp := fun _ => none, X := fun _ => False, h := W.heap } args vs.toList) :
    Calls P f vs W fun e w' => e = .returned (.bool true) ∧ Below W.heap.size W w' := by
  refine (h { m := fun _ => none, hp := fun _ => none, X := fun _ => False, h := W.heap } W vs rfl rfl ⟨fun r o hr => (by cases hr), fun r r' o o' b z z' h1 => (by cases h1), fun g cells hg => (by cases hg)⟩ hr).mono ?_
  rintro e w' ⟨u, E', rfl, h1, h2, h3, h4, h5, h6⟩
  refine ⟨by rw [rel_val h6], h5.os, h5.tape, h5.output, h5.size, fun k hk => h5.blk k hk fun ⟨r, o, z, ho, _⟩ => by cases ho⟩
end
end Go.Proofs.Ytmkbnmjhkghdjaa
