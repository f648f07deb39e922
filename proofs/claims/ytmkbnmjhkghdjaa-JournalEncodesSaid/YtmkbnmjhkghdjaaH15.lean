/- The abstract machine: a state of a function; an operation; a region in whatever order. -/
import Derived.Test.YtmkbnmjhkghdjaaH14
set_option linter.unusedVariables false
set_option linter.unusedSimpArgs false
namespace Go.Proofs.Ytmkbnmjhkghdjaa
open Go.RowKit

/-- Temporaries, objects. -/
structure S where
  tm : Nat → AV
  hp : Nat → Option AO
def constA (v : Value) : AV :=
  match v with
  | .agg cs => if cs.toList.all (·.oneCell') then .agg (cs.toList.map fun c => .d (.val c)) else .junk
  | .tuple cs => if cs.isEmpty then .undef else .junk
  | v => .d (.val v)
def S.ev (GL : Nat → Option (List DV)) (s : S) : Operand → AV
  | .tmp t => s.tm t
  | .const v => constA v
  | .global g => match GL g with | some cells => .dptr cells 0 | none => .junk
  | .func f => match Nat.blt f 1048576 with | true => .clo f [] | false => .junk
def sameK (x : Option AO) (o : AO) : Bool :=
  match x, o with
  | some (.data _ s _ _), .data _ s' _ _ => s == s'
  | some (.mix _), .mix _ => true
  | some .dead, .dead => true
  | _, _ => false
def chgs (hp : Nat → Option AO) (us : List (Nat × AO)) : List Nat := (us.filter fun p => !sameK (hp p.1) p.2).map (·.1)
/-- What an operation does; which objects it made anew, used up or turned into another kind. -/
structure Ef where
  v : AV
  upd : List (Nat × AO)
  rds : List Nat
  lvs : List Nat
  chg : List Nat
def S.put (s : S) (d : Option Nat) (v : AV) : S := match d with | some t => { s with tm := fun k => if k = t then v else s.tm k } | none => s
def S.app (s : S) (d : Option Nat) (e : Ef) : S := { (s.put d e.v) with hp := updF s.hp e.upd }

structure Sim (GL : Nat → Option (List DV)) (N : Nat) (E : En) (a : Act) (w : World) (s : S) : Prop where
  h : w.heap = E.h
  hp : E.hp = s.hp
  sim : SimH GL E
  n : a.tmps.size = N
  df : a.defers = []
  tm : ∀ t, Rel E (s.tm t) (a.tmps.getD t undef)
theorem const_rel (E : En) (v : Value) : Rel E (constA v) v := by
  unfold constA
  cases v with
  | agg cs =>
    simp only
    split
    · rename_i h
      rw [Rel]
      refine ⟨cs, rfl, ?_⟩
      have := relL_vals (E := E) cs.toList (fun u hu => List.all_eq_true.1 h u hu)
      rw [List.map_map] at this
      exact this
    · rw [Rel]; trivial
  | tuple cs =>
    simp only
    split
    · rename_i h
      rw [Rel]
      have : cs = #[] := by simpa using h
      rw [this]; rfl
    · rw [Rel]; trivial
  | _ => simp only; rw [Rel, RelD]; exact ⟨rfl, rfl⟩
theorem Sim.ev {GL : Nat → Option (List DV)} {N : Nat} {E : En} {a : Act} {w : World} {s : S} (h : Sim GL N E a w s) (x : Operand) : Rel E (s.ev GL x) (a.eval x) := by
  cases x with
  | tmp t => exact h.tm t
  | const v => exact const_rel E v
  | global g =>
    show Rel E (match GL g with | some cells => .dptr cells 0 | none => .junk) (.pointer (some ⟨g, 0, none⟩))
    cases hg : GL g with
    | none => simp only; rw [Rel]; trivial
    | some cells => simp only; rw [Rel]; exact ⟨g, 0, rfl, h.sim.gl g cells hg⟩
  | func f =>
    show Rel E (match Nat.blt f 1048576 with | true => .clo f [] | false => .junk) (.func (.func f) #[] #[])
    split
    · rename_i hb
      have hlt : f < 1048576 := Nat.le_of_ble_eq_true hb
      rw [Rel]
      exact ⟨(#[], #[]), ⟨by rw [Nat.mod_eq_of_lt hlt], by rw [Nat.div_eq_of_lt hlt]; rfl⟩, by simp only [List.append_nil]; rw [RelL]⟩
    · rw [Rel]; trivial
theorem Sim.put {GL : Nat → Option (List DV)} {N : Nat} {E E' : En} {a : Act} {w w' : World} {s : S} (h : Sim GL N E a w s) {us : List (Nat × AO)} (hg : Goes GL E w us E' w') {d : Option Nat} (hd : ∀ t, d = some t → t < N) {v : AV} {u : Value} (hr : Rel E' v u) :
    Sim GL N E' (a.put d u) w' { (s.put d v) with hp := updF s.hp us } := by
  refine ⟨hg.h, by rw [hg.hp, h.hp], hg.sim, ?_, ?_, fun t => ?_⟩
  · cases d with
    | none => exact h.n
    | some t => simp only [Act.put, Array.size_setIfInBounds]; exact h.n
  · cases d <;> exact h.df
  · have ht := Rel.ext hg.ext _ _ (h.tm t)
    cases d with
    | none => exact ht
    | some k =>
      simp only [S.put, Act.put]
      by_cases hk : t = k
      · subst hk
        rw [if_pos rfl]
        have := hd t rfl
        rw [Array.getD_eq_getD_getElem?, Array.getElem?_setIfInBounds_self_of_lt (by rw [h.n]; exact this)]
        exact hr
      · rw [if_neg hk, Array.getD_eq_getD_getElem?, Array.getElem?_setIfInBounds_ne (fun e => hk e.symm), ← Array.getD_eq_getD_getElem?]
        exact ht
/-- What a call does, whatever else there is. -/
def Does (P : Program) (GL : Nat → Option (List DV)) (f : FuncId) (args : List AV) (rds : List Nat) (v : AV) (us : List (Nat × AO)) (hp : Nat → Option AO) : Prop :=
  ∀ (E : En) (w : World) (vs : Array Value), (∀ r ∈ rds, E.hp r = hp r) → w.heap = E.h → SimH GL E → RelL E args vs.toList → Calls P f vs w fun e w' => ∃ u E', e = .returned u ∧ Goes GL E w us E' w' ∧ Rel E' v u
/-- A function that is entered when it is called. -/
def fnOk (P : Program) (f : FuncId) : Bool := match P.funcs[f]? with | some fn => fn.name != "runtime.NumGoroutine" && fn.body.isSome | none => false
/-- Which function does the operation call, with what? -/
def callA (ρ : Operand → AV) (o : Oper) : Option (FuncId × List AV) :=
  match o.op with
  | .call c => match c.callee with
    | .value x => match ρ x with
      | .clo f caps => some (f % 1048576, caps.take (f / 1048576) ++ (c.args.toList.map ρ ++ caps.drop (f / 1048576)))
      | _ => none
    | _ => none
  | _ => none
/-- The effect of an operation. -/
def EfR (P : Program) (GL : Nat → Option (List DV)) (q : Nat → Bool) (slot : Nat) (o : Oper) (s : S) (e : Ef) : Prop :=
  e.chg = chgs s.hp e.upd ∧
  match callA (s.ev GL) o with
  | some (f, args) => fnOk P f = true ∧ e.lvs = [] ∧ Does P GL f args e.rds e.v e.upd s.hp
  | none => ∃ f, eff (tiOf P) q s.hp slot o (s.ev GL) = some f ∧ e.v = f.v ∧ e.upd = f.upd ∧ e.rds = f.rds ∧ e.lvs = f.lvs
section
variable {P : Program} {GL : Nat → Option (List DV)} {q : Nat → Bool} {N : Nat} {E : En} {a : Act} {w : World} {s : S}
theorem restrict_spec {rs : List Nat} {rd : Nat → Option AO} {r : Nat} {o : AO} (h : restrict rs rd r = some o) : rd r = some o := by
  unfold restrict at h
  split at h
  · exact h
  · cases h
theorem eff_sim (hq : QOk P q) (hdp : 30 ≤ P.depth) (h : Sim GL N E a w s) {slot : Nat} {o : Oper} {f : Eff} (hf : eff (tiOf P) q s.hp slot o (s.ev GL) = some f) : Ends P GL E w (execOp a.eval o) f.v f.upd := by
  unfold eff at hf
  simp only at hf
  have hrd : ∀ rs r ob, restrict rs s.hp r = some ob → E.hp r = some ob := fun rs r ob hr => by rw [h.hp]; exact restrict_spec hr
  split at hf
  · rename_i v hv
    simp only [Option.some.injEq] at hf
    subst hf
    obtain ⟨u, hu, hr⟩ := effQ_sim (w := w) hq hdp (kindsOf_rd (hrd _)) h.ev hv
    exact ends_same h.h h.sim hu hr
  · rename_i hn
    split at hf
    · rename_i v us hv
      simp only [Option.some.injEq] at hf
      subst hf
      refine effH_sim h.h h.sim (hrd _) (fun hs => ?_) h.ev hv
      unfold restrict at hs
      rw [if_pos (by simp)] at hs
      rw [h.hp]
      exact hs
    · cases hf
theorem call_exec {o : Oper} (h : Sim GL N E a w s) {f : FuncId} {args : List AV} (hc : callA (s.ev GL) o = some (f, args)) (hf : fnOk P f = true) : ∃ vs : Array Value, (execOp a.eval o).run P w = .ok (.enter f vs) w ∧ RelL E args vs.toList := by
  unfold callA at hc
  obtain ⟨dst, op, type, pos, after, guard⟩ := o
  simp only at hc
  split at hc
  · rename_i c
    split at hc
    · rename_i x hx
      split at hc
      · rename_i g caps hg
        simp only [Option.some.injEq, Prod.mk.injEq] at hc
        obtain ⟨rfl, rfl⟩ := hc
        have hr := h.ev x
        rw [hg, Rel] at hr
        obtain ⟨⟨fv, cv⟩, ⟨e1, e0⟩, e2⟩ := hr
        unfold fnOk at hf
        split at hf
        · rename_i fn hfn
          simp only [Bool.and_eq_true, bne_iff_ne, ne_eq, Option.isSome_iff_ne_none] at hf
          refine ⟨fv ++ c.args.map a.eval ++ cv, ?_, ?_⟩
          · have hname : (fn.name == "runtime.NumGoroutine") = false := by simpa using hf.1
            have hbody : fn.body.isNone = false := by cases hb : fn.body with | none => exact (hf.2 hb).elim | some _ => rfl
            simp only [execOp, resolve, hx, e1, Deferred.ofValue, Sem.run_bind, Sem.run_pure, Result.andThen_ok, invoke, callFunc, run_program, hfn, hname, hbody, Bool.false_eq_true, if_false]
          · simp only [Array.toList_append, Array.toList_map, List.append_assoc]
            obtain ⟨s1, s2⟩ := relL_split _ _ _ e2
            simp only at e0
            rw [Array.length_toList, e0] at s1 s2
            exact relL_append _ _ _ _ s1 (relL_append _ _ _ _ (relL_map _ _ h.ev _) s2)
        · cases hf
      · cases hc
    · cases hc
  · cases hc
/-- **An operation in the world.** -/
theorem op_sim (hq : QOk P q) (hdp : 30 ≤ P.depth) (h : Sim GL N E a w s) {slot : Nat} {o : Oper} {e : Ef} (he : EfR P GL q slot o s e) (hd : ∀ t, o.dst = some t → t < N) {K : Act → World → Prop} {Q : Exit → Act → World → Prop}
    (hK : ∀ a' w' E', Goes GL E w e.upd E' w' → Sim GL N E' a' w' (s.app o.dst e) → K a' w') : o.wp P a w K Q := by
  obtain ⟨_, he⟩ := he
  unfold Oper.wp
  split at he
  · rename_i f args hc
    obtain ⟨hf, _, hdo⟩ := he
    obtain ⟨vs, hrun, hrel⟩ := call_exec h hc hf
    rw [hrun]
    refine (hdo E w vs (fun r _ => by rw [h.hp]) h.h h.sim hrel).mono ?_
    rintro en w' ⟨u, E', rfl, hg, hr⟩
    exact hK _ _ E' hg (h.put hg hd hr)
  · rename_i hc
    obtain ⟨f, hf, e1, e2, _, _⟩ := he
    obtain ⟨n, w', E', u, hrun, hn, hg, hr⟩ := eff_sim hq hdp h hf
    rw [hrun]
    rw [← e2] at hg
    rw [← e1] at hr
    rcases hn with rfl | ⟨rfl, rfl⟩
    · exact hK _ _ E' hg (h.put hg hd hr)
    · exact hK _ _ E' hg (h.put hg hd hr)
end
end Go.Proofs.Ytmkbnmjhkghdjaa
