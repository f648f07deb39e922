/- The abstract machine: code and functions, by lists. -/
import Derived.Test.YtmkbnmjhkghdjaaH19
set_option linter.unusedVariables false
set_option linter.unusedSimpArgs false
namespace Go.Proofs.Ytmkbnmjhkghdjaa
open Go.RowKit

def LQ (Q : Exit → SL → Prop) : Exit → S → Prop := fun e s' => ∃ sl : SL, s' = sl.S ∧ Q e sl
section
variable (C : Cxt) (T : Ty) (GL : Nat → Option (List DV)) (q : Nat → Bool) (N : Nat)
/-- Code, walked. -/
def acode : Code → (Exit → SL → Prop) → SL → Prop
  | .skip, Q, s => Q .normal s
  | .region id ops draw, Q, s => match !draw || backB ops with
    | true => aops C T GL q N (slotBase id) ops draw (if draw then ancT ops ops.size else []) (fun s' => Q .normal s') (List.range ops.size) s []
    | false => False
  | .seq a b, Q, s => acode a (seqQ (fun s' => acode b Q s') Q) s
  | .cond c t e, Q, s => match s.ev GL c with
    | .d (.val (.bool b)) => match b with
      | true => acode t Q s
      | false => acode e Q s
    | .ab => acode t Q s ∧ acode e Q s
    | _ => False
  | .scope c, Q, s => acode c (scpQ Q) s
  | .block id c, Q, s => acode c (blkQ id Q) s
  | .exit id, Q, s => Q (.exit id) s
  | .ret, Q, s => Q .ret s
  | .label _, Q, s => Q .normal s
  | .loop c, Q, s => C.L (.loop c) Q s
  | _, _, _ => False
end
def cxtOf (P : Program) (GL : Nat → Option (List DV)) (N : Nat) (hp0 : Nat → Option AO) : Cxt :=
  ⟨fun f args rds v us hp => fnOk P f = true ∧ Does P GL f args rds v us hp, fun c Q s => AW P GL N hp0 c (LQ Q) s.S⟩
section
variable {P : Program} {T : Ty} {GL : Nat → Option (List DV)} {q : Nat → Bool} {N : Nat} {hp0 : Nat → Option AO}
theorem acode_sound (hq : QOk P q) (hdp : 30 ≤ P.depth) (hm : P.follows .mixedOrders = true) (hT : tiOf P = T) : ∀ (c : Code) (Q : Exit → SL → Prop) (s : SL), acode (cxtOf P GL N hp0) T GL q N c Q s → AW P GL N hp0 c (LQ Q) s.S
  | .skip, Q, s, h => aw_skip ⟨s, rfl, h⟩
  | .region id ops draw, Q, s, h => by
    rw [acode] at h
    subst hT
    split at h
    · rename_i hb
      exact aw_region hq hdp hm (draw_or hb) (fun hd => by rw [hd]; rfl) (fun f args rds v us hp h => h) (fun s' hs => ⟨s', rfl, hs⟩) h
    · exact h.elim
  | .seq a b, Q, s, h => by
    rw [acode] at h
    refine aw_seq (AW.mono (acode_sound hq hdp hm hT a _ s h) fun e s' ⟨sl, h1, h2⟩ => ?_)
    subst h1
    cases e with
    | normal => exact acode_sound hq hdp hm hT b Q sl h2
    | _ => exact ⟨sl, rfl, h2⟩
  | .cond c t e, Q, s, h => by
    rw [acode] at h
    split at h
    · rename_i b hb
      refine aw_cond (by rw [SL.ev_S]; exact hb) (fun hb => ?_) (fun hb => ?_)
      · subst hb; exact acode_sound hq hdp hm hT t Q s h
      · subst hb; exact acode_sound hq hdp hm hT e Q s h
    · rename_i hb
      exact aw_any (by rw [SL.ev_S]; exact hb) (acode_sound hq hdp hm hT t Q s h.1) (acode_sound hq hdp hm hT e Q s h.2)
    · exact h.elim
  | .block id c, Q, s, h => by
    rw [acode] at h
    refine aw_block (AW.mono (acode_sound hq hdp hm hT c _ s h) fun e s' ⟨sl, h1, h2⟩ => ?_)
    subst h1
    cases e with
    | exit i =>
      simp only [blkQ] at h2 ⊢
      by_cases hi : i = id
      · rw [if_pos hi] at h2 ⊢; exact ⟨sl, rfl, h2⟩
      · rw [if_neg hi] at h2 ⊢; exact ⟨sl, rfl, h2⟩
    | _ => exact ⟨sl, rfl, h2⟩
  | .exit id, Q, s, h => aw_exit ⟨s, rfl, h⟩
  | .ret, Q, s, h => aw_ret ⟨s, rfl, h⟩
  | .label l, Q, s, h => aw_label ⟨s, rfl, h⟩
  | .loop c, Q, s, h => by rw [acode] at h; exact h
  | .rangeFunc _ _ _ _, Q, s, h => h.elim
  | .scope c, Q, s, h => by
    rw [acode] at h
    refine aw_scope (AW.mono (acode_sound hq hdp hm hT c _ _ h) fun e s' ⟨sl, h1, h2⟩ => ?_)
    subst h1
    cases e with
    | goto l => exact h2
    | _ => exact ⟨sl, rfl, h2⟩
  | .goto _, Q, s, h => h.elim
  | .refuse _, Q, s, h => h.elim

/-- **A loop, by lists.** -/
theorem loop_list (hq : QOk P q) (hdp : 30 ≤ P.depth) (hm : P.follows .mixedOrders = true) (hT : tiOf P = T) {c : Code} {Q : Exit → SL → Prop} {s : SL} {ι : Type} (st : ι → SL) (I : ι → Prop) (μ : ι → Nat) (x0 : ι) (h0 : Tells GL N hp0 s.S (st x0).S) (hI : I x0)
    (round : ∀ C x, C = cxtOf P GL N hp0 → I x → acode C T GL q N c (seqQ (fun s' => ∃ x', I x' ∧ μ x' < μ x ∧ Tells GL N hp0 s'.S (st x').S) Q) (st x)) : AW P GL N hp0 (.loop c) (LQ Q) s.S := by
  refine aw_loop (fun x => (st x).S) I μ x0 h0 hI fun x hx => AW.mono (acode_sound hq hdp hm hT c _ _ (round _ x rfl hx)) fun e s' ⟨sl, h1, h2⟩ => ?_
  subst h1
  cases e with
  | normal => exact h2
  | _ => exact ⟨sl, rfl, h2⟩

theorem weak_ext0 {E0 E : En} {w0 w : World} (hA : Along E0 w0 E w) {θ : Nat → Option Nat} {hp2 : Nat → Option AO} (hw : WkH θ E.hp hp2) (hk : ∀ r o, E0.hp r = some o → θ r = some r ∧ (hp2 r).isSome = true) : Ext E0 (weakE E θ hp2) := by
  refine ⟨hA.ext.sub.trans weak_sub, fun r o ho => ?_⟩
  obtain ⟨k1, k2⟩ := hk r o ho
  obtain ⟨o', h1, h2, h3⟩ := hA.ext.ob r o ho
  cases h4 : hp2 r with
  | none => rw [h4] at k2; cases k2
  | some o2 =>
    refine ⟨o2, h4, ?_, ?_⟩
    · cases o2 with
      | dead => cases o <;> simp [AO.like]
      | _ =>
        obtain ⟨o1, g1, g2, g3⟩ := (hw.ob r _ h4).live (by simp) k1
        rw [h1] at g1; cases g1
        exact AO.like_trans h2 g3
    · cases o2 with
      | dead => exact .inl rfl
      | _ =>
        obtain ⟨o1, g1, g2, g3⟩ := (hw.ob r _ h4).live (by simp) k1
        rw [h1] at g1; cases g1
        rcases h3 with h3 | h3
        · exact (g2 h3).elim
        · exact .inr ((weak_m k1).trans h3)
/-- The same state told otherwise; the objects that the function was handed keep their names. -/
theorem tells_of {s s' : SL} (θ : Nat → Option Nat) (hk : ∀ r o, hp0 r = some o → θ r = some r ∧ (s'.rd r).isSome = true) (hw : WkH θ s.rd s'.rd) (ht : ∀ p ∈ s'.tm, WkV θ s.rd s'.rd p.2 (s.get p.1)) : Tells GL N hp0 s.S s'.S := fun E0 w0 E a w he hS hA => by
  have hp : E.hp = s.rd := hS.hp
  have hw' : WkH θ E.hp s'.rd := by rw [hp]; exact hw
  refine ⟨weakE E θ s'.rd, ⟨hS.h, rfl, weak_simH hS.sim hw', hS.n, hS.df, fun t => ?_⟩, ⟨weak_ext0 hA hw' (fun r o ho => by rw [he] at ho; exact hk r o ho), weak_step hw' hA.fr⟩⟩
  show Rel _ (s'.get t) _
  unfold SL.get
  cases hl : look t s'.tm with
  | none => simp only; rw [Rel]; trivial
  | some y =>
    have := ht _ (look_mem hl)
    rw [← hp] at this
    exact weak_rel hS.sim hw' _ _ _ this (hS.tm t)
/-! ### what a function gives back -/
def loadA (T : Ty) (rd : Nat → Option AO) (t : Nat) (x : AV) : Option AV :=
  match T t with
  | some i => match x with
    | .ptr r off => match rd r with
      | some (.data _ _ cs _) => loadD i cs off
      | some (.mix cs) => partA i cs off
      | _ => none
    | _ => none
  | none => none
theorem loadA_sim {E : En} {w : World} (hw : w.heap = E.h) (hs : SimH GL E) {t : Nat} {x v : AV} {u : Value} (hx : Rel E x u) (h : loadA (tiOf P) E.hp t x = some v) : ∃ y, (do loadVar t (← asAddr u) : Sem Value).run P w = .ok y w ∧ Rel E v y := by
  unfold loadA at h
  split at h
  · rename_i i hi
    split at h
    · rename_i r off
      split at h
      · rename_i e s cs wr ho
        rw [Rel, ho] at hx
        obtain ⟨b, z, g1, rfl⟩ := hx
        rcases dataObj hs ho with ⟨q1, _⟩ | ⟨b', cur, q1, q2, q3, _⟩
        · rw [q1] at g1; cases g1
        · have hbb : b = b' := by rw [q1] at g1; cases g1; rfl
          subst hbb
          obtain ⟨y, hy, hr⟩ := loadD_sim (P := P) hw hi q3 h
          rw [Nat.zero_add] at hy
          exact ⟨y, hy, hr⟩
      · rename_i cs ho
        rw [Rel, ho] at hx
        obtain ⟨b, z, g1, rfl⟩ := hx
        obtain ⟨b', cur, t0, q1, q2, q3⟩ := mixObj hs ho
        have hbb : b = b' := by rw [q1] at g1; cases g1; rfl
        subst hbb
        obtain ⟨y, hy, hr⟩ := loadM_sim (P := P) hw hi q2 q3 h
        exact ⟨y, hy, hr⟩
      · cases h
    · cases h
  · cases h
def resOne (T : Ty) (s : SL) : ResultVar → Option AV
  | .tmp t => some (s.get t)
  | .cell a t => loadA T s.rd t (s.get a)
def resAll (T : Ty) (s : SL) : List ResultVar → Option (List AV)
  | [] => some []
  | r :: l => match resOne T s r, resAll T s l with
    | some x, some xs => some (x :: xs)
    | _, _ => none
def resA (T : Ty) (fn : Func) (s : SL) : Option AV :=
  match resAll T s fn.results.toList with
  | some [x] => some x
  | some xs => some (.tup xs)
  | none => none
def resSem (tmps : Array Value) : ResultVar → Sem Value
  | .tmp t => pure (tmps.getD t undef)
  | .cell p t => do loadVar t (← asAddr (tmps.getD p undef))
theorem results_eq (fn : Func) (tmps : Array Value) : results fn tmps = (do
    let vs ← fn.results.mapM (resSem tmps)
    pure (if h : vs.size = 1 then vs[0] else .tuple vs)) := by
  unfold results
  congr 1
theorem resOne_sim {E : En} {a : Act} {w : World} {s : SL} (hS : Sim GL N E a w s.S) {r : ResultVar} {v : AV} (h : resOne (tiOf P) s r = some v) :
    ∃ y, (resSem a.tmps r).run P w = .ok y w ∧ Rel E v y := by
  cases r with
  | tmp t =>
    simp only [resOne, Option.some.injEq] at h
    subst h
    exact ⟨_, rfl, hS.tm t⟩
  | cell p t =>
    have hp : E.hp = s.rd := hS.hp
    simp only [resOne] at h
    rw [← hp] at h
    exact loadA_sim hS.h hS.sim (hS.tm p) h
theorem resAll_sim {E : En} {a : Act} {w : World} {s : SL} (hS : Sim GL N E a w s.S) : ∀ (l : List ResultVar) (vs : List AV), resAll (tiOf P) s l = some vs → ∃ ys, (l.mapM (resSem a.tmps)).run P w = .ok ys w ∧ RelL E vs ys
  | [], vs, h => by
    simp only [resAll, Option.some.injEq] at h
    subst h
    exact ⟨[], by simp, by rw [RelL]⟩
  | r :: l, vs, h => by
    simp only [resAll] at h
    split at h
    · rename_i x xs h1 h2
      simp only [Option.some.injEq] at h
      subst h
      obtain ⟨y, g1, g2⟩ := resOne_sim hS h1
      obtain ⟨ys, g3, g4⟩ := resAll_sim hS l xs h2
      refine ⟨y :: ys, ?_, by rw [RelL]; exact ⟨y, ys, rfl, g2, g4⟩⟩
      rw [List.mapM_cons, Sem.run_bind, g1]
      simp only [Result.andThen_ok, Sem.run_bind, g3, Sem.run_pure]
    · cases h
theorem resA_sim {E : En} {a : Act} {w : World} {s : SL} (hS : Sim GL N E a w s.S) {fn : Func} {v : AV} (h : resA (tiOf P) fn s = some v) : ∃ y, (results fn a.tmps).run P w = .ok y w ∧ Rel E v y := by
  have key : ∀ xs, resAll (tiOf P) s fn.results.toList = some xs → ∃ ys : List Value, (results fn a.tmps).run P w = .ok (if h : ys.toArray.size = 1 then ys.toArray[0] else .tuple ys.toArray) w ∧ RelL E xs ys := fun xs hx => by
    obtain ⟨ys, g1, g2⟩ := resAll_sim hS _ _ hx
    refine ⟨ys, ?_, g2⟩
    rw [results_eq, Sem.run_bind, Array.mapM_eq_mapM_toList]
    simp only [Sem.run_map, g1]
    rfl
  unfold resA at h
  cases hx : resAll (tiOf P) s fn.results.toList with
  | none => rw [hx] at h; cases h
  | some xs =>
    rw [hx] at h
    obtain ⟨ys, g1, g2⟩ := key _ hx
    have hl := relL_length _ _ g2
    match xs, h, g2, hl with
    | [x], h, g2, hl =>
      simp only [Option.some.injEq] at h
      subst h
      rw [RelL] at g2
      obtain ⟨y, ys', rfl, k1, k2⟩ := g2
      rw [RelL] at k2
      subst k2
      exact ⟨y, g1, k1⟩
    | [], h, g2, hl =>
      simp only [Option.some.injEq] at h
      subst h
      exact ⟨.tuple ys.toArray, by rw [g1, dif_neg (by simp; simp at hl; rw [hl]; simp)], by rw [Rel]; exact ⟨_, rfl, g2⟩⟩
    | x1 :: x2 :: xs, h, g2, hl =>
      simp only [Option.some.injEq] at h
      subst h
      exact ⟨.tuple ys.toArray, by rw [g1, dif_neg (by simp; simp at hl; omega)], by rw [Rel]; exact ⟨_, rfl, g2⟩⟩
end
end Go.Proofs.Ytmkbnmjhkghdjaa
