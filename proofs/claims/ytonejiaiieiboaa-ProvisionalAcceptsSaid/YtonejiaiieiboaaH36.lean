/- The abstract machine: more for the driver. -/
import Derived.Test.YtonejiaiieiboaaHB
set_option linter.unusedVariables false
set_option linter.unusedSimpArgs false
namespace Go.Proofs.Ytonejiaiieiboaa
open Go.RowKit
theorem sp_bool (b : Bool) : (b = true ∧ b = true) ∨ (b = false ∧ b = false) := by cases b <;> simp
theorem wk_nil0 {hp1 hp2 : Nat → Option AO} : WkV (fun _ => none) hp1 hp2 (.d (.dl [] 0 (some 0))) (.d (.val (.slice none 0 0))) := by
  rw [WkV]; exact ⟨_, .inr (.inl ⟨rfl, .inr rfl⟩), .inl rfl⟩
theorem wk_row0 {hp1 : Nat → Option AO} {r e sz off : Nat} {cs : List DV} {wr : Bool} (h : hp1 r = some (.data e sz cs wr)) : WkV (fun _ => none) hp1 (lookF []) (.d (.dl [] 0 (some 0))) (.sl r off 0 (some 0)) := by
  rw [WkV]
  refine ⟨_, ?_, .inl rfl⟩
  unfold WkD0
  dsimp only
  rw [h]
  exact ⟨fun r' hr => (by cases hr), some 0, by simp, .inl rfl⟩
theorem wk_i {hp1 hp2 : Nat → Option AO} {k : IntKind} {a b : Int} (h : a = b) : WkV (fun _ => none) hp1 hp2 (.d (.val (.int k a))) (.d (.val (.int k b))) := by subst h; exact wk_same rfl rfl
theorem wk_b {hp1 hp2 : Nat → Option AO} {a b : Bool} (h : a = b) : WkV (fun _ => none) hp1 hp2 (.d (.val (.bool a))) (.d (.val (.bool b))) := by subst h; exact wk_same rfl rfl
theorem wk_dl {hp1 hp2 : Nat → Option AO} {cs cs' : List DV} {n n' : Nat} {c : Option Nat} (h : cs = cs') (hn : n = n') : WkV (fun _ => none) hp1 hp2 (.d (.dl cs n c)) (.d (.dl cs' n' c)) := by subst h hn; exact wk_same rfl rfl
theorem wk_rowE {hp1 : Nat → Option AO} {r e sz n n' : Nat} {c : Option Nat} {cs cells : List DV} {wr : Bool} (h : hp1 r = some (.data e sz cs wr)) (hl : cs.length = n * sz) (hc : cells = cs) (hn : n' = n) : WkV (fun _ => none) hp1 (lookF []) (.d (.dl cells n' none)) (.sl r 0 n c) := by
  subst hc hn
  exact wk_row h (by rw [List.drop_zero, List.take_of_length_le (by omega)])
mutual
theorem renV_none {σ : Nat → Nat} : ∀ (x : AV), x.refs = [] → renV σ x = x
  | .d x, _ => by rw [renV]
  | .ptr r o, h => by rw [AV.refs] at h; cases h
  | .sl r o n c, h => by rw [AV.refs] at h; cases h
  | .dptr cs o, _ => by rw [renV]
  | .agg cs, h => by rw [AV.refs] at h; rw [renV, ren_none h]
  | .tup cs, h => by rw [AV.refs] at h; rw [renV, ren_none h]
  | .clo f cs, h => by rw [AV.refs] at h; rw [renV, ren_none h]
  | .undef, _ => by rw [renV]
  | .ab, _ => by rw [renV]
  | .junk, _ => by rw [renV]
theorem ren_none {σ : Nat → Nat} : ∀ {xs : List AV}, AV.refs.refsL xs = [] → renL σ xs = xs
  | [], _ => by rw [renL]
  | x :: xs, h => by
    rw [AV.refs.refsL, List.append_eq_nil_iff] at h
    rw [renL, renV_none x h.1, ren_none h.2]
end
/-- A contract that makes one row, under a name of the caller's. -/
theorem does_own1 {P : Program} {GL : Nat → Option (List DV)} {f : FuncId} {args : List AV} {n : Nat} {c : Option Nat} {e s : Nat} {cs : List DV} (h : DoesO P GL f args [] (.sl 1 0 n c) [(1, .data e s cs true)]) (hra : AV.refs.refsL args = []) {rd : Nat → Option AO} {r : Nat} (hr : rd r = none) : Does P GL f args [r] (.sl r 0 n c) [(r, .data e s cs true)] rd := by
  have W := does_sw [(1, r)] h
  have s1 : sw [(1, r)] 1 = r := by simp [sw]
  simp only [renV, renH, renO, s1] at W
  rw [ren_none hra] at W
  refine does_of_O W (fun x hx => by cases hx) rfl (by rw [hra]; rfl) (fun x hx => ?_) rfl
  rcases List.mem_singleton.1 hx with rfl
  exact ⟨by simp, .inl hr⟩
/-- A nil slice, given back as a row of the caller's without elements. -/
theorem back_nilrow {hp : List (Nat × AO)} {e s : Nat} : Back [] hp [(1, .data e s [] true)] (.sl 1 0 0 none) (.d (.val (.slice none 0 0))) := by
  refine Back.mk (fun _ => none) (fun r o h => by cases h) ⟨fun r o h => ?_, fun r r' o o' x h1 h2 h3 h4 h5 => by cases h5⟩ ?_
  · unfold lookF look at h
    split at h
    · cases h; unfold WkO; rfl
    · cases h
  · rw [WkV]
    exact ⟨rfl, .inr ⟨rfl, rfl, rfl, rfl, rfl⟩⟩
/-- A name that is free. -/
def freshN (rd : Nat → Option AO) : Nat → Nat → Nat
  | 0, k => k
  | n + 1, k => match rd k with
    | none => k
    | some _ => freshN rd n (k + 1)
/-- A contract that may look at more. -/
theorem does_rds {P : Program} {GL : Nat → Option (List DV)} {f : FuncId} {args : List AV} {rds rds' : List Nat} {v : AV} {us : List (Nat × AO)} {rd : Nat → Option AO} (h : Does P GL f args rds v us rd) (hs : ∀ r ∈ rds, r ∈ rds') : Does P GL f args rds' v us rd :=
  fun E w vs hr hw hS hrel => h E w vs (fun r hm => hr r (hs r hm)) hw hS hrel
/-- Functions without arguments whose results are known. -/
def closedC (l : List (Nat × AV)) : ConK := fun f args rd => match args with
  | [] => match look f l with
    | some v => some (v, [], [])
    | none => none
  | _ => none
def ClosedOk (P : Program) (GL : Nat → Option (List DV)) : List (Nat × AV) → Prop
  | [] => True
  | (f, v) :: l => (fnOk P f = true ∧ DoesO P GL f [] [] v []) ∧ ClosedOk P GL l
theorem closedOk_look {P : Program} {GL : Nat → Option (List DV)} : ∀ {l : List (Nat × AV)} {f : Nat} {v : AV}, ClosedOk P GL l → look f l = some v → fnOk P f = true ∧ DoesO P GL f [] [] v []
  | [], f, v, _, h => by cases h
  | (g, u) :: l, f, v, hl, h => by
    rw [look] at h
    split at h
    · rename_i e; subst e; cases h; exact hl.1
    · exact closedOk_look hl.2 h
theorem closedC_ok {P : Program} {GL : Nat → Option (List DV)} {l : List (Nat × AV)} (hl : ClosedOk P GL l) : ∀ f args rd v us rds, closedC l f args rd = some (v, us, rds) → fnOk P f = true ∧ Does P GL f args rds v us rd := fun f args rd v us rds h => by
  unfold closedC at h
  split at h
  · split at h
    · rename_i v' hv
      cases h
      obtain ⟨h1, h2⟩ := closedOk_look hl hv
      exact ⟨h1, does_data h2 rfl⟩
    · cases h
  · cases h
/-- The one, or else the other. -/
def orC (a b : ConK) : ConK := fun f args rd => match a f args rd with
  | some x => some x
  | none => b f args rd
theorem orC_ok {P : Program} {GL : Nat → Option (List DV)} {a b : ConK} (ha : ∀ f args rd v us rds, a f args rd = some (v, us, rds) → fnOk P f = true ∧ Does P GL f args rds v us rd) (hb : ∀ f args rd v us rds, b f args rd = some (v, us, rds) → fnOk P f = true ∧ Does P GL f args rds v us rd) :
    ∀ f args rd v us rds, orC a b f args rd = some (v, us, rds) → fnOk P f = true ∧ Does P GL f args rds v us rd := fun f args rd v us rds h => by
  unfold orC at h
  split at h
  · rename_i x hx; cases h; exact ha _ _ _ _ _ _ hx
  · exact hb _ _ _ _ _ _ h
/-- A call's end, told. -/
theorem doesO_told {P : Program} {GL : Nat → Option (List DV)} {f : FuncId} {fn : Func} {c : Code} (hf : P.funcs[f]? = some fn) (hb : fn.body = some c) {args : List AV} (hn : args.length ≤ fn.ntmps) {os us : List (Nat × AO)} {x v : AV} {e : Exit} {s' : SL}
    (h : To P GL fn.ntmps (lookF os) c ⟨fn.ntmps, argTm 0 args, os⟩ e s') (he : endB e = true) (hx : resA (tiOf P) fn s' = some x) (hbk : Back os s'.hp us v x) : DoesO P GL f args os v us := fun E w vs hE hw hs hrel => by
  have hlen := relL_length _ _ hrel
  have hvs : vs.size = args.length := by rw [← Array.length_toList]; exact hlen
  refine calls_of_wp hf hb ?_
  have hS : Sim GL fn.ntmps E { tmps := vs ++ Array.replicate (fn.ntmps - vs.size) undef, defers := [] } w (⟨fn.ntmps, argTm 0 args, os⟩ : SL).S := by
    refine ⟨hw, hE, hs, ?_, rfl, fun t => ?_⟩
    · simp only [Array.size_append, Array.size_replicate]; omega
    · show Rel _ (match look t (argTm 0 args) with | some x => x | none => .junk) _
      rw [look_argTm]
      simp only [Nat.zero_le, if_true, Nat.sub_zero]
      cases hx : args[t]? with
      | none => simp only; rw [Rel]; trivial
      | some x =>
        obtain ⟨u, h1, h2⟩ := relL_get _ _ t x hrel hx
        have ht : t < vs.size := by
          have := (List.getElem?_eq_some_iff.1 h1).1
          simpa using this
        rw [Array.getD_eq_getD_getElem?, Array.getElem?_append_left ht]
        have h1' : vs[t]? = some u := by simpa using h1
        rw [h1']
        exact h2
  refine wp_mono (h E w E _ w hE hS (Along.refl _ _)) fun e1 a' w' ⟨s1, E', ⟨h1, h2⟩, h3, h4⟩ => ?_
  subst h1 h2
  obtain ⟨θ, k0, k2, k3⟩ := hbk
  have fin : a'.defers = [] ∧ ∃ y, (results fn a'.tmps).run P w' = .ok y w' ∧ ∃ u E'', Ending.returned y = .returned u ∧ w'.heap = E''.h ∧ E''.hp = lookF us ∧ SimH GL E'' ∧ Ext E E'' ∧ StepF E w E'' w' ∧ Rel E'' v u := by
    obtain ⟨y, g1, g2⟩ := resA_sim h3 hx
    have hp : E'.hp = lookF s'.hp := h3.hp
    rw [← hp] at k2 k3
    exact ⟨h3.df, y, g1, y, weakE E' θ (lookF us), rfl, h3.h, rfl, weak_simH h3.sim k2, weak_ext0 h4 k2 (fun r o ho => by rw [hE] at ho; exact k0 r o ho), weak_step k2 h4.fr, weak_rel h3.sim k2 _ _ _ k3 g2⟩
  cases e1 with
  | normal => exact fin
  | ret => exact fin
  | exit i => cases he
  | goto l => cases he
  | panic ch => cases he
  | outgrown => cases he
mutual
/-- A value told as data. -/
def tellV (rd : Nat → Option AO) : AV → Option AV
  | .d x => some (.d x)
  | .sl r off n _ => match rd r with
    | some (.data _ s cs _) => some (.d (.dl ((cs.drop off).take (n * s)) n none))
    | _ => none
  | .agg cs => (tellL rd cs).map .agg
  | .tup cs => (tellL rd cs).map .tup
  | _ => none
def tellL (rd : Nat → Option AO) : List AV → Option (List AV)
  | [] => some []
  | x :: xs => match tellV rd x, tellL rd xs with
    | some y, some ys => some (y :: ys)
    | _, _ => none
end
mutual
theorem tellV_wk {hp : List (Nat × AO)} : ∀ (x : AV) (v : AV), tellV (lookF hp) x = some v → WkV (fun _ => none) (lookF hp) (lookF []) v x
  | .d x, v, h => by rw [tellV] at h; cases h; exact wk_same rfl rfl
  | .sl r off n c, v, h => by
    rw [tellV] at h
    split at h
    · rename_i e s cs wr hr
      cases h
      exact wk_row hr rfl
    · cases h
  | .agg cs, v, h => by
    rw [tellV, Option.map_eq_some_iff] at h
    obtain ⟨l, h1, rfl⟩ := h
    exact wk_agg (tellL_wk cs l h1)
  | .tup cs, v, h => by
    rw [tellV, Option.map_eq_some_iff] at h
    obtain ⟨l, h1, rfl⟩ := h
    exact wk_tup (tellL_wk cs l h1)
  | .ptr _ _, v, h => by rw [tellV] at h; cases h; all_goals simp
  | .dptr _ _, v, h => by rw [tellV] at h; cases h; all_goals simp
  | .clo _ _, v, h => by rw [tellV] at h; cases h; all_goals simp
  | .undef, v, h => by rw [tellV] at h; cases h; all_goals simp
  | .ab, v, h => by rw [tellV] at h; cases h; all_goals simp
  | .junk, v, h => by rw [tellV] at h; cases h; all_goals simp
theorem tellL_wk {hp : List (Nat × AO)} : ∀ (xs vs : List AV), tellL (lookF hp) xs = some vs → WkL (fun _ => none) (lookF hp) (lookF []) vs xs
  | [], vs, h => by rw [tellL] at h; cases h; exact wk_end
  | x :: xs, vs, h => by
    rw [tellL] at h
    split at h
    · rename_i y ys h1 h2
      cases h
      exact wk_cons (tellV_wk x y h1) (tellL_wk xs ys h2)
    · cases h
end
/-- **It answers this**: a function without arguments, run; its result told as data. -/
theorem runs_told {P : Program} {GL : Nat → Option (List DV)} {L : List (List (Option TI))} {cs : List Nat} (K : Facts P L cs) {l : List (Nat × Func)} (hl : TabOk P l) {con : ConK} (hcon : ∀ f args rd v us rds, con f args rd = some (v, us, rds) → fnOk P f = true ∧ Does P GL f args rds v us rd) {f : FuncId} {fn : Func} {c : Code} (hf : P.funcs[f]? = some fn) (hb : fn.body = some c) (n : Nat) {v : AV}
    (h : ∀ R : Bool → Option AV → Prop, xcode real (fun _ _ _ _ _ _ => False) con (tabOf l) (tabF (tiOf P) L) GL (qOf cs) n fn.ntmps [] c (fun e s _ => R (endB e) ((resA (tabF (tiOf P) L) fn s).bind (tellV (rdQ s)))) ⟨fn.ntmps, [], []⟩ 0 = R true (some v)) : DoesO P GL f [] [] v [] := by
  have h' := h (fun b o => b = true ∧ o = some v)
  have h'' := h'.mpr ⟨rfl, rfl⟩
  rw [← K.hT] at h''
  obtain ⟨e, s', F', ⟨h1, h2⟩, h3⟩ := xcode_sound K.hq K.hdp K.hm (fun _ _ _ _ _ _ h => h.elim) hcon (tabOf_ok hl) n fn.ntmps [] (lookF []) c _ _ 0 (fun r hr => by cases hr) h''
  rw [Option.bind_eq_some_iff] at h2
  obtain ⟨x, k1, k2⟩ := h2
  rw [rdQ_eq] at k2
  exact doesO_told hf hb (args := []) (Nat.zero_le _) h3 h1 k1 (back_tell (tellV_wk (hp := s'.hp) x v k2))
def valB (x y : Value) : Bool :=
  match x, y with
  | .int k a, .int k' b => decide (k = k') && decide (a = b)
  | .bool a, .bool b => a == b
  | .slice none 0 0, .slice none 0 0 => true
  | .string a, .string b => a.data.toList == b.data.toList
  | _, _ => false
theorem valB_eq {x y : Value} (h : valB x y = true) : x = y := by
  unfold valB at h
  split at h
  · simp only [Bool.and_eq_true, decide_eq_true_eq] at h; rw [h.1, h.2]
  · rw [eq_of_beq h]
  · rfl
  · rename_i a b
    have h' := eq_of_beq h
    cases a; cases b
    simp only [Array.toList_inj] at h'
    rw [h']
  · cases h
mutual
/-- The same data? (surely, if it says so) -/
def dvB : DV → DV → Bool
  | .val a, .val b => valB a b
  | .dl xs n c, .dl ys n' c' => dvsB xs ys && (decide (n = n') && decide (c = c'))
  | _, _ => false
def dvsB : List DV → List DV → Bool
  | [], [] => true
  | x :: xs, y :: ys => dvB x y && dvsB xs ys
  | _, _ => false
end
mutual
theorem dvB_eq : ∀ (x y : DV), dvB x y = true → x = y
  | .val a, .val b, h => by rw [dvB] at h; rw [valB_eq h]
  | .val a, .dl ys n' c', h => by simp [dvB] at h
  | .dl xs n c, .val b, h => by simp [dvB] at h
  | .dl xs n c, .dl ys n' c', h => by
    rw [dvB] at h
    simp only [Bool.and_eq_true, decide_eq_true_eq] at h
    rw [dvsB_eq xs ys h.1, h.2.1, h.2.2]
theorem dvsB_eq : ∀ (xs ys : List DV), dvsB xs ys = true → xs = ys
  | [], [], h => rfl
  | [], y :: ys, h => by simp [dvsB] at h
  | x :: xs, [], h => by simp [dvsB] at h
  | x :: xs, y :: ys, h => by
    rw [dvsB] at h
    simp only [Bool.and_eq_true] at h
    rw [dvB_eq x y h.1, dvsB_eq xs ys h.2]
end
mutual
def avB : AV → AV → Bool
  | .d x, .d y => dvB x y
  | .agg xs, .agg ys => avsB xs ys
  | _, _ => false
def avsB : List AV → List AV → Bool
  | [], [] => true
  | x :: xs, y :: ys => avB x y && avsB xs ys
  | _, _ => false
end
mutual
theorem avB_eq : ∀ (x y : AV), avB x y = true → x = y
  | .d x, y, h => by
    cases y with
    | d y => rw [avB] at h; rw [dvB_eq _ _ h]
    | _ => simp [avB] at h
  | .agg xs, y, h => by
    cases y with
    | agg ys => rw [avB] at h; rw [avsB_eq _ _ h]
    | _ => simp [avB] at h
  | .ptr _ _, y, h => by simp [avB] at h
  | .sl _ _ _ _, y, h => by simp [avB] at h
  | .dptr _ _, y, h => by simp [avB] at h
  | .tup _, y, h => by simp [avB] at h
  | .clo _ _, y, h => by simp [avB] at h
  | .undef, y, h => by simp [avB] at h
  | .ab, y, h => by simp [avB] at h
  | .junk, y, h => by simp [avB] at h
theorem avsB_eq : ∀ (xs ys : List AV), avsB xs ys = true → xs = ys
  | [], [], h => rfl
  | [], y :: ys, h => by simp [avsB] at h
  | x :: xs, [], h => by simp [avsB] at h
  | x :: xs, y :: ys, h => by
    rw [avsB] at h
    simp only [Bool.and_eq_true] at h
    rw [avB_eq x y h.1, avsB_eq xs ys h.2]
end
/-- Calls with these arguments, whose results are known. -/
def litC : List (Nat × List AV × AV) → ConK
  | [], _, _, _ => none
  | (g, as, v) :: l, f, args, rd => match Nat.beq f g && avsB args as with
    | true => some (v, [], [])
    | false => litC l f args rd
def LitOk (P : Program) (GL : Nat → Option (List DV)) : List (Nat × List AV × AV) → Prop
  | [] => True
  | (f, as, v) :: l => (fnOk P f = true ∧ DoesO P GL f as [] v [] ∧ refsB [] (AV.refs.refsL as) = true) ∧ LitOk P GL l
theorem litC_ok {P : Program} {GL : Nat → Option (List DV)} : ∀ {l : List (Nat × List AV × AV)}, LitOk P GL l → ∀ f args rd v us rds, litC l f args rd = some (v, us, rds) → fnOk P f = true ∧ Does P GL f args rds v us rd
  | [], _, f, args, rd, v, us, rds, h => by rw [litC] at h; cases h
  | (g, as, u) :: l, hl, f, args, rd, v, us, rds, h => by
    rw [litC] at h
    split at h
    · rename_i hb
      simp only [Bool.and_eq_true] at hb
      have e1 := Nat.eq_of_beq_eq_true hb.1
      have e2 := avsB_eq _ _ hb.2
      subst e1 e2
      cases h
      exact ⟨hl.1.1, does_data hl.1.2.1 hl.1.2.2⟩
    · exact litC_ok hl.2 f args rd v us rds h
/-- **It answers this**: a function with arguments that hold no object, run; its result told as data. -/
theorem runs_tolda {P : Program} {GL : Nat → Option (List DV)} {L : List (List (Option TI))} {cs : List Nat} (K : Facts P L cs) {l : List (Nat × Func)} (hl : TabOk P l) {con : ConK} (hcon : ∀ f args rd v us rds, con f args rd = some (v, us, rds) → fnOk P f = true ∧ Does P GL f args rds v us rd) {f : FuncId} {fn : Func} {c : Code} (hf : P.funcs[f]? = some fn) (hb : fn.body = some c) (n : Nat) {args : List AV} (hn : args.length ≤ fn.ntmps) {v : AV}
    (h : ∀ R : Bool → Option AV → Prop, xcode real (fun _ _ _ _ _ _ => False) con (tabOf l) (tabF (tiOf P) L) GL (qOf cs) n fn.ntmps [] c (fun e s _ => R (endB e) ((resA (tabF (tiOf P) L) fn s).bind (tellV (rdQ s)))) ⟨fn.ntmps, argTm 0 args, []⟩ 0 = R true (some v)) : DoesO P GL f args [] v [] := by
  have h' := h (fun b o => b = true ∧ o = some v)
  have h'' := h'.mpr ⟨rfl, rfl⟩
  rw [← K.hT] at h''
  obtain ⟨e, s', F', ⟨h1, h2⟩, h3⟩ := xcode_sound K.hq K.hdp K.hm (fun _ _ _ _ _ _ h => h.elim) hcon (tabOf_ok hl) n fn.ntmps [] (lookF []) c _ _ 0 (fun r hr => by cases hr) h''
  rw [Option.bind_eq_some_iff] at h2
  obtain ⟨x, k1, k2⟩ := h2
  rw [rdQ_eq] at k2
  exact doesO_told hf hb hn h3 h1 k1 (back_tell (tellV_wk (hp := s'.hp) x v k2))
/-- **A function's contract, its loops gone through round by round** (calls of functions in the table are entered, the others are met by contracts). -/
theorem does_xp {P : Program} {GL : Nat → Option (List DV)} {L : List (List (Option TI))} {cs : List Nat} (K : Facts P L cs) {l : List (Nat × Func)} (hl : TabOk P l) {f : FuncId} {fn : Func} {c : Code} (hf : P.funcs[f]? = some fn) (hb : fn.body = some c) {args : List AV} (hn : args.length ≤ fn.ntmps) (n F0 : Nat) {v : AV}
    (h : ∀ C F p, C = cxtOf P GL fn.ntmps (lookF []) → F = tiOf P → p = real → xcode p C.D (fun _ _ _ => none) (tabOf l) (tabF F L) GL (qOf cs) n fn.ntmps [] c (fun e s _ => retQ (tabF F L) fn [] v [] e s) ⟨fn.ntmps, argTm 0 args, []⟩ F0) : DoesO P GL f args [] v [] := by
  have h' := h _ _ _ rfl rfl rfl
  rw [← K.hT] at h'
  obtain ⟨e, s', F', h1, h3⟩ := xcode_sound K.hq K.hdp K.hm (fun _ _ _ _ _ _ h => h) (fun _ _ _ _ _ _ h => by cases h) (tabOf_ok hl) n fn.ntmps [] (lookF []) c _ _ F0 (fun r hr => by cases hr) h'
  cases e with
  | normal =>
    simp only [retQ] at h1
    split at h1
    · rename_i x hx; exact doesO_told hf hb hn h3 rfl hx h1
    · exact h1.elim
  | ret =>
    simp only [retQ] at h1
    split at h1
    · rename_i x hx; exact doesO_told hf hb hn h3 rfl hx h1
    · exact h1.elim
  | exit i => exact h1.elim
  | goto l => exact h1.elim
  | panic ch => exact h1.elim
  | outgrown => exact h1.elim
end Go.Proofs.Ytonejiaiieiboaa
