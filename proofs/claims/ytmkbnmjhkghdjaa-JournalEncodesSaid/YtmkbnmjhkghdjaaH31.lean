/- The abstract machine, run: what is run so is so. -/
import Derived.Test.YtmkbnmjhkghdjaaH30
set_option linter.unusedVariables false
set_option linter.unusedSimpArgs false
namespace Go.Proofs.Ytmkbnmjhkghdjaa
open Go.RowKit

section
variable {P : Program} {GL : Nat → Option (List DV)} {q : Nat → Bool}
/-- The code goes from s to s', leaving so. -/
def To (P : Program) (GL : Nat → Option (List DV)) (N : Nat) (hp0 : Nat → Option AO) (c : Code) (s : SL) (e : Exit) (s' : SL) : Prop :=
  AW P GL N hp0 c (fun e1 s1 => e1 = e ∧ s1 = s'.S) s.S
theorem xops_run {N base : Nat} {ops : Array Oper} {draw : Bool} {anc : List (List Nat)} (hanc : draw = true → anc = ancT ops ops.size) {call : CallK}
    (hcall : ∀ f args s F K, call f args s F K → ∃ v us rds F', fnOk P f = true ∧ Does P GL f args rds v us s.rd ∧ K v us rds F') {K : SL → Nat → Prop} :
    ∀ (is : List (Nat × Oper)) (s : SL) (log : List (Nat × Ef)) (F : Nat), (∀ x ∈ is, ops[x.1]? = some x.2) → xops real call (tiOf P) GL q N base ops draw anc K is s log F → RunsTo P GL q N base ops draw (fun s' => ∃ F', K s' F') (is.map (·.1)) s log
  | [], s, log, F, _, h => ⟨[], s, rfl, rfl, ⟨F, h⟩, fun _ y hy => (by cases hy), fun _ => List.Pairwise.nil⟩
  | (i, o) :: is, s, log, F, hall, h => by
    have ho : ops[i]? = some o := hall (i, o) List.mem_cons_self
    have hall' : ∀ x ∈ is, ops[x.1]? = some x.2 := fun x hx => hall x (List.mem_cons_of_mem _ hx)
    rw [List.map_cons]
    unfold xops at h
    simp only [evQ_eq, rdQ_eq, dstQ_eq] at h
    · skip
      split at h
      · exact h.elim
      · rename_i hdst
        have hd : ∀ t, o.dst = some t → t < N := fun t e => by
          unfold dstB at hdst
          rw [e] at hdst
          simpa using hdst
        split at h
        · exact h.elim
        · rename_i b hb
          cases b with
          | true =>
            try simp only at h
            split at h
            · rename_i f args hc
              obtain ⟨v, us, rds, F', k1, k2, k4⟩ := hcall _ _ _ _ _ h
              split at k4
              · rename_i k3
                refine runsTo_cons hanc ho (SL.app_S s o.dst ⟨v, us, rds, [], chgs s.rd us⟩) ?_ (draw_or k3) (xops_run hanc hcall is _ _ _ hall' k4)
                unfold StepR
                rw [ho]
                refine ⟨hd, .inl ⟨hb, rfl, ?_⟩⟩
                rw [SL.ev_S, hc]
                exact ⟨k1, rfl, k2⟩
              · exact k4.elim
            · rename_i hc
              split at h
              · rename_i f hf
                rw [effP_real] at hf
                split at h
                · rename_i hn
                  refine runsTo_cons hanc ho (SL.app_S s o.dst ⟨f.v, f.upd, f.rds, f.lvs, chgs s.rd f.upd⟩) ?_ (draw_or hn) (xops_run hanc hcall is _ _ _ hall' h)
                  unfold StepR
                  rw [ho]
                  refine ⟨hd, .inl ⟨hb, rfl, ?_⟩⟩
                  rw [SL.ev_S, hc]
                  exact ⟨f, hf, rfl, rfl, rfl, rfl⟩
                · exact h.elim
              · exact h.elim
          | false =>
            try simp only at h
            split at h
            · rename_i hn
              refine runsTo_cons hanc ho (SL.put_S s o.dst) ?_ (draw_or hn) (xops_run hanc hcall is _ _ _ hall' h)
              unfold StepR
              rw [ho]
              exact ⟨hd, .inr ⟨hb, rfl⟩⟩
            · exact h.elim
/-- **From the body's run to the call.** -/
theorem doesO_of_to {f : FuncId} {fn : Func} {c : Code} (hf : P.funcs[f]? = some fn) (hb : fn.body = some c) {args : List AV} (hn : args.length ≤ fn.ntmps) {os us : List (Nat × AO)} {x : AV} {e : Exit} {s' : SL}
    (h : To P GL fn.ntmps (lookF os) c ⟨fn.ntmps, argTm 0 args, os⟩ e s') (he : endB e = true) (hx : resA (tiOf P) fn s' = some x)
    (hus : ∀ r o, look r us = some o → s'.rd r = some o) (hcl : closedB us = true) (hxr : refsB us x.refs = true) (hin : (os.all fun y => (look y.1 us).isSome) = true) : DoesO P GL f args os x us := fun E w vs hE hw hs hrel => by
  have hlen := relL_length _ _ hrel
  have hvs : vs.size = args.length := by rw [← Array.length_toList]; exact hlen
  refine calls_of_wp hf hb ?_
  have hS : Sim GL fn.ntmps E { tmps := vs ++ Array.replicate (fn.ntmps - vs.size) undef, defers := [] } w (⟨fn.ntmps, argTm 0 args, os⟩ : SL).S := by
    refine ⟨hw, hE, hs, ?_, rfl, fun t => ?_⟩
    · simp only [Array.size_append, Array.size_replicate]; omega
    · show Rel _ (match look t (argTm 0 args) with | some x => x | none => .junk) _
      rw [look_argTm]
      simp only [Nat.zero_le, if_true, Nat.sub_zero]
      cases hx : args[t]? with
      | none => simp only; rw [Rel]; trivial
      | some x =>
        obtain ⟨u, h1, h2⟩ := relL_get _ _ t x hrel hx
        have ht : t < vs.size := by
          have := (List.getElem?_eq_some_iff.1 h1).1
          simpa using this
        rw [Array.getD_eq_getD_getElem?, Array.getElem?_append_left ht]
        have h1' : vs[t]? = some u := by simpa using h1
        rw [h1']
        exact h2
  refine wp_mono (h E w E _ w hE hS (Along.refl _ _)) fun e1 a' w' ⟨s1, E', ⟨h1, h2⟩, h3, h4⟩ => ?_
  subst h1 h2
  have hos : ∀ r o, look r us = some o → E'.hp r = some o := fun r o ho => by rw [h3.hp]; exact hus r o ho
  have fin : a'.defers = [] ∧ ∃ y, (results fn a'.tmps).run P w' = .ok y w' ∧ ∃ u E'', Ending.returned y = .returned u ∧ w'.heap = E''.h ∧ E''.hp = lookF us ∧ SimH GL E'' ∧ Ext E E'' ∧ StepF E w E'' w' ∧ Rel E'' x u := by
    obtain ⟨y, g1, g2⟩ := resA_sim h3 hx
    have hA := along_rest h4 hos (fun r hr => by
      rw [hE] at hr
      have hr' : (look r os).isSome = true := hr
      cases hl : look r os with
      | none => rw [hl] at hr'; cases hr'
      | some o => exact List.all_eq_true.1 hin _ (look_mem hl))
    exact ⟨h3.df, y, g1, y, restE E' us, rfl, h3.h, rfl, rest_sim hos (fun r o ho => List.all_eq_true.1 hcl _ (look_mem ho)) h3.sim, hA.ext, hA.fr, rest_refs hos hxr g2⟩
  cases e1 with
  | normal => exact fin
  | ret => exact fin
  | exit i => cases he
  | goto l => cases he
  | panic ch => cases he
  | outgrown => cases he
/-- Rounds of a loop. -/
def Rounds (P : Program) (GL : Nat → Option (List DV)) (N : Nat) (hp0 : Nat → Option AO) (c : Code) (e : Exit) (s2 : SL) : Nat → SL → Prop
  | 0, s => e ≠ .normal ∧ To P GL N hp0 c s e s2
  | m + 1, s => ∃ s1 s1', To P GL N hp0 c s .normal s1 ∧ Tells GL N hp0 s1.S s1'.S ∧ Rounds P GL N hp0 c e s2 m s1'
theorem to_loop {N : Nat} {hp0 : Nat → Option AO} {c : Code} {e : Exit} {s s2 : SL} {m : Nat} (h : Rounds P GL N hp0 c e s2 m s) : To P GL N hp0 (.loop c) s e s2 := fun E0 w0 E a w he hS hA => by
  refine wp_loopN (fun n a w => ∃ s E, Rounds P GL N hp0 c e s2 n s ∧ Sim GL N E a w s.S ∧ Along E0 w0 E w) ?_ ⟨s, E, h, hS, hA⟩
  rintro n a w ⟨s, E, g1, g2, g3⟩
  cases n with
  | zero =>
    obtain ⟨k1, k2⟩ := g1
    refine wp_mono (k2 E0 w0 E a w he g2 g3) fun e1 a' w' ⟨s1, E', ⟨h1, h2⟩, h3, h4⟩ => ?_
    subst h1 h2
    cases e1 with
    | normal => exact (k1 rfl).elim
    | _ => exact ⟨s2.S, E', ⟨rfl, rfl⟩, h3, h4⟩
  | succ n =>
    obtain ⟨s1, s1', k1, k2, k3⟩ := g1
    refine wp_mono (k1 E0 w0 E a w he g2 g3) fun e1 a' w' ⟨s3, E', ⟨h1, h2⟩, h3, h4⟩ => ?_
    subst h1 h2
    obtain ⟨E'', q1, q2⟩ := k2 E0 w0 E' a' w' he h3 h4
    exact ⟨n, Nat.lt_succ_self n, s1', E'', k3, q1, q2⟩
variable {D : DoK} {con : ConK} {tab : FuncId → Option Func}
/-- What is run by this much fuel is so. -/
def Sound (P : Program) (GL : Nat → Option (List DV)) (q : Nat → Bool) (D : DoK) (con : ConK) (tab : FuncId → Option Func) (n : Nat) : Prop :=
  ∀ (N : Nat) (ks : List Nat) (hp0 : Nat → Option AO) (c : Code) (Q : Exit → SL → Nat → Prop) (s : SL) (F : Nat), (∀ r, (hp0 r).isSome = true → r ∈ ks) → xcode real D con tab (tiOf P) GL q n N ks c Q s F → ∃ e s' F', Q e s' F' ∧ To P GL N hp0 c s e s'
theorem xcall_sound (hD : ∀ f args rds v us rd, D f args rds v us rd → fnOk P f = true ∧ Does P GL f args rds v us rd) (hcon : ∀ f args rd v us rds, con f args rd = some (v, us, rds) → fnOk P f = true ∧ Does P GL f args rds v us rd) (htab : ∀ f fn, tab f = some fn → P.funcs[f]? = some fn ∧ fnOk P f = true) {n : Nat} (hn : Sound P GL q D con tab n) (f : FuncId) (args : List AV) (s : SL) (F : Nat) (K : AV → List (Nat × AO) → List Nat → Nat → Prop)
    (h : xcall D con tab (tiOf P) (xcode real D con tab (tiOf P) GL q n) f args s F K) : ∃ v us rds F', fnOk P f = true ∧ Does P GL f args rds v us s.rd ∧ K v us rds F' := by
  unfold xcall at h
  simp only [rdQ_eq] at h
  split at h
  · rename_i v us rds hc
    obtain ⟨c1, c2⟩ := hcon _ _ _ _ _ _ hc
    exact ⟨v, us, rds, F, c1, c2, h⟩
  split at h
  · obtain ⟨v, us, rds, h1, h2⟩ := h
    obtain ⟨c1, c2⟩ := hD _ _ _ _ _ _ h1
    exact ⟨v, us, rds, F, c1, c2, h2⟩
  · rename_i fn hfn
    obtain ⟨t1, t2⟩ := htab f fn hfn
    split at h
    · exact h.elim
    · rename_i c hb
      try simp only at h
      generalize hos : pickO s.rd (reach s.rd 1000 (AV.refs.refsL args) []) = os at h
      split at h
      · exact h.elim
      · rename_i hok
        unfold callOk at hok
        simp only [Bool.and_eq_true, decide_eq_true_eq] at hok
        obtain ⟨k1, k2, k3⟩ := hok
        obtain ⟨e, s', F', hq, hto⟩ := hn fn.ntmps (os.map (·.1)) (lookF os) c _ _ F (fun r hr => by
          have hr' : (look r os).isSome = true := hr
          cases hl : look r os with
          | none => rw [hl] at hr'; cases hr'
          | some o => exact List.mem_map.2 ⟨_, look_mem hl, rfl⟩) h
        unfold xend at hq
        split at hq
        · exact hq.elim
        · rename_i he
          split at hq
          · exact hq.elim
          · rename_i x hx
            simp only [rdQ_eq] at hq
            generalize hus : pickO s'.rd (reach s'.rd 1000 (x.refs ++ os.map (·.1)) []) = us at hq
            split at hq
            · exact hq.elim
            · rename_i hbk
              unfold backOk at hbk
              rw [rdQ_eq] at hbk
              simp only [Bool.and_eq_true] at hbk
              obtain ⟨b1, b2, b3, b4⟩ := hbk
              refine ⟨x, us, us.map (·.1), F', t2, ?_, hq⟩
              have hD := doesO_of_to t1 hb k1 hto he hx (us := us) (fun r o ho => by rw [← hus] at ho; exact pickO_look ho) b1 b2 b3
              refine does_of_O hD (fun y hy => ?_) k2 k3 (fun y hy => ⟨List.mem_map.2 ⟨y, hy, rfl⟩, ?_⟩) b3
              · refine ⟨?_, pickO_mem (by rw [hos]; exact hy)⟩
                have := List.all_eq_true.1 b3 y hy
                cases hl : look y.1 us with
                | none => rw [hl] at this; cases this
                | some o => exact List.mem_map.2 ⟨_, look_mem hl, rfl⟩
              · have := List.all_eq_true.1 b4 y hy
                rcases (Bool.or_eq_true _ _).mp this with h1 | h1
                · exact .inl (by simpa using h1)
                · exact .inr h1
theorem loop_sound {n : Nat} (ih : ∀ m, m < n → Sound P GL q D con tab m) : ∀ m, m < n → ∀ (N : Nat) (ks : List Nat) (hp0 : Nat → Option AO) (c : Code) (Q : Exit → SL → Nat → Prop) (s : SL) (F : Nat), (∀ r, (hp0 r).isSome = true → r ∈ ks) →
    xcode real D con tab (tiOf P) GL q (m + 1) N ks (.loop c) Q s F → ∃ e s' F' k, Q e s' F' ∧ Rounds P GL N hp0 c e s' k s := by
  intro m
  induction m with
  | zero =>
    intro hm N ks hp0 c Q s F hk h
    rw [xcode] at h
    try simp only at h
    obtain ⟨e, s', F', h1, h2⟩ := ih 0 hm N ks hp0 c _ s F hk h
    rw [xcode] at h
    exact h.elim
  | succ m ihm =>
    intro hm N ks hp0 c Q s F hk h
    rw [xcode] at h
    try simp only at h
    obtain ⟨e, s', F', h1, h2⟩ := ih (m + 1) hm N ks hp0 c _ s F hk h
    cases e with
    | normal =>
      simp only at h1
      split at h1
      · obtain ⟨e, s2, F2, k, g1, g2⟩ := ihm (by omega) N ks hp0 c Q _ F' hk h1
        exact ⟨e, s2, F2, k + 1, g1, s', _, h2, Tells.refl _, g2⟩
      · split at h1
        · rename_i hg
          obtain ⟨e, s2, F2, k, g1, g2⟩ := ihm (by omega) N ks hp0 c Q _ F' hk h1
          exact ⟨e, s2, F2, k + 1, g1, s', _, h2, tells_gc hk hg, g2⟩
        · exact h1.elim
    | exit i => exact ⟨_, s', F', 0, h1, by simp, h2⟩
    | goto l => exact ⟨_, s', F', 0, h1, by simp, h2⟩
    | ret => exact ⟨_, s', F', 0, h1, by simp, h2⟩
    | panic ch => exact ⟨_, s', F', 0, h1, by simp, h2⟩
    | outgrown => exact ⟨_, s', F', 0, h1, by simp, h2⟩
theorem to_mono {N : Nat} {hp0 : Nat → Option AO} {c : Code} {s s' : SL} {e : Exit} (h : To P GL N hp0 c s e s') {Q : Exit → S → Prop} (hq : Q e s'.S) : AW P GL N hp0 c Q s.S := AW.mono h fun e1 s1 ⟨h1, h2⟩ => by rw [h1, h2]; exact hq
theorem xcode_sound (hq : QOk P q) (hdp : 30 ≤ P.depth) (hm : P.follows .mixedOrders = true) (hD : ∀ f args rds v us rd, D f args rds v us rd → fnOk P f = true ∧ Does P GL f args rds v us rd) (hcon : ∀ f args rd v us rds, con f args rd = some (v, us, rds) → fnOk P f = true ∧ Does P GL f args rds v us rd) (htab : ∀ f fn, tab f = some fn → P.funcs[f]? = some fn ∧ fnOk P f = true) (n : Nat) : Sound P GL q D con tab n := by
  induction n using Nat.strongRecOn with
  | _ n ih =>
    intro N ks hp0 c Q s F hk h
    cases n with
    | zero => rw [xcode] at h; exact h.elim
    | succ n =>
      have ihn := ih n (Nat.lt_succ_self n)
      cases c with
      | skip => rw [xcode] at h; exact ⟨_, s, F, h, aw_skip ⟨rfl, rfl⟩⟩
      | label l => rw [xcode] at h; exact ⟨_, s, F, h, aw_label ⟨rfl, rfl⟩⟩
      | exit id => rw [xcode] at h; exact ⟨_, s, F, h, aw_exit ⟨rfl, rfl⟩⟩
      | ret => rw [xcode] at h; exact ⟨_, s, F, h, aw_ret ⟨rfl, rfl⟩⟩
      | region id ops draw =>
        rw [xcode] at h
        try simp only at h
        split at h
        · rename_i hb
          obtain ⟨L, s', g1, g2, ⟨F', g3⟩, g4, g5⟩ := xops_run (fun hd => by rw [hd]; rfl) (xcall_sound hD hcon htab ihn) _ _ _ _ (fun x hx => by have := (zipI_mem 0 ops.toList x hx).2; rw [Nat.sub_zero, Array.getElem?_toList] at this; exact this) h
          exact ⟨_, s', F', g3, aw_ran hq hdp hm (draw_or hb) (by rw [g1, zipI_fst, List.range_eq_range', Array.length_toList]) g2 g5⟩
        · exact h.elim
      | seq a b =>
        rw [xcode] at h
        try simp only at h
        obtain ⟨e, s', F', h1, h2⟩ := ihn N ks hp0 a _ s F hk h
        have other : ∀ e1, e1 ≠ .normal → To P GL N hp0 a s e1 s' → To P GL N hp0 (.seq a b) s e1 s' := fun e1 hne h3 => aw_seq (to_mono h3 (by cases e1 <;> first | exact (hne rfl).elim | exact ⟨rfl, rfl⟩))
        cases e with
        | normal =>
          obtain ⟨e2, s2, F2, h3, h4⟩ := ihn N ks hp0 b _ s' F' hk h1
          exact ⟨e2, s2, F2, h3, aw_seq (to_mono h2 h4)⟩
        | exit i => exact ⟨_, s', F', h1, other _ (by simp) h2⟩
        | goto l => exact ⟨_, s', F', h1, other _ (by simp) h2⟩
        | ret => exact ⟨_, s', F', h1, other _ (by simp) h2⟩
        | panic ch => exact ⟨_, s', F', h1, other _ (by simp) h2⟩
        | outgrown => exact ⟨_, s', F', h1, other _ (by simp) h2⟩
      | cond x a b =>
        rw [xcode] at h
        try simp only at h
        split at h
        · rename_i t ht
          cases t with
          | true =>
            obtain ⟨e, s', F', h1, h2⟩ := ihn N ks hp0 a _ s F hk h
            exact ⟨e, s', F', h1, aw_cond (by rw [SL.ev_S, ← evQ_eq]; exact ht) (fun _ => h2) (fun hf => by cases hf)⟩
          | false =>
            obtain ⟨e, s', F', h1, h2⟩ := ihn N ks hp0 b _ s F hk h
            exact ⟨e, s', F', h1, aw_cond (by rw [SL.ev_S, ← evQ_eq]; exact ht) (fun hf => by cases hf) (fun _ => h2)⟩
        · exact h.elim
      | block id a =>
        rw [xcode] at h
        try simp only at h
        obtain ⟨e, s', F', h1, h2⟩ := ihn N ks hp0 a _ s F hk h
        cases e with
        | exit i =>
          simp only [blkQ] at h1
          by_cases hi : i = id
          · rw [if_pos hi] at h1
            exact ⟨_, s', F', h1, aw_block (to_mono h2 (by show (if i = id then _ else _); rw [if_pos hi]; exact ⟨rfl, rfl⟩))⟩
          · rw [if_neg hi] at h1
            exact ⟨_, s', F', h1, aw_block (to_mono h2 (by show (if i = id then _ else _); rw [if_neg hi]; exact ⟨rfl, rfl⟩))⟩
        | normal => exact ⟨_, s', F', h1, aw_block (to_mono h2 ⟨rfl, rfl⟩)⟩
        | goto l => exact ⟨_, s', F', h1, aw_block (to_mono h2 ⟨rfl, rfl⟩)⟩
        | ret => exact ⟨_, s', F', h1, aw_block (to_mono h2 ⟨rfl, rfl⟩)⟩
        | panic ch => exact ⟨_, s', F', h1, aw_block (to_mono h2 ⟨rfl, rfl⟩)⟩
        | outgrown => exact ⟨_, s', F', h1, aw_block (to_mono h2 ⟨rfl, rfl⟩)⟩
      | loop a =>
        obtain ⟨e, s', F', k, h1, h2⟩ := loop_sound ih n (Nat.lt_succ_self n) N ks hp0 a Q s F hk h
        exact ⟨e, s', F', h1, to_loop h2⟩
      | rangeFunc _ _ _ _ => simp only [xcode] at h
      | scope a =>
        rw [xcode] at h
        try simp only at h
        obtain ⟨e, s', F', h1, h2⟩ := ihn N ks hp0 a _ s F hk h
        cases e with
        | goto l => exact h1.elim
        | exit i => exact ⟨_, s', F', h1, aw_scope (to_mono h2 ⟨rfl, rfl⟩)⟩
        | normal => exact ⟨_, s', F', h1, aw_scope (to_mono h2 ⟨rfl, rfl⟩)⟩
        | ret => exact ⟨_, s', F', h1, aw_scope (to_mono h2 ⟨rfl, rfl⟩)⟩
        | panic ch => exact ⟨_, s', F', h1, aw_scope (to_mono h2 ⟨rfl, rfl⟩)⟩
        | outgrown => exact ⟨_, s', F', h1, aw_scope (to_mono h2 ⟨rfl, rfl⟩)⟩
      | goto _ => simp only [xcode] at h
      | refuse _ => simp only [xcode] at h
end
end Go.Proofs.Ytmkbnmjhkghdjaa
