/- The abstract machine: code. -/
import Derived.Test.YtmkbnmjhkghdjaaH18
import Derived.Scope
set_option linter.unusedVariables false
set_option linter.unusedSimpArgs false
namespace Go.Proofs.Ytmkbnmjhkghdjaa
open Go.RowKit

/-- From every world that the state tells of, the code comes to its end as Q says. (hp0: the objects at the beginning of the call.) -/
def AW (P : Program) (GL : Nat → Option (List DV)) (N : Nat) (hp0 : Nat → Option AO) (c : Code) (Q : Exit → S → Prop) (s : S) : Prop :=
  ∀ (E0 : En) (w0 : World) (E : En) (a : Act) (w : World), E0.hp = hp0 → Sim GL N E a w s → Along E0 w0 E w → c.wp P (fun x a' w' => ∃ s' E', Q x s' ∧ Sim GL N E' a' w' s' ∧ Along E0 w0 E' w') a w
def blkQ {α : Type} (id : Nat) (Q : Exit → α → Prop) : Exit → α → Prop
  | .exit i, s => if i = id then Q .normal s else Q (.exit i) s
  | e, s => Q e s
def seqQ {α : Type} (K : α → Prop) (Q : Exit → α → Prop) : Exit → α → Prop
  | .normal, s => K s
  | e, s => Q e s
section
variable {P : Program} {GL : Nat → Option (List DV)} {q : Nat → Bool} {N : Nat} {hp0 : Nat → Option AO} {Q Q' : Exit → S → Prop} {s : S}
theorem AW.mono {c : Code} (h : AW P GL N hp0 c Q s) (hq : ∀ e s, Q e s → Q' e s) : AW P GL N hp0 c Q' s :=
  fun E0 w0 E a w h0 hS hA => wp_mono (h E0 w0 E a w h0 hS hA) fun e a w ⟨s', E', h1, h2⟩ => ⟨s', E', hq _ _ h1, h2⟩
theorem aw_skip (h : Q .normal s) : AW P GL N hp0 .skip Q s := fun E0 w0 E a w h0 hS hA => wp_skip ⟨s, E, h, hS, hA⟩
theorem aw_label {l : Nat} (h : Q .normal s) : AW P GL N hp0 (.label l) Q s := fun E0 w0 E a w h0 hS hA => wp_label ⟨s, E, h, hS, hA⟩
theorem aw_exit {id : Nat} (h : Q (.exit id) s) : AW P GL N hp0 (.exit id) Q s := fun E0 w0 E a w h0 hS hA => wp_exit ⟨s, E, h, hS, hA⟩
theorem aw_ret (h : Q .ret s) : AW P GL N hp0 .ret Q s := fun E0 w0 E a w h0 hS hA => wp_ret ⟨s, E, h, hS, hA⟩
theorem aw_seq {x y : Code} (h : AW P GL N hp0 x (seqQ (AW P GL N hp0 y Q) Q) s) : AW P GL N hp0 (.seq x y) Q s := fun E0 w0 E a w h0 hS hA => by
  refine wp_seq (wp_mono (h E0 w0 E a w h0 hS hA) fun e a' w' ⟨s', E', h1, h2, h3⟩ => ?_)
  cases e <;> first | exact h1 E0 w0 E' a' w' h0 h2 h3 | exact ⟨s', E', h1, h2, h3⟩
theorem aw_cond {c : Operand} {x y : Code} {b : Bool} (hc : s.ev GL c = .d (.val (.bool b))) (h1 : b = true → AW P GL N hp0 x Q s) (h2 : b = false → AW P GL N hp0 y Q s) : AW P GL N hp0 (.cond c x y) Q s := fun E0 w0 E a w h0 hS hA => by
  have hr := hS.ev c
  rw [hc] at hr
  refine wp_cond (rel_val hr) ?_
  cases b with
  | true => exact h1 rfl E0 w0 E a w h0 hS hA
  | false => exact h2 rfl E0 w0 E a w h0 hS hA
theorem aw_any {c : Operand} {x y : Code} (hc : s.ev GL c = .ab) (h1 : AW P GL N hp0 x Q s) (h2 : AW P GL N hp0 y Q s) : AW P GL N hp0 (.cond c x y) Q s := fun E0 w0 E a w h0 hS hA => by
  have hr := hS.ev c
  rw [hc, Rel] at hr
  obtain ⟨b, hb⟩ := hr
  refine wp_cond hb ?_
  cases b with
  | true => exact h1 E0 w0 E a w h0 hS hA
  | false => exact h2 E0 w0 E a w h0 hS hA
def scpQ {α : Type} (Q : Exit → α → Prop) : Exit → α → Prop
  | .goto _, _ => False
  | e, s => Q e s
theorem aw_scope {c : Code} (h : AW P GL N hp0 c (scpQ Q) s) : AW P GL N hp0 (.scope c) Q s := fun E0 w0 E a w h0 hS hA => by
  refine wp_scope_straight (wp_mono (h E0 w0 E a w h0 hS hA) fun e a' w' ⟨s', E', h1, h2, h3⟩ => ?_)
  cases e with
  | goto l => exact h1.elim
  | _ => exact ⟨s', E', h1, h2, h3⟩
theorem aw_block {id : Nat} {c : Code} (h : AW P GL N hp0 c (blkQ id Q) s) : AW P GL N hp0 (.block id c) Q s := fun E0 w0 E a w h0 hS hA => by
  refine wp_block (wp_mono (h E0 w0 E a w h0 hS hA) fun e a' w' ⟨s', E', h1, h2, h3⟩ => ?_)
  cases e with
  | exit i =>
    simp only [blkQ, Exit.inBlock] at h1 ⊢
    by_cases hi : i = id
    · rw [if_pos hi] at h1 ⊢; exact ⟨s', E', h1, h2, h3⟩
    · rw [if_neg hi] at h1 ⊢; exact ⟨s', E', h1, h2, h3⟩
  | _ => exact ⟨s', E', h1, h2, h3⟩
/-- The same state, told otherwise. -/
def Tells (GL : Nat → Option (List DV)) (N : Nat) (hp0 : Nat → Option AO) (s s' : S) : Prop :=
  ∀ (E0 : En) (w0 : World) (E : En) (a : Act) (w : World), E0.hp = hp0 → Sim GL N E a w s → Along E0 w0 E w → ∃ E', Sim GL N E' a w s' ∧ Along E0 w0 E' w
theorem Tells.refl (s : S) : Tells GL N hp0 s s := fun E0 w0 E a w _ hS hA => ⟨E, hS, hA⟩
theorem aw_tells {c : Code} {s' : S} (ht : Tells GL N hp0 s s') (h : AW P GL N hp0 c Q s') : AW P GL N hp0 c Q s := fun E0 w0 E a w h0 hS hA => by
  obtain ⟨E', h1, h2⟩ := ht E0 w0 E a w h0 hS hA
  exact h E0 w0 E' a w h0 h1 h2
theorem wp_loopN {Q : Exit → Act → World → Prop} {c : Code} (I : Nat → Act → World → Prop) (round : ∀ n a w, I n a w → c.wp P (Exit.then (fun a' w' => ∃ m, m < n ∧ I m a' w') Q) a w) {n : Nat} {a : Act} {w : World} (h₀ : I n a w) : (Code.loop c).wp P Q a w := by
  intro b k cs
  have key : ∀ n a w, I n a w →
      ∃ e a' w', Q e a' w' ∧ Arrives P (lone (b.at a (.code c :: .inLoop c :: k)) cs w) b k cs e a' w' := by
    intro n
    induction n using Nat.strongRecOn with
    | _ n ih =>
      intro a w hI
      obtain ⟨e, a₁, w₁, hq, harr⟩ := round n a w hI b (.inLoop c :: k) cs
      cases e with
      | normal =>
        obtain ⟨m, hlt, hI₁⟩ := hq
        obtain ⟨e₂, a₂, w₂, hq₂, harr₂⟩ := ih m hlt a₁ w₁ hI₁
        exact ⟨e₂, a₂, w₂, hq₂, .of_steps (Steps.trans harr (.one step_inLoop)) harr₂⟩
      | exit id => exact ⟨_, a₁, w₁, hq, .pass (x := .inLoop c) rfl (fun _ _ => .inl (by simp)) harr⟩
      | goto l => exact ⟨_, a₁, w₁, hq, .pass (x := .inLoop c) rfl (fun _ _ => .inl (by simp)) harr⟩
      | ret => exact ⟨_, a₁, w₁, hq, .pass (x := .inLoop c) rfl (fun _ _ => .inl (by simp)) harr⟩
      | panic ch => exact ⟨_, a₁, w₁, hq, .pass (x := .inLoop c) rfl (fun _ _ => .inl (by simp)) harr⟩
      | outgrown => exact ⟨_, a₁, w₁, hq, .pass (x := .inLoop c) rfl (fun _ _ => .inl (by simp)) harr⟩
  obtain ⟨e, a', w', hq, harr⟩ := key n a w h₀
  exact ⟨e, a', w', hq, .of_steps (.one step_loop) harr⟩
/-- **A loop**: at each round's head the state is 'st x' for some x of which I holds; μ goes down. -/
theorem aw_loop {c : Code} {ι : Type} (st : ι → S) (I : ι → Prop) (μ : ι → Nat) (x0 : ι) (h0 : Tells GL N hp0 s (st x0)) (hI : I x0)
    (round : ∀ x, I x → AW P GL N hp0 c (seqQ (fun s' => ∃ x', I x' ∧ μ x' < μ x ∧ Tells GL N hp0 s' (st x')) Q) (st x)) : AW P GL N hp0 (.loop c) Q s := fun E0 w0 E a w he hS hA => by
  obtain ⟨E', h1, h2⟩ := h0 E0 w0 E a w he hS hA
  refine wp_loopN (fun n a w => ∃ x E, I x ∧ μ x = n ∧ Sim GL N E a w (st x) ∧ Along E0 w0 E w) ?_ ⟨x0, E', hI, rfl, h1, h2⟩
  rintro n a w ⟨x, E, g1, rfl, g3, g4⟩
  refine wp_mono (round x g1 E0 w0 E a w he g3 g4) fun e a' w' ⟨s', E', k1, k2, k3⟩ => ?_
  cases e with
  | normal =>
    obtain ⟨x', p1, p2, p3⟩ := k1
    obtain ⟨E'', q1, q2⟩ := p3 E0 w0 E' a' w' he k2 k3
    exact ⟨μ x', p2, x', E'', p1, rfl, q1, q2⟩
  | _ => exact ⟨s', E', k1, k2, k3⟩
end

/-! ### a region -/
def SL.S (s : SL) : S := ⟨s.get, s.rd⟩
def SL.ev (GL : Nat → Option (List DV)) (s : SL) : Operand → AV
  | .tmp t => s.get t
  | .const v => constA v
  | .global g => match GL g with | some cells => .dptr cells 0 | none => .junk
  | .func f => match Nat.blt f 1048576 with | true => .clo f [] | false => .junk
theorem SL.ev_S (GL : Nat → Option (List DV)) (s : SL) : s.S.ev GL = s.ev GL := by funext x; cases x <;> rfl
def SL.app (s : SL) (d : Option Nat) (v : AV) (us : List (Nat × AO)) : SL := { s.put d v with hp := us ++ s.hp }
def dstB (n : Nat) : Option Nat → Bool
  | none => true
  | some t => decide (t < n)
/-- It meets none of those that have been. -/
def ncAll (ops : Array Oper) (anc : List Nat) (o : Oper) (e : Ef) (log : List (Nat × Ef)) : Bool :=
  log.all fun (j, ej) => anc.contains j || match ops[j]? with | some oj => oj.apart ops o && ncB ej e | none => false
/-- What is left to be shown by hand: calls and loops. -/
structure Cxt where
  D : FuncId → List AV → List Nat → AV → List (Nat × AO) → (Nat → Option AO) → Prop
  L : Code → (Exit → SL → Prop) → SL → Prop
section
variable (C : Cxt) (T : Ty) (GL : Nat → Option (List DV)) (q : Nat → Bool) (N base : Nat) (ops : Array Oper) (draw : Bool) (anc : List (List Nat))
def aops (K : SL → Prop) : List Nat → SL → List (Nat × Ef) → Prop
  | [], s, _ => K s
  | i :: is, s, log => match ops[i]? with
    | none => False
    | some o => match dstB N o.dst with
      | false => False
      | true => match wantedL ops s o with
        | none => False
        | some b => match b with
          | true => match callA (s.ev GL) o with
            | some (f, args) => ∃ v us rds, C.D f args rds v us s.rd ∧ (!draw || ncAll ops (anc.getD i []) o ⟨v, us, rds, [], chgs s.rd us⟩ log) = true ∧ aops K is (s.app o.dst v us) ((i, ⟨v, us, rds, [], chgs s.rd us⟩) :: log)
            | none => match eff T q s.rd (base + i) o (s.ev GL) with
              | some f => match !draw || ncAll ops (anc.getD i []) o ⟨f.v, f.upd, f.rds, f.lvs, chgs s.rd f.upd⟩ log with
                | true => aops K is (s.app o.dst f.v f.upd) ((i, ⟨f.v, f.upd, f.rds, f.lvs, chgs s.rd f.upd⟩) :: log)
                | false => False
              | none => False
          | false => match !draw || ncAll ops (anc.getD i []) o skipEf log with
            | true => aops K is (s.put o.dst .undef) ((i, skipEf) :: log)
            | false => False
end
section
variable {P : Program} {GL : Nat → Option (List DV)} {q : Nat → Bool} {N base : Nat} {ops : Array Oper} {draw : Bool} {anc : List (List Nat)}
theorem SL.app_S (s : SL) (d : Option Nat) (e : Ef) : (s.app d e.v e.upd).S = s.S.app d e := by
  unfold SL.app SL.S S.app S.put SL.put
  have h2 : ∀ hp : List (Nat × AO), (fun r => look r (e.upd ++ hp)) = updF (fun r => look r hp) e.upd := fun hp => by
    funext r
    simp only [updF, look_append]
    cases look r e.upd <;> rfl
  cases d with
  | none =>
    simp only [S.mk.injEq]
    exact ⟨rfl, h2 s.hp⟩
  | some t =>
    simp only [S.mk.injEq]
    refine ⟨?_, h2 s.hp⟩
    funext k
    simp only [SL.get, look]
    by_cases hk : t = k
    · subst hk; simp
    · simp [hk, Ne.symm hk]
theorem SL.put_S (s : SL) (d : Option Nat) : (s.put d .undef).S = s.S.app d skipEf := by
  have := SL.app_S s d skipEf
  rw [← this]
  unfold SL.app skipEf SL.put
  cases d <;> rfl
theorem wantedL_S (s : SL) (o : Oper) : wantedS ops s.S o = wantedL ops s o := rfl
theorem ncAll_spec {i : Nat} {o : Oper} (ho : ops[i]? = some o) {e : Ef} {log : List (Nat × Ef)} (h : ncAll ops ((ancT ops ops.size).getD i []) o e log = true) : ∀ x ∈ log, x.1 ∈ (ancT ops ops.size).getD i [] ∨ ∃ ox oy, ops[x.1]? = some ox ∧ ops[i]? = some oy ∧ ox.apart ops oy = true ∧ ncB x.2 e = true := fun x hx => by
  unfold ncAll at h
  have := List.all_eq_true.1 h x hx
  obtain ⟨j, ej⟩ := x
  simp only [Bool.or_eq_true, List.contains_eq_mem, decide_eq_true_eq] at this
  rcases this with h1 | h1
  · exact .inl h1
  · split at h1
    · rename_i oj hj
      simp only [Bool.and_eq_true] at h1
      exact .inr ⟨oj, o, hj, ho, h1.1, h1.2⟩
    · cases h1
/-- What the walk of a list of operations says. -/
def RunsTo (P : Program) (GL : Nat → Option (List DV)) (q : Nat → Bool) (N base : Nat) (ops : Array Oper) (draw : Bool) (K : SL → Prop) (is : List Nat) (s : SL) (log : List (Nat × Ef)) : Prop :=
  ∃ (L : List (Nat × Ef)) (s' : SL), L.map (·.1) = is ∧ Run P GL q N base ops L s.S s'.S ∧ K s' ∧
    (draw = true → ∀ y ∈ L, ∀ x ∈ log, x.1 ∈ (ancT ops ops.size).getD y.1 [] ∨ ∃ ox oy, ops[x.1]? = some ox ∧ ops[y.1]? = some oy ∧ ox.apart ops oy = true ∧ ncB x.2 y.2 = true) ∧
    (draw = true → L.Pairwise (fun x y => x.1 ∈ (ancT ops ops.size).getD y.1 [] ∨ ∃ ox oy, ops[x.1]? = some ox ∧ ops[y.1]? = some oy ∧ ox.apart ops oy = true ∧ ncB x.2 y.2 = true))
theorem runsTo_cons (hanc : draw = true → anc = ancT ops ops.size) {K : SL → Prop} {i : Nat} {is : List Nat} {s s1 : SL} {log : List (Nat × Ef)} {o : Oper} (ho : ops[i]? = some o) {e : Ef} (hs1 : s1.S = s.S.app o.dst e) (hst : StepR P GL q N base ops i s.S e)
    (hnc : draw = true → ncAll ops (anc.getD i []) o e log = true) (h : RunsTo P GL q N base ops draw K is s1 ((i, e) :: log)) : RunsTo P GL q N base ops draw K (i :: is) s log := by
  have hdo : dstOf ops i = o.dst := by simp [dstOf, ho]
  obtain ⟨L, s', g1, g2, g3, g4, g5⟩ := h
  refine ⟨(i, e) :: L, s', by simp [g1], ⟨hst, by rw [hdo, ← hs1]; exact g2⟩, g3, fun hdr y hy x hx => ?_, fun hdr => List.pairwise_cons.2 ⟨fun y hy => g4 hdr y hy (i, e) List.mem_cons_self, g5 hdr⟩⟩
  rcases List.mem_cons.1 hy with rfl | hy
  · have := hnc hdr
    rw [hanc hdr] at this
    exact ncAll_spec ho this x hx
  · exact g4 hdr y hy x (List.mem_cons_of_mem _ hx)
theorem draw_or {b : Bool} (h : (!draw || b) = true) : draw = true → b = true := fun hd => by rw [hd] at h; simpa using h
theorem aops_run (hanc : draw = true → anc = ancT ops ops.size) {C : Cxt} (hC : ∀ f args rds v us hp, C.D f args rds v us hp → fnOk P f = true ∧ Does P GL f args rds v us hp) {K : SL → Prop} : ∀ (is : List Nat) (s : SL) (log : List (Nat × Ef)), aops C (tiOf P) GL q N base ops draw anc K is s log → RunsTo P GL q N base ops draw K is s log
  | [], s, log, h => ⟨[], s, rfl, rfl, h, fun _ y hy => (by cases hy), fun _ => List.Pairwise.nil⟩
  | i :: is, s, log, h => by
    unfold aops at h
    split at h
    · exact h.elim
    · rename_i o ho
      split at h
      · exact h.elim
      · rename_i hdst
        have hd : ∀ t, o.dst = some t → t < N := fun t e => by
          unfold dstB at hdst
          rw [e] at hdst
          simpa using hdst
        split at h
        · exact h.elim
        · rename_i b hb
          cases b with
          | true =>
            simp only at h
            split at h
            · rename_i f args hc
              obtain ⟨v, us, rds, k1, k3, k4⟩ := h
              obtain ⟨k1, k2⟩ := hC _ _ _ _ _ _ k1
              refine runsTo_cons hanc ho (SL.app_S s o.dst ⟨v, us, rds, [], chgs s.rd us⟩) ?_ (draw_or k3) (aops_run hanc hC is _ _ k4)
              unfold StepR
              rw [ho]
              refine ⟨hd, .inl ⟨hb, rfl, ?_⟩⟩
              rw [SL.ev_S, hc]
              exact ⟨k1, rfl, k2⟩
            · rename_i hc
              split at h
              · rename_i f hf
                split at h
                · rename_i hn
                  refine runsTo_cons hanc ho (SL.app_S s o.dst ⟨f.v, f.upd, f.rds, f.lvs, chgs s.rd f.upd⟩) ?_ (draw_or hn) (aops_run hanc hC is _ _ h)
                  unfold StepR
                  rw [ho]
                  refine ⟨hd, .inl ⟨hb, rfl, ?_⟩⟩
                  rw [SL.ev_S, hc]
                  exact ⟨f, hf, rfl, rfl, rfl, rfl⟩
                · exact h.elim
              · exact h.elim
          | false =>
            simp only at h
            split at h
            · rename_i hn
              refine runsTo_cons hanc ho (SL.put_S s o.dst) ?_ (draw_or hn) (aops_run hanc hC is _ _ h)
              unfold StepR
              rw [ho]
              exact ⟨hd, .inr ⟨hb, rfl⟩⟩
            · exact h.elim
variable {hp0 : Nat → Option AO}
def slotBase (id : Nat) : Nat := 1000 + 100 * id
/-- **A region.** -/
theorem aw_region (hq : QOk P q) (hdp : 30 ≤ P.depth) (hm : P.follows .mixedOrders = true) {id : Nat} {Q : Exit → S → Prop} {s : SL} (hback : draw = true → backB ops = true) (hanc : draw = true → anc = ancT ops ops.size) {C : Cxt} (hC : ∀ f args rds v us hp, C.D f args rds v us hp → fnOk P f = true ∧ Does P GL f args rds v us hp) {K : SL → Prop} (hK : ∀ s', K s' → Q .normal s'.S)
    (h : aops C (tiOf P) GL q N (slotBase id) ops draw anc K (List.range ops.size) s []) : AW P GL N hp0 (.region id ops draw) Q s.S := fun E0 w0 E a w h0 hS hA => by
  obtain ⟨L, s', g1, g2, g3, g4, g5⟩ := aops_run hanc hC _ _ _ h
  have hQ : ∀ E' a' w', Sim GL N E' a' w' s'.S → Along E0 w0 E' w' → (fun (x : Exit) (a' : Act) (w' : World) => ∃ s' E', Q x s' ∧ Sim GL N E' a' w' s' ∧ Along E0 w0 E' w') .normal a' w' := fun E' a' w' h1 h2 => ⟨s'.S, E', hK _ g3, h1, h2⟩
  cases draw with
  | false =>
    refine wp_region ?_
    rw [← g1]
    exact run_wp (P := P) (Q := fun (x : Exit) (a' : Act) (w' : World) => ∃ s' E', Q x s' ∧ Sim GL N E' a' w' s' ∧ Along E0 w0 E' w') hq hdp hQ L E a w s.S g2 hS hA
  | true =>
    refine wp_region_any hm ?_
    have hlen : L.length = ops.size := by
      have := congrArg List.length g1
      simpa using this
    have := any_wp (P := P) (Q := fun (x : Exit) (a' : Act) (w' : World) => ∃ s' E', Q x s' ∧ Sim GL N E' a' w' s' ∧ Along E0 w0 E' w') hq hdp (hback rfl) hQ ops.size L (Array.replicate ops.size false) E a { w with drawn := w.drawn + 1 } s.S hlen
      (fun j hj => by
        exfalso
        rw [Array.getD_eq_getD_getElem?] at hj
        rcases Nat.lt_or_ge j ops.size with hlt | hge
        · rw [Array.getElem?_replicate, if_pos hlt] at hj; simp at hj
        · rw [Array.getElem?_replicate, if_neg (by omega)] at hj; simp at hj)
      (fun i => by
        rw [g1, List.mem_range]
        constructor
        · exact fun h => h.2
        · intro hi
          refine ⟨?_, hi⟩
          rw [Array.getD_eq_getD_getElem?, Array.getElem?_replicate, if_pos hi]
          rfl)
      (by rw [g1]; exact List.pairwise_lt_range) (g5 rfl) g2 hS.drew hA.drew
    exact this
end
end Go.Proofs.Ytmkbnmjhkghdjaa
