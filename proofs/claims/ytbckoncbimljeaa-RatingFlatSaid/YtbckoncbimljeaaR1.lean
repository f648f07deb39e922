/- The abstract machine inside a round of a range over a function. -/
import Derived.Test.YtbckoncbimljeaaXA
import Derived.OrdersIn
import Derived.ControlIn
import Derived.RangeFuncLeaves
import Derived.RangeFuncCalls
import Derived.RangeFuncRecord
set_option linter.unusedVariables false
set_option linter.unusedSimpArgs false
namespace Go.Proofs.Ytbckoncbimljeaa
open Go.RowKit

section
variable {P : Program} {GL : Nat → Option (List DV)} {q : Nat → Bool} {N : Nat} {E : En} {a : Act} {w : World} {s : S}
theorem eff_nodefer {T : Ty} {rd : Nat → Option AO} {slot : Nat} {o : Oper} {ρ : Operand → AV} {f : Eff} (hf : eff T q rd slot o ρ = some f) : ∀ c, o.op ≠ .defer c := fun c h => by
  unfold eff at hf
  simp only [effQ, effH, h] at hf
  revert hf
  repeat' split
  all_goals simp_all
end
/-- The fences at which the walk goes: the wide one, and a round's. -/
structure WideF (P : Program) (F : Fence) : Prop where
  fn : ∀ f, F.fn f
  dep : F.depth = none
  calls : ∀ {n : Nat} {f : FuncId} {args : Array Value} {w : World} {R : Ending → World → Prop}, Calls P f args w R → CallsIn F n P f args w R
theorem wideF (P : Program) : WideF P Fence.wide := ⟨fun _ => trivial, rfl, fun h => callsIn_wide.2 h⟩
theorem wideR (P : Program) (l : Nat) : WideF P (Fence.wide.inRound l) := ⟨fun _ => trivial, rfl, fun h => CallsIn.inRound l (callsIn_wide.2 h)⟩
/-- The state, beside what has been deferred. -/
structure SimD (df : List Deferred) (GL : Nat → Option (List DV)) (N : Nat) (E : En) (a : Act) (w : World) (s : S) : Prop where
  sm : Sim GL N E ⟨a.tmps, []⟩ w s
  dq : a.defers = df
theorem put_tm (a : Act) (d : Option Nat) (v : Value) : (⟨(a.put d v).tmps, []⟩ : Act) = (⟨a.tmps, []⟩ : Act).put d v := by cases d <;> rfl
theorem put_df (a : Act) (d : Option Nat) (v : Value) : (a.put d v).defers = a.defers := by cases d <;> rfl
section
variable {df : List Deferred} {GL : Nat → Option (List DV)} {N : Nat} {E : En} {a : Act} {w : World} {s : S}
theorem SimD.h (h : SimD df GL N E a w s) : w.heap = E.h := h.sm.h
theorem SimD.hp (h : SimD df GL N E a w s) : E.hp = s.hp := h.sm.hp
theorem SimD.sim (h : SimD df GL N E a w s) : SimH GL E := h.sm.sim
theorem SimD.ev (h : SimD df GL N E a w s) (x : Operand) : Rel E (s.ev GL x) (a.eval x) := h.sm.ev x
theorem SimD.drew (h : SimD df GL N E a w s) : SimD df GL N E a { w with drawn := w.drawn + 1 } s := ⟨h.sm.drew, h.dq⟩
theorem SimD.put (h : SimD df GL N E a w s) {E' : En} {w' : World} {us : List (Nat × AO)} (hg : Goes GL E w us E' w') {d : Option Nat} (hd : ∀ t, d = some t → t < N) {v : AV} {u : Value} (hr : Rel E' v u) :
    SimD df GL N E' (a.put d u) w' { (s.put d v) with hp := updF s.hp us } := ⟨by rw [put_tm]; exact h.sm.put hg hd hr, by rw [put_df]; exact h.dq⟩
theorem wanted_simD {ops : Array Oper} (h : SimD df GL N E a w s) {o : Oper} {b : Bool} (hw : wantedS ops s o = some b) : Region.wanted o (yielded ops a.tmps) = b := wanted_sim h.sm hw
end
section
variable {df : List Deferred} {F : Fence} {P : Program} {GL : Nat → Option (List DV)} {q : Nat → Bool} {N : Nat} {E : En} {a : Act} {w : World} {s : S}
/-- An operation in a round. -/
theorem op_simI (hF : WideF P F) (n : Nat) (hq : QOk P q) (hdp : 30 ≤ P.depth) (h : SimD df GL N E a w s) {slot : Nat} {o : Oper} {e : Ef} (he : EfR P GL q slot o s e) (hd : ∀ t, o.dst = some t → t < N) {K : Act → World → Prop} {Q : Exit → Act → World → Prop}
    (hK : ∀ a' w' E', Goes GL E w e.upd E' w' → SimD df GL N E' a' w' (s.app o.dst e) → K a' w') : o.wpIn F n P a w K Q := by
  obtain ⟨_, he⟩ := he
  refine ⟨fun f _ => hF.fn f, ?_⟩
  split at he
  · rename_i f args hc
    obtain ⟨hf, _, hdo⟩ := he
    obtain ⟨vs, hrun, hrel⟩ := call_exec h.sm hc hf
    rw [show (⟨a.tmps, []⟩ : Act).eval = a.eval from rfl] at hrun
    rw [Oper.semAt_eq _ _ _ (fun c hcd => by unfold callA at hc; rw [hcd] at hc; cases hc), hrun]
    refine ⟨fun g => (by rw [hF.dep] at g; cases g), hF.calls ((hdo E w vs (fun r _ => by rw [h.hp]) h.h h.sim hrel).mono ?_)⟩
    rintro en w' ⟨u, E', rfl, hg, hr⟩
    exact hK _ _ E' hg (h.put hg hd hr)
  · rename_i hc
    obtain ⟨f, hf, e1, e2, _, _⟩ := he
    obtain ⟨n', w', E', u, hrun, hn, hg, hr⟩ := eff_sim hq hdp h.sm hf
    rw [show (⟨a.tmps, []⟩ : Act).eval = a.eval from rfl] at hrun
    rw [Oper.semAt_eq _ _ _ (eff_nodefer hf), hrun]
    rw [← e2] at hg
    rw [← e1] at hr
    rcases hn with rfl | ⟨rfl, rfl⟩
    · exact hK _ _ E' hg (h.put hg hd hr)
    · exact hK _ _ E' hg (h.put hg hd hr)
end
section
variable {df : List Deferred} {F : Fence} {P : Program} {GL : Nat → Option (List DV)} {q : Nat → Bool} {N base : Nat} {ops : Array Oper}
theorem step_wpI (hF : WideF P F) (n : Nat) (hq : QOk P q) (hdp : 30 ≤ P.depth) {E0 : En} {w0 : World} {E : En} {a : Act} {w : World} {s : S} (hS : SimD df GL N E a w s) (hA : Along E0 w0 E w) {i : Nat} {e : Ef} (h : StepR P GL q N base ops i s e) {Q : Exit → Act → World → Prop} {K : Act → World → Prop}
    (hK : ∀ E' a' w', SimD df GL N E' a' w' (s.app (dstOf ops i) e) → Along E0 w0 E' w' → K a' w') : wpOpIn F n P ops Q i K a w := by
  unfold StepR at h
  unfold wpOpIn
  split at h
  · exact h.elim
  · rename_i o ho
    rw [ho]
    simp only
    have hdi : dstOf ops i = o.dst := by simp [dstOf, ho]
    rw [hdi] at hK
    obtain ⟨hd, ⟨hw, he⟩ | ⟨hw, rfl⟩⟩ := h
    · rw [wanted_simD hS hw, if_pos rfl]
      exact op_simI hF n hq hdp hS he hd fun a' w' E' hg hs => hK E' a' w' hs (hA.goes hg)
    · rw [wanted_simD hS hw, if_neg (by simp)]
      have := hS.put (Goes.refl hS.h hS.sim) hd (v := .undef) (u := undef) (by rw [Rel])
      exact ⟨fun f _ => hF.fn f, hK E _ w this hA⟩
theorem run_wpI (hF : WideF P F) (n : Nat) (hq : QOk P q) (hdp : 30 ≤ P.depth) {E0 : En} {w0 : World} {Q : Exit → Act → World → Prop} {s' : S} (hQ : ∀ E' a' w', SimD df GL N E' a' w' s' → Along E0 w0 E' w' → Q .normal a' w') : ∀ (L : List (Nat × Ef)) (E : En) (a : Act) (w : World) (s : S), Run P GL q N base ops L s s' → SimD df GL N E a w s → Along E0 w0 E w → wpOpsIn F n P ops Q (L.map (·.1)) a w
  | [], E, a, w, s, hR, hS, hA => by
    have : s = s' := hR
    subst this
    exact hQ E a w hS hA
  | (i, e) :: L, E, a, w, s, hR, hS, hA => by
    rw [List.map_cons, wpOpsIn_cons]
    exact step_wpI hF n hq hdp hS hA hR.1 fun E' a' w' hs ha => run_wpI hF n hq hdp hQ L E' a' w' _ hR.2 hs ha
theorem any_wpI (hF : WideF P F) (fn : Nat) (hq : QOk P q) (hdp : 30 ≤ P.depth) (hback : backB ops = true) {E0 : En} {w0 : World} {Q : Exit → Act → World → Prop} {s' : S} (hQ : ∀ E' a' w', SimD df GL N E' a' w' s' → Along E0 w0 E' w' → Q .normal a' w') : ∀ (n : Nat) (L : List (Nat × Ef)) (listed : Array Bool) (E : En) (a : Act) (w : World) (s : S), L.length = n →
    ClosedA ops listed → (∀ i, listed.getD i true = false ∧ i < ops.size ↔ i ∈ L.map (·.1)) → (L.map (·.1)).Pairwise (· < ·) →
    L.Pairwise (fun x y => x.1 ∈ (ancT ops ops.size).getD y.1 [] ∨ ∃ ox oy, ops[x.1]? = some ox ∧ ops[y.1]? = some oy ∧ ox.apart ops oy = true ∧ ncB x.2 y.2 = true) →
    Run P GL q N base ops L s s' → SimD df GL N E a w s → Along E0 w0 E w → wpAnyIn F fn P .any ops Q n listed a w
  | 0, L, listed, E, a, w, s, hn, hC, hL, hsort, hchk, hR, hS, hA => by
    have : L = [] := List.eq_nil_of_length_eq_zero hn
    subst this
    have hs : s = s' := hR
    subst hs
    refine ⟨?_, hQ E a w hS hA⟩
    cases hr : Region.ready .any ops listed with
    | nil => rfl
    | cons i l =>
      have hi : i ∈ Region.ready .any ops listed := by rw [hr]; exact List.mem_cons_self
      obtain ⟨h1, o, h2, _⟩ := mem_ready.1 hi
      have := (hL i).1 ⟨h1, (Array.getElem?_eq_some_iff.1 h2).1⟩
      simp at this
  | n + 1, L, listed, E, a, w, s, hn, hC, hL, hsort, hchk, hR, hS, hA => by
    have hready : ∀ i, i ∈ Region.ready .any ops listed → i ∈ L.map (·.1) := fun i hi => by
      obtain ⟨h1, o, h2, _⟩ := mem_ready.1 hi
      exact (hL i).1 ⟨h1, (Array.getElem?_eq_some_iff.1 h2).1⟩
    refine ⟨fun h0 => ?_, fun i hi => ?_⟩
    · exfalso
      cases L with
      | nil => simp at hn
      | cons x L =>
        obtain ⟨i, e⟩ := x
        obtain ⟨hun, hlt⟩ := (hL i).2 (by simp)
        have hrd : i ∈ Region.ready .any ops listed := by
          refine mem_ready.2 ⟨hun, ops[i], Array.getElem?_eq_getElem hlt, fun ed hed hb => ?_⟩
          have hp : ed.on ∈ parentsA ops i := by
            unfold parentsA
            rw [Array.getElem?_eq_getElem hlt]
            exact List.mem_map.2 ⟨ed, List.mem_filter.2 ⟨by simpa using hed, hb⟩, rfl⟩
          have hlt2 : ed.on < i := by
            have := List.all_eq_true.1 hback i (List.mem_range.2 hlt)
            have := List.all_eq_true.1 this _ hp
            simpa using this
          cases hg : listed.getD ed.on false with
          | true => rfl
          | false =>
            have hnot : ed.on ∉ List.map (·.1) ((i, e) :: L) := fun hm => by
              rcases List.mem_cons.1 hm with h | h
              · simp at h; omega
              · have := (List.pairwise_cons.1 hsort).1 _ h
                simp at this
                omega
            have h6 : ¬ (listed.getD ed.on true = false ∧ ed.on < ops.size) := fun h => hnot ((hL ed.on).1 h)
            have : listed.getD ed.on true = true := by
              cases h7 : listed.getD ed.on true with
              | true => rfl
              | false => exact (h6 ⟨h7, by omega⟩).elim
            have hsz : ed.on < listed.size := by
              have h8 : i < listed.size := by
                rcases Nat.lt_or_ge i listed.size with h | h
                · exact h
                · rw [Array.getD_eq_getD_getElem?, Array.getElem?_eq_none h] at hun; simp at hun
              omega
            rw [Array.getD_eq_getD_getElem?, Array.getElem?_eq_getElem hsz] at this hg
            simp at this hg
            rw [this] at hg
            cases hg
        rw [h0] at hrd
        cases hrd
    · obtain ⟨⟨i', e⟩, hmem, rfl⟩ := List.mem_map.1 (hready i hi)
      simp only at hi ⊢
      obtain ⟨l1, l2, rfl⟩ := List.append_of_mem hmem
      obtain ⟨_, oi, hoi, _⟩ := mem_ready.1 hi
      have hun : ∀ j, j ∈ (l1 ++ (i', e) :: l2).map (·.1) → listed.getD j false = false := fun j hj => by
        obtain ⟨h1, h2⟩ := (hL j).2 hj
        rcases Nat.lt_or_ge j listed.size with h | h
        · rw [Array.getD_eq_getD_getElem?, Array.getElem?_eq_getElem h] at h1 ⊢
          simpa using h1
        · rw [Array.getD_eq_getD_getElem?, Array.getElem?_eq_none h] at h1; simp at h1
      have hall : ∀ j ej, (j, ej) ∈ l1 → ∃ oj, ops[j]? = some oj ∧ oj.apart ops oi = true ∧ ncB ej e = true := fun j ej hj => by
        have hpw := (List.pairwise_append.1 hchk).2.2 (j, ej) hj (i', e) List.mem_cons_self
        rcases hpw with hanc | ⟨ox, oy, h1, h2, h3, h4⟩
        · have := ancT_listed hC _ _ _ (ready_parentsA hi) hanc
          rw [hun j (List.mem_map.2 ⟨_, List.mem_append_left _ hj, rfl⟩)] at this
          cases this
        · simp only at h1 h2
          rw [hoi] at h2
          cases h2
          exact ⟨ox, h1, h3, h4⟩
      obtain ⟨g1, g2⟩ := bubble hoi l1 l2 s s' hall hR
      refine step_wpI hF fn hq hdp hS hA g1 fun E' a' w' hs ha => ?_
      refine any_wpI hF fn hq hdp hback hQ n (l1 ++ l2) _ E' a' w' _ (by simp at hn ⊢; omega) (hC.set hi) (fun j => ?_) ?_ ?_ g2 hs ha
      · have hnd : ∀ k, k ∈ (l1 ++ l2).map (·.1) → k ≠ i' := fun k hk e0 => by
          subst e0
          rw [List.map_append, List.map_cons] at hsort
          rw [List.map_append] at hk
          rcases List.mem_append.1 hk with hk | hk
          · have := (List.pairwise_append.1 hsort).2.2 k hk k List.mem_cons_self
            omega
          · have := (List.pairwise_cons.1 (List.pairwise_append.1 hsort).2.1).1 k hk
            omega
        by_cases hji : i' = j
        · subst hji
          constructor
          · rintro ⟨h1, h2⟩
            have hsz : i' < listed.size := by
              rcases Nat.lt_or_ge i' listed.size with h | h
              · exact h
              · have := (mem_ready.1 hi).1
                rw [Array.getD_eq_getD_getElem?, Array.getElem?_eq_none h] at this; simp at this
            rw [Array.getD_eq_getD_getElem?, Array.getElem?_setIfInBounds_self_of_lt hsz] at h1
            simp at h1
          · intro h; exact (hnd _ h rfl).elim
        · rw [getD_set_ne true hji]
          rw [hL j]
          simp only [List.map_append, List.map_cons, List.mem_append, List.mem_cons]
          constructor
          · rintro (h | h | h)
            · exact .inl h
            · exact (hji h.symm).elim
            · exact .inr h
          · rintro (h | h)
            · exact .inl h
            · exact .inr (.inr h)
      · rw [List.map_append] at hsort ⊢
        rw [List.map_cons] at hsort
        obtain ⟨p1, p2, p3⟩ := List.pairwise_append.1 hsort
        exact List.pairwise_append.2 ⟨p1, (List.pairwise_cons.1 p2).2, fun x hx y hy => p3 x hx y (List.mem_cons_of_mem _ hy)⟩
      · obtain ⟨p1, p2, p3⟩ := List.pairwise_append.1 hchk
        exact List.pairwise_append.2 ⟨p1, (List.pairwise_cons.1 p2).2, fun x hx y hy => p3 x hx y (List.mem_cons_of_mem _ hy)⟩
end
/-- From every world that the state tells of, the code comes to its end as Q says. (hp0: the objects at the beginning of the call.) -/
def AWI (df : List Deferred) (F : Fence) (n : Nat) (P : Program) (GL : Nat → Option (List DV)) (N : Nat) (hp0 : Nat → Option AO) (c : Code) (Q : Exit → S → Prop) (s : S) : Prop :=
  ∀ (E0 : En) (w0 : World) (E : En) (a : Act) (w : World), E0.hp = hp0 → SimD df GL N E a w s → Along E0 w0 E w → c.wpIn F n P (fun x a' w' => ∃ s' E', Q x s' ∧ SimD df GL N E' a' w' s' ∧ Along E0 w0 E' w') a w
section
variable {df : List Deferred} {F : Fence} {n : Nat} {P : Program} {GL : Nat → Option (List DV)} {q : Nat → Bool} {N : Nat} {hp0 : Nat → Option AO} {Q Q' : Exit → S → Prop} {s : S}
theorem AWI.mono {c : Code} (h : AWI df F n P GL N hp0 c Q s) (hq : ∀ e s, Q e s → Q' e s) : AWI df F n P GL N hp0 c Q' s :=
  fun E0 w0 E a w h0 hS hA => wpIn_mono (h E0 w0 E a w h0 hS hA) fun e a w ⟨s', E', h1, h2⟩ => ⟨s', E', hq _ _ h1, h2⟩
theorem aw_skipI (h : Q .normal s) : AWI df F n P GL N hp0 .skip Q s := fun E0 w0 E a w h0 hS hA => wpIn_skip ⟨s, E, h, hS, hA⟩
theorem aw_exitI {id : Nat} (h : Q (.exit id) s) : AWI df F n P GL N hp0 (.exit id) Q s := fun E0 w0 E a w h0 hS hA => wpIn_exit ⟨s, E, h, hS, hA⟩
theorem aw_retI (h : Q .ret s) : AWI df F n P GL N hp0 .ret Q s := fun E0 w0 E a w h0 hS hA => wpIn_ret ⟨s, E, h, hS, hA⟩
theorem aw_seqI {x y : Code} (h : AWI df F n P GL N hp0 x (seqQ (AWI df F n P GL N hp0 y Q) Q) s) : AWI df F n P GL N hp0 (.seq x y) Q s := fun E0 w0 E a w h0 hS hA => by
  refine wpIn_seq (wpIn_mono (h E0 w0 E a w h0 hS hA) fun e a' w' ⟨s', E', h1, h2, h3⟩ => ?_)
  cases e <;> first | exact h1 E0 w0 E' a' w' h0 h2 h3 | exact ⟨s', E', h1, h2, h3⟩
theorem aw_condI {c : Operand} {x y : Code} {b : Bool} (hc : s.ev GL c = .d (.val (.bool b))) (h1 : b = true → AWI df F n P GL N hp0 x Q s) (h2 : b = false → AWI df F n P GL N hp0 y Q s) : AWI df F n P GL N hp0 (.cond c x y) Q s := fun E0 w0 E a w h0 hS hA => by
  have hr := hS.ev c
  rw [hc] at hr
  refine wpIn_cond (rel_val hr) ?_
  cases b with
  | true => exact h1 rfl E0 w0 E a w h0 hS hA
  | false => exact h2 rfl E0 w0 E a w h0 hS hA
theorem aw_anyI {c : Operand} {x y : Code} (hc : s.ev GL c = .ab) (h1 : AWI df F n P GL N hp0 x Q s) (h2 : AWI df F n P GL N hp0 y Q s) : AWI df F n P GL N hp0 (.cond c x y) Q s := fun E0 w0 E a w h0 hS hA => by
  have hr := hS.ev c
  rw [hc, Rel] at hr
  obtain ⟨b, hb⟩ := hr
  refine wpIn_cond hb ?_
  cases b with
  | true => exact h1 E0 w0 E a w h0 hS hA
  | false => exact h2 E0 w0 E a w h0 hS hA
theorem aw_blockI {id : Nat} {c : Code} (h : AWI df F n P GL N hp0 c (blkQ id Q) s) : AWI df F n P GL N hp0 (.block id c) Q s := fun E0 w0 E a w h0 hS hA => by
  refine wpIn_block (wpIn_mono (h E0 w0 E a w h0 hS hA) fun e a' w' ⟨s', E', h1, h2, h3⟩ => ?_)
  cases e with
  | exit i =>
    simp only [blkQ, Exit.inBlock] at h1 ⊢
    by_cases hi : i = id
    · rw [if_pos hi] at h1 ⊢; exact ⟨s', E', h1, h2, h3⟩
    · rw [if_neg hi] at h1 ⊢; exact ⟨s', E', h1, h2, h3⟩
  | _ => exact ⟨s', E', h1, h2, h3⟩
end
section
variable {df : List Deferred} {F : Fence} {n : Nat} {P : Program} {GL : Nat → Option (List DV)} {q : Nat → Bool} {N : Nat} {ops : Array Oper} {draw : Bool} {anc : List (List Nat)} {hp0 : Nat → Option AO}
/-- **A region.** -/
theorem aw_regionI (hF : WideF P F) (hq : QOk P q) (hdp : 30 ≤ P.depth) (hm : P.follows .mixedOrders = true) {id : Nat} {Q : Exit → S → Prop} {s : SL} (hback : draw = true → backB ops = true) (hanc : draw = true → anc = ancT ops ops.size) {C : Cxt} (hC : ∀ f args rds v us hp, C.D f args rds v us hp → fnOk P f = true ∧ Does P GL f args rds v us hp) {K : SL → Prop} (hK : ∀ s', K s' → Q .normal s'.S)
    (h : aops C (tiOf P) GL q N (slotBase id) ops draw anc K (List.range ops.size) s []) : AWI df F n P GL N hp0 (.region id ops draw) Q s.S := fun E0 w0 E a w h0 hS hA => by
  obtain ⟨L, s', g1, g2, g3, g4, g5⟩ := aops_run hanc hC _ _ _ h
  have hQ : ∀ E' a' w', SimD df GL N E' a' w' s'.S → Along E0 w0 E' w' → (fun (x : Exit) (a' : Act) (w' : World) => ∃ s' E', Q x s' ∧ SimD df GL N E' a' w' s' ∧ Along E0 w0 E' w') .normal a' w' := fun E' a' w' h1 h2 => ⟨s'.S, E', hK _ g3, h1, h2⟩
  cases draw with
  | false =>
    refine wpIn_region ?_
    rw [← g1]
    exact run_wpI hF n (P := P) (Q := fun (x : Exit) (a' : Act) (w' : World) => ∃ s' E', Q x s' ∧ SimD df GL N E' a' w' s' ∧ Along E0 w0 E' w') hq hdp hQ L E a w s.S g2 hS hA
  | true =>
    refine wpIn_region_any hm ?_
    have hlen : L.length = ops.size := by
      have := congrArg List.length g1
      simpa using this
    have := any_wpI hF n (P := P) (Q := fun (x : Exit) (a' : Act) (w' : World) => ∃ s' E', Q x s' ∧ SimD df GL N E' a' w' s' ∧ Along E0 w0 E' w') hq hdp (hback rfl) hQ ops.size L (Array.replicate ops.size false) E a { w with drawn := w.drawn + 1 } s.S hlen
      (fun j hj => by
        exfalso
        rw [Array.getD_eq_getD_getElem?] at hj
        rcases Nat.lt_or_ge j ops.size with hlt | hge
        · rw [Array.getElem?_replicate, if_pos hlt] at hj; simp at hj
        · rw [Array.getElem?_replicate, if_neg (by omega)] at hj; simp at hj)
      (fun i => by
        rw [g1, List.mem_range]
        constructor
        · exact fun h => h.2
        · intro hi
          refine ⟨?_, hi⟩
          rw [Array.getD_eq_getD_getElem?, Array.getElem?_replicate, if_pos hi]
          rfl)
      (by rw [g1]; exact List.pairwise_lt_range) (g5 rfl) g2 hS.drew hA.drew
    exact this
/-- Code without loops and scopes. -/
def nsB : Code → Bool
  | .seq a b => nsB a && nsB b
  | .cond _ t e => nsB t && nsB e
  | .block _ c => nsB c
  | .skip => true
  | .region _ _ _ => true
  | .exit _ => true
  | .ret => true
  | _ => false
end
section
variable {df : List Deferred} {F : Fence} {P : Program} {T : Ty} {GL : Nat → Option (List DV)} {q : Nat → Bool} {N : Nat} {hp0 : Nat → Option AO}
theorem acode_soundI (hF : WideF P F) (n : Nat) (hq : QOk P q) (hdp : 30 ≤ P.depth) (hm : P.follows .mixedOrders = true) (hT : tiOf P = T) : ∀ (c : Code) (Q : Exit → SL → Prop) (s : SL), nsB c = true → acode (cxtOf P GL N hp0) T GL q N c Q s → AWI df F n P GL N hp0 c (LQ Q) s.S
  | .skip, Q, s, _, h => aw_skipI ⟨s, rfl, h⟩
  | .region id ops draw, Q, s, _, h => by
    rw [acode] at h
    subst hT
    split at h
    · rename_i hb
      exact aw_regionI hF hq hdp hm (draw_or hb) (fun hd => by rw [hd]; rfl) (fun f args rds v us hp h => h) (fun s' hs => ⟨s', rfl, hs⟩) h
    · exact h.elim
  | .seq a b, Q, s, hn, h => by
    rw [acode] at h
    rw [nsB, Bool.and_eq_true] at hn
    refine aw_seqI (AWI.mono (acode_soundI hF n hq hdp hm hT a _ s hn.1 h) fun e s' ⟨sl, h1, h2⟩ => ?_)
    subst h1
    cases e with
    | normal => exact acode_soundI hF n hq hdp hm hT b Q sl hn.2 h2
    | _ => exact ⟨sl, rfl, h2⟩
  | .cond c t e, Q, s, hn, h => by
    rw [acode] at h
    rw [nsB, Bool.and_eq_true] at hn
    split at h
    · rename_i b hb
      refine aw_condI (by rw [SL.ev_S]; exact hb) (fun hb => ?_) (fun hb => ?_)
      · subst hb; exact acode_soundI hF n hq hdp hm hT t Q s hn.1 h
      · subst hb; exact acode_soundI hF n hq hdp hm hT e Q s hn.2 h
    · rename_i hb
      exact aw_anyI (by rw [SL.ev_S]; exact hb) (acode_soundI hF n hq hdp hm hT t Q s hn.1 h.1) (acode_soundI hF n hq hdp hm hT e Q s hn.2 h.2)
    · exact h.elim
  | .block id c, Q, s, hn, h => by
    rw [acode] at h
    refine aw_blockI (AWI.mono (acode_soundI hF n hq hdp hm hT c _ s hn h) fun e s' ⟨sl, h1, h2⟩ => ?_)
    subst h1
    cases e with
    | exit i =>
      simp only [blkQ] at h2 ⊢
      by_cases hi : i = id
      · rw [if_pos hi] at h2 ⊢; exact ⟨sl, rfl, h2⟩
      · rw [if_neg hi] at h2 ⊢; exact ⟨sl, rfl, h2⟩
    | _ => exact ⟨sl, rfl, h2⟩
  | .exit id, Q, s, _, h => aw_exitI ⟨s, rfl, h⟩
  | .ret, Q, s, _, h => aw_retI ⟨s, rfl, h⟩
  | .label l, Q, s, hn, h => by cases hn
  | .loop c, Q, s, hn, h => by cases hn
  | .rangeFunc _ _ _ _, Q, s, _, h => h.elim
  | .scope c, Q, s, hn, h => by cases hn
  | .goto _, Q, s, _, h => h.elim
  | .refuse _, Q, s, _, h => h.elim
end
end Go.Proofs.Ytbckoncbimljeaa
