/- rating.Cost: its loop. -/
import Derived.Test.YtbckoncbimljeaaR4
import Derived.Test.YtbckoncbimljeaaY1
import Derived.RangeFuncIn
import Derived.RangeFuncRecord
set_option linter.unusedVariables false
set_option linter.unusedSimpArgs false
namespace Go.Proofs.Ytbckoncbimljeaa
open Go.RowKit
set_option maxRecDepth 100000

theorem relC_kp {h h' : Array Obj} {X : Nat → Prop} (hc : ∀ b o u, cellH h b o = some u → cellH h' b o = some u) : ∀ (cells : List DV) (b o : Nat), RelC h X cells b o → RelC h' X cells b o
  | [], b, o, _ => by rw [RelC]; trivial
  | x :: xs, b, o, hr => by
    rw [RelC] at hr ⊢
    obtain ⟨⟨u, h1, h2⟩, h3⟩ := hr
    exact ⟨⟨u, hc _ _ _ h1, RelD.mono (fun b o u hx hu => ⟨hx, hc b o u hu⟩) x u h2⟩, relC_kp hc xs b (o + 1) h3⟩
/-- No cells, no map. -/
def NC (h : Array Obj) (k : Nat) : Prop := ∃ o, h[k]? = some o ∧ o.isCells = false ∧ o.isWalk = false
theorem rebase {N : Nat} {E0 : En} {w0 : World} {E : En} {a : Act} {w : World} {s : S} {w' : World} (hS : Sim noG N E a w s) (hA : Along E0 w0 E w) (h1 : w'.os = w.os) (h2 : w'.tape = w.tape) (h3 : w'.output = w.output) (h4 : w.heap.size ≤ w'.heap.size)
    (hb : ∀ k, k < w.heap.size → w'.heap[k]? = w.heap[k]? ∨ (w0.heap.size ≤ k ∧ NC w.heap k)) : Sim noG N { E with h := w'.heap } a w' s ∧ Along E0 w0 { E with h := w'.heap } w' ∧ Ext E { E with h := w'.heap } := by
  have hE : E.h = w.heap := hS.h.symm
  have hc : ∀ b o u, cellH E.h b o = some u → cellH w'.heap b o = some u := fun b o u hu => by
    have hlt := cellH_lt hu
    rw [hE] at hlt hu
    rcases hb b hlt with e | ⟨_, o', ho, hn, _⟩
    · unfold cellH at hu ⊢; rw [e]; exact hu
    · unfold cellH at hu
      rw [ho] at hu
      cases o' <;> first | (simp [Obj.isCells] at hn; done) | (cases hu; done)
  have ho : ∀ (b : Nat) (o : Obj), E.h[b]? = some o → (o.isCells = true ∨ o.isWalk = true) → w'.heap[b]? = some o := fun b o hbo hk => by
    rw [hE] at hbo
    rcases hb b (Array.getElem?_eq_some_iff.1 hbo).1 with e | ⟨_, o', ho', k1, k2⟩
    · rw [e]; exact hbo
    · rw [hbo] at ho'; cases ho'
      rcases hk with k | k
      · rw [k1] at k; cases k
      · rw [k2] at k; cases k
  have hx : Ext E { E with h := w'.heap } := ⟨fun b o u hx hu => ⟨hx, hc b o u hu⟩, fun r o h => ⟨o, h, o.like_refl, .inr rfl⟩⟩
  refine ⟨⟨rfl, hS.hp, ⟨fun r o hr => ?_, hS.sim.inj, fun g cells hg => by cases hg⟩, hS.n, hS.df, fun t => Rel.ext hx _ _ (hS.tm t)⟩, ⟨hA.ext.trans hx, ?_⟩, hx⟩
  · have := hS.sim.ob r o hr
    cases o with
    | data e s cs mt =>
      rcases this with ⟨q1, q2⟩ | ⟨b, cur, q1, q2, q3, q4, q5, q6⟩
      · exact .inl ⟨q1, q2⟩
      · exact .inr ⟨b, cur, q1, ho b _ q2 (.inl rfl), relC_kp hc _ _ _ q3, q4, q5, q6⟩
    | mix cs =>
      obtain ⟨b, cur, t, q1, q2, q3, q4⟩ := this
      exact ⟨b, cur, t, q1, ho b _ q2 (.inl rfl), RelL.ext hx _ _ q3, q4⟩
    | mp ks =>
      obtain ⟨b, es, clock, q1, q2, q3, q4⟩ := this
      exact ⟨b, es, clock, q1, ho b _ q2 (.inr rfl), q3, q4⟩
    | dead => trivial
  · have f := hA.fr
    refine ⟨h1.trans f.os, h2.trans f.tape, h3.trans f.output, Nat.le_trans f.size h4, fun k hk hm => ?_, f.mb, f.xs, f.xk⟩
    rcases hb k (Nat.lt_of_lt_of_le hk f.size) with e | ⟨ge, _⟩
    · rw [e]; exact f.blk k hk hm
    · omega
theorem nc_mut {N : Nat} {E : En} {a : Act} {w : World} {s : S} (hS : Sim noG N E a w s) {k : Nat} (hn : NC w.heap k) : ¬ MutB E k := by
  rintro ⟨r, o, z, h1, h2, h3⟩
  obtain ⟨o', ho', k1, k2⟩ := hn
  have hE : E.h = w.heap := hS.h.symm
  have := hS.sim.ob r o h1
  cases o with
  | data e s cs mt =>
    rcases this with ⟨q1, q2⟩ | ⟨b, cur, q1, q2, _⟩
    · rw [q1] at h3; cases h3
    · rw [q1] at h3; cases h3
      rw [hE, ho'] at q2; cases q2; cases k1
  | mix cs =>
    obtain ⟨b, cur, t, q1, q2, _⟩ := this
    rw [q1] at h3; cases h3
    rw [hE, ho'] at q2; cases q2; cases k1
  | mp ks =>
    obtain ⟨b, es, clock, q1, q2, _⟩ := this
    rw [q1] at h3; cases h3
    rw [hE, ho'] at q2; cases q2; cases k2
  | dead => cases h2
theorem Along.trans {E0 E1 E2 : En} {w0 w1 w2 : World} (h : Along E0 w0 E1 w1) (k : Along E1 w1 E2 w2) : Along E0 w0 E2 w2 := ⟨h.ext.trans k.ext, h.fr.trans k.fr⟩
/-- What is no cells lies on. -/
theorem nc_keep {N : Nat} {E E' : En} {a : Act} {w w' : World} {s : S} (hS : Sim noG N E a w s) (hA : Along E w E' w') {k : Nat} {o : Obj} (h : w.heap[k]? = some o) (h1 : o.isCells = false) (h2 : o.isWalk = false) : w'.heap[k]? = some o := by
  rw [hA.fr.blk k (Array.getElem?_eq_some_iff.1 h).1 (nc_mut hS ⟨o, h, h1, h2⟩)]; exact h
theorem put_keep {w0 w : World} {l : Nat} {o o' : Obj} (h0 : w0.heap.size ≤ l) (h : w.heap[l]? = some o) (h1 : o.isCells = false) (h2 : o.isWalk = false) : ∀ k, k < w.heap.size → (w.putObj l o').heap[k]? = w.heap[k]? ∨ (w0.heap.size ≤ k ∧ NC w.heap k) := fun k hk => by
  by_cases e : k = l
  · subst e; exact .inr ⟨h0, o, h, h1, h2⟩
  · exact .inl (World.putObj_heap_other e)
/-- The loop's record. -/
noncomputable def recL (fn : FuncId) (tm : Array Value) (D : Nat) (st : LoopState) (pe : Option Code) : Loop := { state := st, pending := pe, fn := fn, tmps := tm, params := #[66, 67], assign := asgC, body := bodC, defers := D }
/-- The sum of the first pieces. -/
noncomputable def sumN (l : List Pr1) (rc : Int) (bg : Nat → Int) : Nat → Option Int
  | 0 => some rc
  | k + 1 => bindO (sumN l rc bg k) fun s => bindO (rating_priceAt (l, bg k)) fun j =>
    bif decide (0 ≤ j ∧ j < (l.length : Int)) then some (IntKind.wrap .i64 (s + (if (k : Int) = 0 then (l.getD j.toNat ((0, (0, 0)), (0, 0))).2.1 else (l.getD j.toNat ((0, (0, 0)), (0, 0))).2.2))) else none
theorem sumN_succ {l : List Pr1} {rc : Int} {bg : Nat → Int} {k : Nat} {s' : Int} (h : sumN l rc bg (k + 1) = some s') : ∃ s j, sumN l rc bg k = some s ∧ rating_priceAt (l, bg k) = some j ∧ 0 ≤ j ∧ j < (l.length : Int) ∧
    s' = IntKind.wrap .i64 (s + (if (k : Int) = 0 then (l.getD j.toNat ((0, (0, 0)), (0, 0))).2.1 else (l.getD j.toNat ((0, (0, 0)), (0, 0))).2.2)) := by
  unfold sumN at h
  cases h1 : sumN l rc bg k with
  | none => rw [h1] at h; cases h
  | some s =>
    rw [h1] at h
    simp only [bindO_some] at h
    cases h2 : rating_priceAt (l, bg k) with
    | none => rw [h2] at h; cases h
    | some j =>
      rw [h2] at h
      simp only [bindO_some] at h
      by_cases hj : 0 ≤ j ∧ j < (l.length : Int)
      · rw [decide_eq_true hj] at h
        cases h
        exact ⟨s, j, rfl, rfl, hj.1, hj.2, rfl⟩
      · rw [decide_eq_false hj] at h
        cases h
theorem sumN_le {l : List Pr1} {rc : Int} {bg : Nat → Int} : ∀ {n : Nat} {s : Int}, sumN l rc bg n = some s → ∀ k, k ≤ n → ∃ t, sumN l rc bg k = some t
  | 0, s, h, k, hk => ⟨s, by rw [show k = 0 from by omega]; exact h⟩
  | n + 1, s, h, k, hk => by
    by_cases e : k = n + 1
    · subst e; exact ⟨s, h⟩
    · obtain ⟨t, _, ht, _⟩ := sumN_succ h
      exact sumN_le ht k (by omega)
section
variable {rb : ByteArray} {rc rf rst at0 np : Int} {pl : List Pr1} {pcells : List DV} {pn : Nat} {E0 : En} {w0 : World} {tm : Array Value} {D L : Nat} {fn : FuncId}
/-- Between two rounds. -/
def InvR (rb : ByteArray) (rc rf rst at0 np : Int) (pl : List Pr1) (pcells : List DV) (pn : Nat) (E0 : En) (w0 : World) (tm : Array Value) (D L : Nat) (fn : FuncId) (k : Nat) (W : World) : Prop :=
  ∃ E s, sumN pl rc (begN at0 rf rst) k = some s ∧ Sim noG 87 E ⟨tm, []⟩ W (stR rb rc rf rst at0 np pcells pn s).S ∧ Along E0 w0 E W ∧ W.heap[D]? = some (.deferred (some [])) ∧ W.heap[L]? = some (.loop (recL fn tm D .ready none))
theorem rel_i {E : En} {k : IntKind} {v : Int} : Rel E (.d (.val (.int k v))) (.int k v) := by rw [Rel, RelD]; exact ⟨rfl, rfl⟩
set_option maxHeartbeats 1000000 in
theorem round_in (h0 : E0.hp = lookF []) (hcp : encL UP pl = pcells) (hnp : pl.length = pn) (hD : w0.heap.size ≤ D) (hL : w0.heap.size ≤ L) (hDL : D ≠ L) {k : Nat} {W : World} (hI : InvR rb rc rf rst at0 np pl pcells pn E0 w0 tm D L fn k W) {s' : Int} (hs' : sumN pl rc (begN at0 rf rst) (k + 1) = some s') (m : Nat) :
    YieldAt Fence.wide m Try.prog L #[.int .i64 k, .int .i64 (begN at0 rf rst k)] W fun e W' => e = .returned (.bool true) ∧ InvR rb rc rf rst at0 np pl pcells pn E0 w0 tm D L fn (k + 1) W' := by
  obtain ⟨E, s, hs, hS, hA, hDo, hLo⟩ := hI
  obtain ⟨s1, j, hs1, hj, hj0, hj1, e1⟩ := sumN_succ hs'
  rw [hs] at hs1
  obtain rfl : s = s1 := by cases hs1; rfl
  have hy := run_yield (P := Try.prog) (args := #[.int .i64 k, .int .i64 (begN at0 rf rst k)]) hLo rfl
  refine ⟨_, _, _, _, hy, roundIn_of_wpIn trivial ?_⟩
  have q1 : SimD [] noG 87 E ((⟨tm, []⟩ : Act).put (some 66) (.int .i64 k)) W ({ stR rb rc rf rst at0 np pcells pn s with tm := (66, .d (.val (.int .i64 k))) :: (stR rb rc rf rst at0 np pcells pn s).tm } : SL).S := by
    have := (⟨hS, rfl⟩ : SimD [] noG 87 E ⟨tm, []⟩ W (stR rb rc rf rst at0 np pcells pn s).S).put (Goes.refl hS.h hS.sim) (d := some 66) (fun t e => by cases e; decide) (v := .d (.val (.int .i64 k))) (u := .int .i64 k) rel_i
    have e := SL.app_S (stR rb rc rf rst at0 np pcells pn s) (some 66) ⟨.d (.val (.int .i64 k)), [], [], [], []⟩
    exact e ▸ this
  have q2 : SimD [] noG 87 E (((⟨tm, []⟩ : Act).put (some 66) (.int .i64 k)).put (some 67) (.int .i64 (begN at0 rf rst k))) W (stA rb rc rf rst at0 np pcells pn s k (begN at0 rf rst k)).S := by
    have := q1.put (Goes.refl hS.h hS.sim) (d := some 67) (fun t e => by cases e; decide) (v := .d (.val (.int .i64 (begN at0 rf rst k)))) (u := .int .i64 (begN at0 rf rst k)) rel_i
    have e := SL.app_S ({ stR rb rc rf rst at0 np pcells pn s with tm := (66, .d (.val (.int .i64 k))) :: (stR rb rc rf rst at0 np pcells pn s).tm } : SL) (some 67) ⟨.d (.val (.int .i64 (begN at0 rf rst k))), [], [], [], []⟩
    exact e ▸ this
  have hA1 := acode_soundI (df := []) (hp0 := E.hp) (wideR Try.prog L) m KK.hq KK.hdp KK.hm KK.hT asgC (fun e t => e = .normal ∧ t = stB rb rc rf rst at0 np pcells pn s k (begN at0 rf rst k)) (stA rb rc rf rst at0 np pcells pn s k (begN at0 rf rst k)) (by kernel_rfl) (by rw [← acodeP_real]; exact asg_ok)
  have hact : ({ tmps := ((#[66, 67] : Array Tmp).zip #[Value.int .i64 k, .int .i64 (begN at0 rf rst k)]).foldl (fun tmps (t, a) => tmps.setIfInBounds t a) tm, defers := [] } : Act) = ((⟨tm, []⟩ : Act).put (some 66) (.int .i64 k)).put (some 67) (.int .i64 (begN at0 rf rst k)) := by simp [Act.put]
  rw [← hact] at q2
  refine wpIn_mono (hA1 E W E _ W rfl q2 (Along.refl _ _)) ?_
  rintro e a1 w1 ⟨_, E1, ⟨sl, rfl, rfl, rfl⟩, hS2, hA2⟩
  have hD1 := nc_keep hS hA2 hDo rfl rfl
  have hL1 := nc_keep hS hA2 hLo rfl rfl
  have hL1lt := (Array.getElem?_eq_some_iff.1 hL1).1
  refine ⟨_, run_beginRound hL1 rfl, ?_⟩
  obtain ⟨hS3, hA3, hx3⟩ := rebase (w' := w1.putObj L (.loop { recL fn tm D .ready none with state := .busy })) hS2.sm (hA.trans hA2) rfl rfl rfl (by simp) (put_keep hL hL1 rfl rfl)
  have hD2 : (w1.putObj L (.loop { recL fn tm D .ready none with state := .busy })).heap[D]? = some (.deferred (some [])) := (World.putObj_heap_other hDL).trans hD1
  have hL2 : (w1.putObj L (.loop { recL fn tm D .ready none with state := .busy })).heap[L]? = some (.loop { recL fn tm D .ready none with state := .busy }) := World.putObj_heap_same hL1lt
  generalize w1.putObj L (.loop { recL fn tm D .ready none with state := .busy }) = w2 at *
  obtain ⟨i, hi⟩ : ∃ i : Nat, j = (i : Int) := ⟨j.toNat, by omega⟩
  obtain ⟨⟨⟨d1, d2, d3⟩, d4, d5⟩, hrow⟩ : ∃ x, pl.getD i ((0, (0, 0)), (0, 0)) = x := ⟨_, rfl⟩
  have e2 : s' = IntKind.wrap .i64 (s + (if (k : Int) = 0 then d4 else d5)) := by rw [e1, hi, Int.toNat_natCast, hrow]
  have hA4 := acode_soundI (df := []) (hp0 := E1.hp) (wideR Try.prog L) m KK.hq KK.hdp KK.hm KK.hT bodC (fun e t => e = .normal ∧ Tells noG 87 (lookF []) ({ t with tm := (stR rb rc rf rst at0 np pcells pn s).tm } : SL).S (stR rb rc rf rst at0 np pcells pn s').S) (stB rb rc rf rst at0 np pcells pn s k (begN at0 rf rst k)) (by kernel_rfl)
    (by rw [← acodeP_real]; exact bod_ok hcp hnp hj hi (by omega) hrow (by omega) e2 rfl rfl rfl)
  refine wpIn_mono (hA4 { E1 with h := w2.heap } w2 { E1 with h := w2.heap } a1 w2 rfl ⟨hS3, hS2.dq⟩ (Along.refl _ _)) ?_
  rintro e a3 w3 ⟨_, E3, ⟨sl, rfl, rfl, hT⟩, hS4, hA5⟩
  have hD3 := nc_keep hS3 hA5 hD2 rfl rfl
  have hL3 := nc_keep hS3 hA5 hL2 rfl rfl
  have hL3lt := (Array.getElem?_eq_some_iff.1 hL3).1
  refine ⟨_, _, run_endRound none hL3, rfl, ?_⟩
  have hS5 : Sim noG 87 E3 ⟨tm, []⟩ w3 ({ sl with tm := (stR rb rc rf rst at0 np pcells pn s).tm } : SL).S := ⟨hS4.sm.h, hS4.sm.hp, hS4.sm.sim, hS.n, rfl, fun t => Rel.ext ((hA2.ext.trans hx3).trans hA5.ext) _ _ (hS.tm t)⟩
  obtain ⟨E4, hS6, hA6⟩ := hT E0 w0 E3 _ w3 h0 hS5 (hA3.trans hA5)
  obtain ⟨hS7, hA7, _⟩ := rebase (w' := w3.putObj L (.loop (recL fn tm D .ready none))) hS6 hA6 rfl rfl rfl (by simp) (put_keep hL hL3 rfl rfl)
  exact ⟨_, s', hs', hS7, hA7, (World.putObj_heap_other hDL).trans hD3, World.putObj_heap_same hL3lt⟩
end
end Go.Proofs.Ytbckoncbimljeaa
