/- rating.Cost: the contract. -/
import Derived.Test.YtbckoncbimljeaaR5
import Derived.Shelf.Abstract
set_option linter.unusedVariables false
set_option linter.unusedSimpArgs false
namespace Go.Proofs.Ytbckoncbimljeaa
open Go.RowKit
set_option maxRecDepth 100000

theorem rel_ptrQ {E : En} {r off : Nat} {cs : List AV} {v : Value} (h : E.hp r = some (.mix cs)) (hr : Rel E (.ptr r off) v) : ∃ b z, E.m r = some (b, z) ∧ v = .pointer (some ⟨b, off, none⟩) := by
  rw [Rel, h] at hr
  exact hr
theorem rel_vi {E : En} {k : IntKind} {n : Int} {u : Value} (h : Rel E (.d (.val (.int k n))) u) : u = .int k n := by
  rw [Rel, RelD] at h
  exact h.1
theorem relL_consQ {E : En} {x : AV} {xs : List AV} {vs : List Value} (h : RelL E (x :: xs) vs) : ∃ v vs', vs = v :: vs' ∧ Rel E x v ∧ RelL E xs vs' := by rw [RelL] at h; exact h
theorem relL_nilQ {E : En} {vs : List Value} (h : RelL E [] vs) : vs = [] := by rw [RelL] at h; exact h
theorem cell_cur {w : World} {b o : Nat} {cur : Array Value} {t : TypeId} {v : Value} (h : w.heap[b]? = some (.cells cur t (0, 0))) (hv : cur.toList[o]? = some v) : w.cell? ⟨b, o, none⟩ = some v := by
  rw [cell_eq]
  unfold cellH
  rw [h]
  simpa using hv
section
variable {rb : ByteArray} {rc rf rst at0 np : Int} {pl : List Pr1} {pcells : List DV} {pn : Nat}
/-- What the closure holds. -/
theorem clo_of {E : En} {w : World} {tm : Array Value} {s : Int} (hS : Sim noG 87 E ⟨tm, []⟩ w (stR rb rc rf rst at0 np pcells pn s).S) : ∃ b7 b8 b9, tm.getD 65 undef = .func (.func 40) #[] #[.pointer (some ⟨b7, 0, none⟩), .pointer (some ⟨b8, 0, none⟩), .pointer (some ⟨b9, 0, none⟩)] ∧
    w.cell? ⟨b7, 0, none⟩ = some (.int .i64 at0) ∧ w.cell? ⟨b8, 0, none⟩ = some (.int .i64 np) ∧ w.cell? ⟨b9, 2, none⟩ = some (.int .i64 rf) ∧ w.cell? ⟨b9, 3, none⟩ = some (.int .i64 rst) := by
  have hr : Rel E (.clo 40 [.ptr 7 0, .ptr 8 0, .ptr 9 0]) (tm.getD 65 undef) := hS.tm 65
  have hh : ∀ r, E.hp r = (stR rb rc rf rst at0 np pcells pn s).rd r := fun r => congrFun hS.hp r
  have hE : E.h = w.heap := hS.h.symm
  rw [Rel] at hr
  obtain ⟨⟨v1, v2⟩, ⟨hv, hsz⟩, hrl⟩ := hr
  have h1 : v1 = #[] := Array.eq_empty_of_size_eq_zero hsz
  subst h1
  obtain ⟨u7, l7, e7, g7, hrl⟩ := relL_consQ hrl
  obtain ⟨u8, l8, e8, g8, hrl⟩ := relL_consQ hrl
  obtain ⟨u9, l9, e9, g9, hrl⟩ := relL_consQ hrl
  have e10 := relL_nilQ hrl
  subst e10 e9 e8
  have e11 : v2.toList = [u7, u8, u9] := by simpa using e7
  have e12 : v2 = #[u7, u8, u9] := by rw [← Array.toList_inj]; exact e11
  subst e12
  have k7 : E.hp 7 = some (.mix [.d (.val (.int .i64 at0))]) := hh 7
  have k8 : E.hp 8 = some (.mix [.d (.val (.int .i64 np))]) := hh 8
  have k9 : E.hp 9 = some (.mix [.d (.val (.string rb)), .d (.val (.int .i64 rc)), .d (.val (.int .i64 rf)), .d (.val (.int .i64 rst)), .d (.dl pcells pn none)]) := hh 9
  obtain ⟨b7, z7, m7, rfl⟩ := rel_ptrQ k7 g7
  obtain ⟨b8, z8, m8, rfl⟩ := rel_ptrQ k8 g8
  obtain ⟨b9, z9, m9, rfl⟩ := rel_ptrQ k9 g9
  refine ⟨b7, b8, b9, hv, ?_, ?_, ?_, ?_⟩
  · obtain ⟨b, cur, t, q1, q2, q3, _⟩ := hS.sim.ob _ _ k7
    rw [m7] at q1; cases q1
    obtain ⟨x0, y0, c0, r0, q3⟩ := relL_consQ q3
    rw [rel_vi r0] at c0
    exact cell_cur (by rw [← hE]; exact q2) (by rw [c0]; rfl)
  · obtain ⟨b, cur, t, q1, q2, q3, _⟩ := hS.sim.ob _ _ k8
    rw [m8] at q1; cases q1
    obtain ⟨x0, y0, c0, r0, q3⟩ := relL_consQ q3
    rw [rel_vi r0] at c0
    exact cell_cur (by rw [← hE]; exact q2) (by rw [c0]; rfl)
  all_goals
    obtain ⟨b, cur, t, q1, q2, q3, _⟩ := hS.sim.ob _ _ k9
    rw [m9] at q1; cases q1
    obtain ⟨x0, y0, c0, r0, q3⟩ := relL_consQ q3
    obtain ⟨x1, y1, c1, r1, q3⟩ := relL_consQ q3
    obtain ⟨x2, y2, c2, r2, q3⟩ := relL_consQ q3
    obtain ⟨x3, y3, c3, r3, q3⟩ := relL_consQ q3
    rw [rel_vi r2] at c2
    rw [rel_vi r3] at c3
    subst c3 c2 c1
    exact cell_cur (by rw [← hE]; exact q2) (by rw [c0]; rfl)
noncomputable abbrev blkC : Code := match (spine 11 costC).2 with | .seq (.seq _ b) _ => b | _ => .skip
noncomputable abbrev r16C : Code := match (spine 11 costC).2 with | .seq (.seq y _) _ => y | _ => .skip
theorem blk_eq : blkC = .block 0 (.rangeFunc (.tmp 65) #[66, 67] asgC bodC) := by kernel_rfl
theorem tail_eq : (spine 11 costC).2 = .seq (.seq r16C blkC) posC := by kernel_rfl
/-- What the function must achieve. -/
def FinR (E0 : En) (w0 : World) (v : AV) : Ending → World → Prop := fun e w' => ∃ u E', e = .returned u ∧ w'.heap = E'.h ∧ E'.hp = lookF [] ∧ SimH noG E' ∧ Ext E0 E' ∧ StepF E0 w0 E' w' ∧ Rel E' v u
theorem fin_leaves {E0 E : En} {w0 w : World} {a : Act} {D : Nat} {sl : SL} {v : AV} (h0 : E0.hp = lookF []) (hS : SimD [{ target := .collected D, args := #[] }] noG 87 E a w sl.S) (hA : Along E0 w0 E w) (hD : w0.heap.size ≤ D) (hDo : w.heap[D]? = some (.deferred (some [])))
    (hq : match resA (tabF (tiOf Try.prog) tyRows) Try.f18 sl with | some x => Back [] sl.hp [] v x | none => False) : LeavesInM Fence.wide 9 Try.prog Try.f18 a.tmps (FinR E0 w0 v) a.defers .returning w := by
  rw [hS.dq]
  refine ⟨by simp, .inl ⟨D, _, rfl, run_takeDeferred hDo, ?_⟩⟩
  obtain ⟨hS1, hA1, _⟩ := rebase (w' := w.putObj D (.deferred none)) hS.sm hA rfl rfl rfl (by simp) (put_keep hD hDo rfl rfl)
  rw [← KK.hT] at hq
  obtain ⟨x, k1, θ, k0, k2, k3⟩ : ∃ x, resA (tiOf Try.prog) Try.f18 sl = some x ∧ Back [] sl.hp [] v x := by
    cases hx : resA (tiOf Try.prog) Try.f18 sl with
    | none => rw [hx] at hq; exact hq.elim
    | some x => rw [hx] at hq; exact ⟨x, rfl, hq⟩
  obtain ⟨y, g1, g2⟩ := resA_sim hS1 k1
  have hp : ({ E with h := (w.putObj D (.deferred none)).heap } : En).hp = lookF sl.hp := hS1.hp
  rw [← hp] at k2 k3
  exact ⟨y, g1, y, weakE { E with h := (w.putObj D (.deferred none)).heap } θ (lookF []), rfl, hS1.h, rfl, weak_simH hS1.sim k2, weak_ext0 hA1 k2 (fun r o ho => by rw [h0] at ho; exact k0 r o ho), weak_step k2 hA1.fr, weak_rel hS1.sim k2 _ _ _ k3 g2⟩
set_option maxHeartbeats 1000000 in
theorem loop_in {E0 E : En} {w0 w : World} {a : Act} (h0 : E0.hp = lookF []) (hcp : encL UP pl = pcells) (hnp : pl.length = pn) {n : Nat} (hn : np = (n : Int)) (hn1 : (n : Int) ≤ 4000000000000000000) {S : Int} (hsum : sumN pl rc (begN at0 rf rst) n = some S) (hS : Sim noG 87 E a w (stR rb rc rf rst at0 np pcells pn rc).S) (hA : Along E0 w0 E w) :
    blkC.wpIn Fence.wide 9 Try.prog (Exit.then (posC.wpIn Fence.wide 9 Try.prog (bodyPostM Fence.wide 9 Try.prog Try.f18 (FinR E0 w0 (.tup [.d (.val (.int .i64 S)), .d (.val (.int .u8 0))])))) (bodyPostM Fence.wide 9 Try.prog Try.f18 (FinR E0 w0 (.tup [.d (.val (.int .i64 S)), .d (.val (.int .u8 0))])))) a w := by
  obtain ⟨tm, df⟩ := a
  have hdf : df = [] := hS.df
  subst hdf
  rw [blk_eq]
  refine wpIn_block (wpIn_rangeFunc ?_)
  intro fn _
  obtain ⟨b7, b8, b9, hv, _⟩ := clo_of hS
  have hg : (⟨tm, []⟩ : Act).eval (.tmp 65) = .func (.func 40) #[] #[.pointer (some ⟨b7, 0, none⟩), .pointer (some ⟨b8, 0, none⟩), .pointer (some ⟨b9, 0, none⟩)] := hv
  have hD0 : w0.heap.size ≤ w.heap.size := hA.fr.size
  obtain ⟨W1, hW1⟩ : ∃ W1, (w.alloc (.deferred (some []))).alloc (.loop (recL fn tm w.heap.size .ready none)) = W1 := ⟨_, rfl⟩
  have hL1 : W1.heap[w.heap.size + 1]? = some (.loop (recL fn tm w.heap.size .ready none)) := by
    rw [← hW1]; have := World.alloc_heap_new (w.alloc (.deferred (some []))) (.loop (recL fn tm w.heap.size .ready none)); rwa [World.size_alloc] at this
  have hK1 : W1.heap[w.heap.size]? = some (.deferred (some [])) := by
    rw [← hW1]; exact (Below.heap_alloc _ _ _ (by simp)).trans (World.alloc_heap_new w _)
  have hB1 : Below w.heap.size w W1 := by
    rw [← hW1]; exact (((Below.refl _ w).alloc (Nat.le_refl _) _).alloc (by simp) _)
  obtain ⟨hS1, hA1, _⟩ := rebase (w' := W1) hS hA hB1.os hB1.tape hB1.output hB1.size (fun k hk => .inl (hB1.block k hk))
  refine ⟨w.heap.size + 1, [{ target := .collected w.heap.size, args := #[] }], W1, { target := .fn (.func 40) #[.pointer (some ⟨b7, 0, none⟩), .pointer (some ⟨b8, 0, none⟩), .pointer (some ⟨b9, 0, none⟩)], args := #[.func (.yield (w.heap.size + 1)) #[] #[]] }, W1, 40,
    #[.func (.yield (w.heap.size + 1)) #[] #[], .pointer (some ⟨b7, 0, none⟩), .pointer (some ⟨b8, 0, none⟩), .pointer (some ⟨b9, 0, none⟩)], W1, ?_, ?_, fun _ _ => trivial, ?_, fun g => (by cases g), ?_⟩
  · rw [← hW1]; exact run_enterLoop_outer _ _ _ _ _
  · simp only [resolve, hg]
    simp [go_sem]
  · have eg := Go.Proofs.enters_of Try.func40 (by kernel_rfl) rfl
    simp [invoke, go_sem, eg]
  · refine (iter_in 8 (w.heap.size + 1) b7 b8 b9 at0 rf rst n hn1 (InvR rb rc rf rst at0 np pl pcells pn E0 w0 tm w.heap.size (w.heap.size + 1) fn) ?_ ?_ W1 ⟨_, rc, rfl, hS1, hA1, hK1, hL1⟩).mono ?_
    · rintro k W ⟨E', s, _, hS', _⟩
      obtain ⟨c7, c8, c9, hv', r1, r2, r3, r4⟩ := clo_of hS'
      rw [hv] at hv'
      cases hv'
      rw [hn] at r2
      exact ⟨r1, r2, r3, r4⟩
    · intro k W hk hI
      obtain ⟨s', hs'⟩ := sumN_le hsum (k + 1) (by omega)
      exact round_in h0 hcp hnp hD0 (by omega) (by omega) hI hs' 7
    · rintro e W2 ⟨⟨v, rfl⟩, E2, s2, hs2, hS2, hA2, hD2, hL2⟩
      rw [hsum] at hs2
      cases hs2
      refine ⟨none, _, run_endLoop hL2 (by simp [recL]), ?_⟩
      obtain ⟨hS3, hA3, _⟩ := rebase (w' := W2.putObj (w.heap.size + 1) (.loop { recL fn tm w.heap.size .ready none with state := .exhausted })) hS2 hA2 rfl rfl rfl (by simp) (put_keep (by omega) hL2 rfl rfl)
      have hD3 : (W2.putObj (w.heap.size + 1) (.loop { recL fn tm w.heap.size .ready none with state := .exhausted })).heap[w.heap.size]? = some (.deferred (some [])) := (World.putObj_heap_other (by omega)).trans hD2
      generalize W2.putObj (w.heap.size + 1) (.loop { recL fn tm w.heap.size .ready none with state := .exhausted }) = w4 at *
      have hp := acode_soundI (df := [{ target := .collected w.heap.size, args := #[] }]) (hp0 := E2.hp) (wideF Try.prog) 9 KK.hq KK.hdp KK.hm KK.hT posC _ (stR rb rc rf rst at0 np pcells pn S) (by kernel_rfl) (by rw [← acodeP_real]; exact post_ok)
      refine wpIn_mono (hp { E2 with h := w4.heap } w4 { E2 with h := w4.heap } _ w4 rfl ⟨hS3, rfl⟩ (Along.refl _ _)) ?_
      rintro e a5 w5 ⟨_, E5, ⟨sl, rfl, hq⟩, hS5, hA5⟩
      have hD5 := nc_keep hS3 hA5 hD3 rfl rfl
      cases e with
      | normal => exact fin_leaves h0 hS5 (hA3.trans hA5) hD0 hD5 hq
      | ret => exact fin_leaves h0 hS5 (hA3.trans hA5) hD0 hD5 hq
      | exit i => exact hq.elim
      | goto l => exact hq.elim
      | panic ch => exact hq.elim
      | outgrown => exact hq.elim
end
end Go.Proofs.Ytbckoncbimljeaa
