/- The abstract machine: each operation that looks into objects, in the world. -/
import Derived.Test.YtmkbnmjhkghdjaaH10
import Derived.IntWalk
set_option linter.unusedVariables false
set_option linter.unusedSimpArgs false
namespace Go.Proofs.Ytmkbnmjhkghdjaa
open Go.RowKit

section
variable {P : Program} {GL : Nat → Option (List DV)} {E : En} {rd : Nat → Option AO} {slot : Nat} {ρ : Operand → AV} {ev : Operand → Value} {w : World}
theorem exec_w {o : Oper} {s : Sem Value} (he : execOp ev o = (do pure (Next.value (← s)))) {u : Value} {w' : World} (h : s.run P w = .ok u w') : (execOp ev o).run P w = .ok (.value u) w' := by
  rw [he]
  simp only [Sem.run_bind, h, Result.andThen_ok, Sem.run_pure]
/-- What an operation's end says, with its value. -/
def Ends (P : Program) (GL : Nat → Option (List DV)) (E : En) (w : World) (s : Sem Next) (v : AV) (us : List (Nat × AO)) : Prop :=
  ∃ n w' E' u, s.run P w = .ok n w' ∧ (n = .value u ∨ (n = .skip ∧ u = undef)) ∧ Goes GL E w us E' w' ∧ Rel E' v u
theorem newObj_run (o : Obj) : (newObj o).run P w = .ok w.heap.size { w with heap := w.heap.push o } := rfl
theorem newRow_run (t : TypeId) (cs : Array Value) : (newRow t cs).run P w = .ok ⟨w.heap.size, 0, none⟩ { w with heap := w.heap.push (.cells cs t) } := by
  simp only [newRow, Sem.run_bind, newObj_run, Result.andThen_ok, Sem.run_pure]
theorem new_ptr (hw : w.heap = E.h) {cs : List AV} {cur : Array Value} {t : TypeId} : Rel (newE E slot (.mix cs) cur t) (.ptr slot 0) (.pointer (some ⟨w.heap.size, 0, none⟩)) := by
  rw [Rel]
  simp only [newE, updF, look_one, if_true]
  exact ⟨_, _, rfl, by rw [hw]⟩
theorem box_ends (hw : w.heap = E.h) (hs : SimH GL E) (hn : E.hp slot = none) {cs : List AV} {cur : Array Value} (hc : RelL E cs cur.toList) {t : TypeId} {s : Sem Next} (he : s.run P w = .ok (.value (.pointer (some ⟨w.heap.size, 0, none⟩))) { w with heap := w.heap.push (.cells cur t) }) :
    Ends P GL E w s (.ptr slot 0) [(slot, .mix cs)] :=
  ⟨_, _, _, _, he, .inl rfl, new_goes hw hs hn (o := .mix cs) hc rfl rfl rfl rfl, new_ptr hw⟩
theorem new_sl (hw : w.heap = E.h) {e s : Nat} {cs : List DV} {wr : Bool} {cur : Array Value} {t : TypeId} {n c : Nat} {cap : Option Nat} (h1 : n ≤ c) (h2 : c ≤ maxLen) (h3 : c * s = cur.size) (h4 : ∀ k, cap = some k → c = k) :
    Rel (newE E slot (.data e s cs wr) cur t) (.sl slot 0 n cap) (.slice (some ⟨w.heap.size, 0, none⟩) n c) := by
  rw [Rel]
  simp only [newE, updF, look_one, if_true]
  refine .inr ⟨_, _, c, rfl, by rw [hw], h1, h2, by omega, ?_⟩
  cases cap with
  | none => simpa using h3
  | some k => exact h4 k rfl
theorem relDs_get {h : Array Obj} {X : Nat → Prop} : ∀ (xs : List DV) (vs : List Value) (i : Nat) (x : DV), RelDs h X xs vs → xs[i]? = some x → ∃ u, vs[i]? = some u ∧ RelD h X x u
  | [], vs, i, x, hr, hx => by simp at hx
  | y :: xs, vs, i, x, hr, hx => by
    obtain ⟨v, vs', rfl, h1, h2⟩ := hr
    cases i with
    | zero => simp at hx; subst hx; exact ⟨v, rfl, h1⟩
    | succ i => exact relDs_get xs vs' i x h2 (by simpa using hx)
theorem relDs_length {h : Array Obj} {X : Nat → Prop} : ∀ (xs : List DV) (vs : List Value), RelDs h X xs vs → vs.length = xs.length
  | [], vs, hr => by rw [show vs = [] from hr]; rfl
  | y :: xs, vs, hr => by
    obtain ⟨v, vs', rfl, h1, h2⟩ := hr
    simp [relDs_length xs vs' h2]
theorem kindsOf_rd (hrd : ∀ r o, rd r = some o → E.hp r = some o) : KindsOf E (kinds rd) := fun r k hk => by
  unfold kinds at hk
  simp only [Option.map_eq_some_iff] at hk
  obtain ⟨o, h1, h2⟩ := hk
  exact ⟨o, hrd r o h1, h2⟩
theorem repD_toList (z : List Value) : ∀ n, repD n (z.map .val) = (List.replicate n z).flatten.map .val
  | 0 => rfl
  | n + 1 => by rw [repD, repD_toList z n, List.replicate_succ, List.flatten_cons, List.map_append]
theorem zeroRange (z : Array Value) (s : Nat) (hs : z.size = s) (hp : 0 < s) : ∀ n, ((Array.range (n * s)).map fun i => z[i % z.size]!).toList = (List.replicate n z.toList).flatten := by
  intro n
  rw [Array.toList_map, Array.toList_range]
  induction n with
  | zero => simp
  | succ n ih =>
    rw [List.replicate_succ', List.flatten_append, ← ih, Nat.add_mul, Nat.one_mul, List.range_add, List.map_append, List.map_map]
    congr 1
    apply List.ext_getElem?
    intro j
    simp only [List.flatten_cons, List.flatten_nil, List.append_nil, List.getElem?_map, Array.getElem?_toList]
    by_cases hj : j < s
    · rw [List.getElem?_range hj]
      simp only [Option.map_some, Function.comp, hs, Nat.mul_add_mod_of_lt, Nat.mul_comm n s, Nat.mul_add_mod, Nat.mod_eq_of_lt hj]
      rw [Array.getElem?_eq_getElem (by omega), getElem!_pos z j (by omega)]
    · rw [List.getElem?_eq_none (by simp; omega), Array.getElem?_eq_none (by omega)]
      rfl
theorem alloc_ends (hw : w.heap = E.h) (hs : SimH GL E) (hn : E.hp slot = none) {t : Nat} {i : TI} (ht : tiOf P t = some i) {o : Oper} (ho : o.op = .alloc t) : Ends P GL E w (execOp ev o) (.ptr slot 0) [(slot, .mix (i.zero.map .d))] := by
  obtain ⟨z, h1, h2, h3, h4⟩ := run_zero (w := w) ht
  refine box_ends hw hs hn (cur := z.cells) (t := t) (by rw [h2]; exact relL_vals _ h3) ?_
  obtain ⟨dst, op, type, pos, after, guard⟩ := o
  simp only at ho
  subst ho
  simp only [execOp, Instr.alloc, Sem.run_bind, h1, Result.andThen_ok, newVar, newRow_run, Sem.run_pure]
theorem allDV_length {rd : Nat → Option AO} : ∀ {xs : List AV} {ys : List DV} {us : List (Nat × AO)}, allDV rd xs = some (ys, us) → ys.length = xs.length
  | [], ys, us, h => by simp only [allDV, Option.some.injEq, Prod.mk.injEq] at h; rw [← h.1]; rfl
  | x :: xs, ys, us, h => by
    simp only [allDV] at h
    split at h
    · rename_i y u ys' us' h1 h2
      simp only [Option.some.injEq, Prod.mk.injEq] at h
      rw [← h.1]
      simp [allDV_length h2]
    · cases h
theorem fillA_length {pa : Nat → Option (Nat × Nat)} : ∀ {parts : List (Nat × AV)} {cs cs' : List AV}, fillA pa cs parts = some cs' → cs'.length = cs.length
  | [], cs, cs', h => by simp only [fillA, Option.some.injEq] at h; rw [h]
  | (i, v) :: parts, cs, cs', h => by
    simp only [fillA] at h
    split at h
    · cases h
    · split at h
      · rename_i hc
        rw [fillA_length h, splice_length _ _ _ (by omega)]
      · cases h
theorem updF_none {hp : Nat → Option AO} {us : List (Nat × AO)} {r : Nat} (h : hp r = none) (hf : FrzOk hp us) : updF hp us r = none := by
  unfold updF
  cases hl : look r us with
  | none => exact h
  | some o =>
    obtain ⟨e, s, cs, wr, h1, _⟩ := hf r o (look_mem hl)
    rw [h] at h1
    cases h1
theorem slice_ends (hw : w.heap = E.h) (hs : SimH GL E) (hn : E.hp slot = none) (hrd : ∀ r o, rd r = some o → E.hp r = some o) (hρ : ∀ x, Rel E (ρ x) (ev x)) {t e n : Nat} {i ei : TI} (ht : tiOf P t = some i) (hk : i.k = .slice e) (hei : tiOf P e = some ei)
    (h1 : n * ei.size ≤ 1000) (h2 : 0 < ei.size) (parts : Array (Nat × Operand)) (hv : ∀ p ∈ parts.toList, isV (kinds rd) (ρ p.2) = true) {cells : List AV} (hf : fillA (fun j => some (j * ei.size, ei.size)) ((repD n ei.zero).map .d) (parts.toList.map fun p => (p.1, ρ p.2)) = some cells)
    {cs : List DV} {us : List (Nat × AO)} (ha : allDV rd cells = some (cs, us)) {o : Oper} (ho : o.op = .buildSlice t n parts) : Ends P GL E w (execOp ev o) (.sl slot 0 n (some n)) ((slot, .data e ei.size cs true) :: us) := by
  obtain ⟨d, hd, hkd⟩ := run_under ht
  rw [hk] at hkd
  cases d <;> simp only [atOf] at hkd <;> try (cases hkd; done)
  simp only [AT.slice.injEq] at hkd
  subst hkd
  obtain ⟨z, z1, z2, z3, z4⟩ := run_zero (w := w) hei
  have hzs : z.cells.size = ei.size := by rw [← Array.length_toList]; exact z4
  have hzr := zeroRange z.cells ei.size hzs h2 n
  have hk' := kindsOf_rd hrd
  obtain ⟨cells', g1, g2⟩ := fill_sim hk' parts.toList ρ ev _ cells ((Array.range (n * ei.size)).map fun i => z.cells[i % z.cells.size]!) hρ hv (by rw [hzr, z2, repD_toList]; exact relL_vals _ (fun u hu => by
    simp only [List.mem_flatten, List.mem_replicate] at hu
    obtain ⟨l, ⟨_, rfl⟩, hu⟩ := hu
    exact z3 u hu)) hf
  have hFz := allDV_frz hrd ha
  have hgz := frz_goes hw hs hFz
  have hds := allDV_rel hrd hs hFz ha (fun p hp => hp) g2
  have hcl : cells'.size = n * ei.size := by
    rw [← Array.length_toList, relL_length _ _ g2, fillA_length hf, List.length_map, z2, repD_toList, List.length_map, List.length_flatten]
    simp [List.sum_replicate_nat, hzs]
  have hnew := new_goes (slot := slot) (o := .data e ei.size cs true) (cur := cells') (t := e) (w' := { w with heap := w.heap.push (.cells cells' e) }) hgz.h hgz.sim (updF_none hn hFz)
    ⟨rfl, rfl, fun j x hx => by
      obtain ⟨u, k1, k2⟩ := relDs_get _ _ j x hds hx
      exact ⟨u, by simpa using k1, k2⟩, ⟨n, hcl, by
        have := Nat.le_mul_of_pos_right n h2
        simp only [maxLen]; omega⟩, h2⟩ rfl rfl rfl rfl
  have hall := hgz.trans hnew
  refine ⟨.value (.slice (some ⟨w.heap.size, 0, none⟩) n n), _, _, _, ?_, .inl rfl, hall, ?_⟩
  · obtain ⟨dst, op, type, pos, after, guard⟩ := o
    simp only at ho
    subst ho
    have hg2 : ¬ (n * ei.size > 2 ^ 24) := by omega
    simp only [execOp, Instr.buildSlice, Sem.run_bind, run_underlying hd, Result.andThen_ok, run_sizeOf hei]
    rw [if_neg hg2]
    by_cases hz0 : n * ei.size = 0
    · rw [if_pos hz0]
      have hc0 : cells'.size = 0 := by omega
      have e0 : (Array.map (fun i => z.cells[i % z.cells.size]!) (Array.range (n * ei.size))) = #[] := by rw [hz0]; simp
      rw [e0] at g1
      simp only [Sem.run_pure, Result.andThen_ok, Sem.run_bind]
      have e1 : (Array.map (fun i => (#[] : Array Value)[i % (#[] : Array Value).size]!) (Array.range (n * ei.size))) = #[] := by rw [hz0]; simp
      rw [e1, Array.toList_map, g1]
      simp only [Sem.run_bind, newRow_run, Result.andThen_ok, Sem.run_pure]
    · rw [if_neg hz0]
      simp only [Sem.run_bind, z1, Sem.run_pure, Result.andThen_ok]
      rw [Array.toList_map, g1]
      simp only [Sem.run_bind, newRow_run, Result.andThen_ok, Sem.run_pure]
  · have : w.heap = (frz E us).h := hw
    exact new_sl this (Nat.le_refl _) (by have := Nat.le_mul_of_pos_right n h2; simp only [maxLen]; omega) hcl.symm (fun k hk => by cases hk; rfl)
theorem made_ends (hw : w.heap = E.h) (hs : SimH GL E) (hn : E.hp slot = none) (hρ : ∀ x, Rel E (ρ x) (ev x)) {t e : Nat} {i ei : TI} (ht : tiOf P t = some i) (hk : i.k = .slice e) (hei : tiOf P e = some ei)
    {lo co : Operand} {k1 k2 : IntKind} {n k : Int} (hl : ρ lo = .d (.val (.int k1 n))) (hc : ρ co = .d (.val (.int k2 k))) (h0 : 0 ≤ n) (h1 : n ≤ k) (h2 : k * ei.bytes ≤ 140737488355328) (h3 : k ≤ (maxLen : Int)) (h4 : 0 < ei.size)
    {o : Oper} (ho : o.op = .makeSlice t lo co) : Ends P GL E w (execOp ev o) (.sl slot 0 n.toNat (some k.toNat)) [(slot, .data e ei.size (repD k.toNat ei.zero) true)] := by
  obtain ⟨d, hd, hkd⟩ := run_under ht
  rw [hk] at hkd
  cases d <;> simp only [atOf] at hkd <;> try (cases hkd; done)
  simp only [AT.slice.injEq] at hkd
  subst hkd
  obtain ⟨inf, de, z, q1, q2, q3, q4, q5, q6, q7, q8, q9⟩ := ti_spec hei
  have hzs : z.cells.size = ei.size := by rw [← Array.length_toList]; exact q9
  have hzr := zeroRange z.cells ei.size hzs h4 k.toNat
  obtain ⟨n, rfl⟩ := Int.eq_ofNat_of_zero_le h0
  obtain ⟨k, rfl⟩ := Int.eq_ofNat_of_zero_le (Int.le_trans h0 h1)
  have hnk : n ≤ k := by omega
  have hkm : k ≤ maxLen := by omega
  have hb : k * ei.bytes ≤ 140737488355328 := by
    have q : ((k * ei.bytes : Nat) : Int) ≤ 140737488355328 := by rw [Int.natCast_mul]; exact h2
    omega
  simp only [Int.toNat_natCast] at hzr ⊢
  have hm : k ≤ 9223372036854775807 := by have e0 : maxLen = 9223372036854775807 := rfl
                                          omega
  have w1 : IntKind.i64.wrap (n : Int) = n := IntWalk.i64_in _ ⟨by omega, by omega⟩
  have w2 : IntKind.i64.wrap (k : Int) = k := IntWalk.i64_in _ ⟨by omega, by omega⟩
  let cur : Array Value := (Array.range (k * ei.size)).map fun i => z.cells[i % z.cells.size]!
  have hcs : cur.size = k * ei.size := by simp [cur]
  have hnew := new_goes (slot := slot) (o := .data e ei.size (repD k ei.zero) true) (cur := cur) (t := e) (w' := { w with heap := w.heap.push (.cells cur e) }) hw hs hn
    ⟨rfl, rfl, fun j x hx => by
      rw [q7, repD_toList] at hx
      rw [List.getElem?_map, Option.map_eq_some_iff] at hx
      obtain ⟨u, hu, rfl⟩ := hx
      refine ⟨u, by rw [← Array.getElem?_toList]; show cur.toList[j]? = _; rw [show cur.toList = _ from hzr]; exact hu, ?_⟩
      rw [RelD]
      refine ⟨rfl, ?_⟩
      have := List.mem_of_getElem? hu
      simp only [List.mem_flatten, List.mem_replicate] at this
      obtain ⟨l, ⟨_, rfl⟩, hu⟩ := this
      exact q8 u hu, ⟨k, hcs, hkm⟩, h4⟩ rfl rfl rfl rfl
  refine ⟨.value (.slice (some ⟨w.heap.size, 0, none⟩) n k), _, _, _, ?_, .inl rfl, hnew, new_sl hw hnk hkm hcs.symm (fun _ hh => by cases hh; rfl)⟩
  obtain ⟨dst, op, type, pos, after, guard⟩ := o
  simp only at ho
  subst ho
  have a1 := hρ lo; have a2 := hρ co
  rw [hl] at a1; rw [hc] at a2
  have a1 := rel_val a1; have a2 := rel_val a2
  have hr := run_make (P := P) w t e inf z hd q1 q3 k1 k2 (n : Int) (k : Int) h0 h1 (by rw [q5, Int.mul_comm]; omega) (by omega)
  simp only [Int.toNat_natCast, q4] at hr
  exact exec_w (s := Instr.makeSlice t (ev lo) (ev co)) rfl (by rw [a1, a2]; exact hr)
/-- A store into a block of the call's own. -/
theorem store_run {t : Nat} {i : TI} (ht : tiOf P t = some i) {b off : Nat} {cur : Array Value} {t0 : TypeId} (hb : w.heap[b]? = some (.cells cur t0)) {u : Value} (h1 : u.cells.size = i.size) (h2 : off + i.size ≤ cur.size) (h3 : ∀ v ∈ u.cells.toList, v.oneCell' = true) :
    (Instr.storeAt t (.pointer (some ⟨b, off, none⟩)) u).run P w = .ok () (w.setRow b (splice cur.toList off u.cells.toList).toArray) := by
  have hl : u.cells.toList.length = i.size := by rw [Array.length_toList, h1]
  have hr := run_storeCells_at P b off t0 u.cells.toList 0 cur w hb (by omega) h3
  have hsp : ∀ (l : List Value) (o : Nat) (new : List Value), o + new.length ≤ l.length → splice l o new = l.take o ++ new ++ l.drop (o + new.length) := by
    intro l
    induction l with
    | nil => intro o new h; cases o <;> simp at h ⊢ <;> (try subst h) <;> simp [splice]
    | cons x l ih =>
      intro o new h
      cases o with
      | zero => simp [splice]
      | succ o =>
        rw [splice, ih o new (by simp at h; omega)]
        simp [Nat.add_right_comm]
  rw [hsp _ _ _ (by have e0 : cur.toList.length = cur.size := Array.length_toList; omega)]
  simp only [Nat.add_zero] at hr
  simp only [Instr.storeAt, Instr.sureAddr, Sem.run_bind, Sem.run_pure, Result.andThen_ok, storeVar, run_sizeOf ht, h1, ne_eq, not_true, if_false]
  exact hr
theorem mixObj (hs : SimH GL E) {r : Nat} {cs : List AV} (hr : E.hp r = some (.mix cs)) : ∃ b cur t, E.m r = some (b, cur.size) ∧ E.h[b]? = some (.cells cur t) ∧ RelL E cs cur.toList := by
  obtain ⟨b, cur, t, h1, h2, h3, _⟩ := hs.ob r _ hr
  exact ⟨b, cur, t, h1, h2, h3⟩
theorem okCell_one (hk : KindsOf E (kinds rd)) : ∀ {xs : List AV} {vs : List Value}, RelL E xs vs → xs.all (okCell rd) = true → ∀ v ∈ vs, v.oneCell' = true
  | [], vs, h, _, v, hv => by rw [RelL] at h; subst h; cases hv
  | x :: xs, vs, h, ha, v, hv => by
    rw [RelL] at h
    obtain ⟨u, vs', rfl, h1, h2⟩ := h
    simp only [List.all_cons, Bool.and_eq_true] at ha
    rcases List.mem_cons.1 hv with rfl | hv
    · have hx : ∀ cs, x ≠ .agg cs := fun cs e => by rw [e] at ha; cases ha.1
      have : isV (kinds rd) x = true := by
        have := ha.1
        cases x <;> first | exact this | (exact (hx _ rfl).elim)
      exact rel_one hk this hx h1
    · exact okCell_one hk h2 ha.2 v hv
theorem store_ends (hw : w.heap = E.h) (hs : SimH GL E) (hrd : ∀ r o, rd r = some o → E.hp r = some o) (hρ : ∀ x, Rel E (ρ x) (ev x)) {t : Nat} {i : TI} (ht : tiOf P t = some i) {x y : Operand} {r off : Nat} (hx : ρ x = .ptr r off)
    {cs : List AV} (hr : rd r = some (.mix cs)) (h1 : (ρ y).cellsOf.length = i.size) (h2 : off + i.size ≤ cs.length) (h3 : isV (kinds rd) (ρ y) = true) (h4 : (ρ y).cellsOf.all (okCell rd) = true) {o : Oper} (ho : o.op = .store t x y) :
    Ends P GL E w (execOp ev o) .undef [(r, .mix (splice cs off (ρ y).cellsOf))] := by
  have hk := kindsOf_rd hrd
  obtain ⟨b, cur, t0, g1, g2, g3⟩ := mixObj hs (hrd _ _ hr)
  have hy := rel_cells hk h3 (hρ y)
  have hl := relL_length _ _ hy
  have hcl := relL_length _ _ g3
  have hx' := hρ x
  rw [hx, Rel, hrd _ _ hr] at hx'
  obtain ⟨b', z', e1, e2⟩ := hx'
  rw [g1] at e1
  cases e1
  have hb : w.heap[b]? = some (.cells cur t0) := by rw [hw]; exact g2
  have hsz : (ev y).cells.size = i.size := by rw [← Array.length_toList, hl, h1]
  have hrun := store_run (P := P) ht hb hsz (by rw [← Array.length_toList, hcl]; exact h2) (okCell_one hk hy h4)
  have hgo := set_goes hw hs (hrd _ _ hr) rfl g1 (o' := .mix (splice cs off (ρ y).cellsOf)) trivial g2 (cur' := (splice cur.toList off (ev y).cells.toList).toArray)
    (by simp only [List.size_toArray]; rw [splice_length _ _ _ (by rw [Array.length_toList, Array.length_toList, hsz, ← Array.length_toList, hcl]; exact h2), Array.length_toList])
    (by show RelL E _ _; exact relL_splice _ _ _ _ _ g3 hy) (w' := w.setRow b (splice cur.toList off (ev y).cells.toList).toArray) (setRow_heap w b cur _ t0 _ hb) (fun k hk => setRow_other w b k _ hk) (setRow_size _ _ _) rfl rfl rfl
  obtain ⟨dst, op, type, pos, after, guard⟩ := o
  simp only at ho
  subst ho
  refine ⟨.skip, _, _, undef, ?_, .inr ⟨rfl, rfl⟩, hgo, by rw [Rel]⟩
  show ((do Instr.storeAt t (ev x) (ev y); pure Next.skip) : Sem Next).run P w = _
  rw [e2]
  simp only [Sem.run_bind, hrun, Result.andThen_ok, Sem.run_pure]
theorem spliceD_get {α : Type} : ∀ (cs : List α) (off : Nat) (new : List α) (i : Nat) (x : α), off + new.length ≤ cs.length → (splice cs off new)[i]? = some x → (i < off ∨ off + new.length ≤ i) ∧ cs[i]? = some x ∨ off ≤ i ∧ i < off + new.length ∧ new[i - off]? = some x := by
  intro cs
  induction cs with
  | nil =>
    intro off new i x h hx
    have h1 : new = [] := List.eq_nil_of_length_eq_zero (by have e0 : ([] : List α).length = 0 := rfl; omega)
    subst h1
    cases off <;> simp [splice] at hx
  | cons c cs ih =>
    intro off new i x h hx
    cases off with
    | zero =>
      have e : splice (c :: cs) 0 new = new ++ (c :: cs).drop new.length := rfl
      rw [e] at hx
      by_cases hi : i < new.length
      · rw [List.getElem?_append_left hi] at hx
        exact .inr ⟨by omega, by omega, by simpa using hx⟩
      · rw [List.getElem?_append_right (by omega), List.getElem?_drop] at hx
        exact .inl ⟨by omega, by rw [show new.length + (i - new.length) = i from by omega] at hx; exact hx⟩
    | succ off =>
      rw [splice] at hx
      cases i with
      | zero => exact .inl ⟨.inl (by omega), hx⟩
      | succ i =>
        rcases ih off new i x (by simp at h; omega) (by simpa using hx) with ⟨h1, h2⟩ | ⟨h1, h2, h3⟩
        · exact .inl ⟨by omega, by simpa using h2⟩
        · exact .inr ⟨by omega, by omega, by rw [show i + 1 - (off + 1) = i - off from by omega]; exact h3⟩
theorem splice_get_lo {α : Type} : ∀ (cs : List α) (off : Nat) (new : List α) (i : Nat), off + new.length ≤ cs.length → (i < off ∨ off + new.length ≤ i) → (splice cs off new)[i]? = cs[i]? := by
  intro cs
  induction cs with
  | nil =>
    intro off new i h hi
    have h1 : new = [] := List.eq_nil_of_length_eq_zero (by have e0 : ([] : List α).length = 0 := rfl; omega)
    subst h1
    rw [splice_nil]
  | cons c cs ih =>
    intro off new i h hi
    cases off with
    | zero =>
      have e : splice (c :: cs) 0 new = new ++ (c :: cs).drop new.length := rfl
      rw [e, List.getElem?_append_right (by omega), List.getElem?_drop]
      rw [show new.length + (i - new.length) = i from by omega]
    | succ off =>
      rw [splice]
      cases i with
      | zero => rfl
      | succ i => simpa using ih off new i (by simp at h; omega) (by omega)
theorem splice_get_in {α : Type} : ∀ (cs : List α) (off : Nat) (new : List α) (j : Nat), off + new.length ≤ cs.length → j < new.length → (splice cs off new)[off + j]? = new[j]? := by
  intro cs
  induction cs with
  | nil => intro off new j h hj; have e0 : ([] : List α).length = 0 := rfl; omega
  | cons c cs ih =>
    intro off new j h hj
    cases off with
    | zero =>
      have e : splice (c :: cs) 0 new = new ++ (c :: cs).drop new.length := rfl
      rw [e, Nat.zero_add, List.getElem?_append_left hj]
    | succ off =>
      rw [splice, show off + 1 + j = (off + j) + 1 from by omega, List.getElem?_cons_succ]
      exact ih off new j (by simp at h; omega) hj
end
end Go.Proofs.Ytmkbnmjhkghdjaa
