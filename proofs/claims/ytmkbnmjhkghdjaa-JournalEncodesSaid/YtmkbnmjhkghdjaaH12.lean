/- The abstract machine: rows of data: stores, appends, copies. -/
import Derived.Test.YtmkbnmjhkghdjaaH11
set_option linter.unusedVariables false
set_option linter.unusedSimpArgs false
namespace Go.Proofs.Ytmkbnmjhkghdjaa
open Go.RowKit

section
variable {P : Program} {GL : Nat → Option (List DV)} {E : En} {rd : Nat → Option AO} {slot : Nat} {ρ : Operand → AV} {ev : Operand → Value} {w : World}
theorem relDs_one {h : Array Obj} {X : Nat → Prop} : ∀ {xs : List DV} {vs : List Value}, RelDs h X xs vs → ∀ v ∈ vs, v.oneCell' = true
  | [], vs, hr, v, hv => by rw [show vs = [] from hr] at hv; cases hv
  | y :: xs, vs, hr, v, hv => by
    obtain ⟨u, vs', rfl, h1, h2⟩ := hr
    rcases List.mem_cons.1 hv with rfl | hv
    · exact relD_one h1
    · exact relDs_one h2 v hv
theorem relDs_of_relC {h : Array Obj} {X : Nat → Prop} : ∀ (cells : List DV) (b o : Nat), RelC h X cells b o → ∃ vs, RelDs h X cells vs ∧ ∀ j v, vs[j]? = some v → cellH h b (o + j) = some v
  | [], b, o, _ => ⟨[], rfl, fun j v hv => by simp at hv⟩
  | x :: cells, b, o, hr => by
    rw [RelC] at hr
    obtain ⟨⟨u, h1, h2⟩, h3⟩ := hr
    obtain ⟨vs, k1, k2⟩ := relDs_of_relC cells b (o + 1) h3
    refine ⟨u :: vs, ⟨u, vs, rfl, h2, k1⟩, fun j v hv => ?_⟩
    cases j with
    | zero => simp at hv; subst hv; exact h1
    | succ j => rw [show o + (j + 1) = o + 1 + j from by omega]; exact k2 j v (by simpa using hv)
theorem relDs_mono {h h' : Array Obj} {X X' : Nat → Prop} (hs : Sub h X h' X') : ∀ {xs : List DV} {vs : List Value}, RelDs h X xs vs → RelDs h' X' xs vs
  | [], vs, hr => hr
  | y :: xs, vs, hr => by
    obtain ⟨u, vs', rfl, h1, h2⟩ := hr
    exact ⟨u, vs', rfl, RelD.mono hs _ _ h1, relDs_mono hs h2⟩
theorem relDs_take {h : Array Obj} {X : Nat → Prop} : ∀ (n : Nat) {xs : List DV} {vs : List Value}, RelDs h X xs vs → RelDs h X (xs.take n) (vs.take n)
  | 0, xs, vs, _ => by rw [List.take_zero, List.take_zero]; rfl
  | n + 1, [], vs, hr => by rw [show vs = [] from hr]; rfl
  | n + 1, x :: xs, vs, hr => by
    obtain ⟨u, vs', rfl, h1, h2⟩ := hr
    exact ⟨u, _, rfl, h1, relDs_take n h2⟩
theorem relDs_append {h : Array Obj} {X : Nat → Prop} : ∀ {xs ys : List DV} {us vs : List Value}, RelDs h X xs us → RelDs h X ys vs → RelDs h X (xs ++ ys) (us ++ vs)
  | [], ys, us, vs, h1, h2 => by rw [show us = [] from h1]; exact h2
  | x :: xs, ys, us, vs, h1, h2 => by
    obtain ⟨u, us', rfl, k1, k2⟩ := h1
    exact ⟨u, us' ++ vs, rfl, k1, relDs_append k2 h2⟩
theorem relDs_bytes {h : Array Obj} {X : Nat → Prop} : ∀ (l : List UInt8), RelDs h X (bytesD l) (l.map fun b => Value.int .u8 b.toNat)
  | [] => rfl
  | b :: l => ⟨_, _, rfl, by rw [RelD]; exact ⟨rfl, rfl⟩, relDs_bytes l⟩
/-- A row of data, as the world has it. -/
theorem dataObj (hs : SimH GL E) {r e s : Nat} {cs : List DV} {wr : Bool} (hr : E.hp r = some (.data e s cs wr)) : (E.m r = none ∧ cs = []) ∨ ∃ b cur, E.m r = some (b, cur.size) ∧ E.h[b]? = some (.cells cur e) ∧ RelC E.h E.X cs b 0 ∧ (∃ c, cur.size = c * s ∧ c ≤ maxLen) ∧ 0 < s := by
  rcases hs.ob r _ hr with h | ⟨b, cur, h1, h2, h3, h4, h5, h6⟩
  · exact .inl h
  · exact .inr ⟨b, cur, h1, h2, h3, h5, h6⟩
theorem dataObj_len {r e s b : Nat} {cs : List DV} {cur : Array Value} (h2 : E.h[b]? = some (.cells cur e)) (h3 : RelC E.h E.X cs b 0) : cs.length ≤ cur.size := by
  rcases Nat.lt_or_ge cur.size cs.length with h | h
  · obtain ⟨u, k1, _⟩ := relC_get cs b 0 cur.size _ h3 (List.getElem?_eq_getElem h)
    rw [cellH_cells h2] at k1
    simp at k1
  · exact h
theorem store_data_ends (hw : w.heap = E.h) (hs : SimH GL E) (hrd : ∀ r o, rd r = some o → E.hp r = some o) (hρ : ∀ x, Rel E (ρ x) (ev x)) {t : Nat} {i : TI} (ht : tiOf P t = some i) {x y : Operand} {r off e s : Nat} (hx : ρ x = .ptr r off)
    {cs ns : List DV} {us : List (Nat × AO)} (hr : rd r = some (.data e s cs true)) (ha : allDV rd (ρ y).cellsOf = some (ns, us)) (h1 : (ρ y).cellsOf.length = i.size) (h2 : off + i.size ≤ cs.length) (h3 : isV (kinds rd) (ρ y) = true) (h4 : us.all (fun u => u.1 != r) = true) {o : Oper} (ho : o.op = .store t x y) :
    Ends P GL E w (execOp ev o) .undef ((r, .data e s (splice cs off ns) true) :: us) := by
  have hk := kindsOf_rd hrd
  have hFz := allDV_frz hrd ha
  have hgz := frz_goes hw hs hFz
  have hy := rel_cells hk h3 (hρ y)
  have hds := allDV_rel hrd hs hFz ha (fun p hp => hp) hy
  have hl := relL_length _ _ hy
  have hnl : ns.length = i.size := by rw [allDV_length ha, h1]
  have hr' : (frz E us).hp r = some (.data e s cs true) := by
    show updF E.hp us r = _
    unfold updF
    cases hlk : look r us with
    | none => exact hrd _ _ hr
    | some o' =>
      have := List.all_eq_true.1 h4 _ (look_mem hlk)
      simp at this
  have hx' := hρ x
  rw [hx, Rel, hrd _ _ hr] at hx'
  obtain ⟨b', z', e1, e2⟩ := hx'
  have e1' : (frz E us).m r = some (b', z') := e1
  rcases dataObj hgz.sim hr' with ⟨g1, _⟩ | ⟨b, cur, g1, g2, g3, g4, g5⟩
  · rw [g1] at e1'; cases e1'
  have hcl := dataObj_len (r := r) (s := s) g2 g3
  have hbb : b = b' := by rw [g1] at e1'; cases e1'; rfl
  subst hbb
  have hb : w.heap[b]? = some (.cells cur e) := by rw [hgz.h]; exact g2
  have hsz : (ev y).cells.size = i.size := by rw [← Array.length_toList, hl, h1]
  have hcu : cur.toList.length = cur.size := Array.length_toList
  have hrun := store_run (P := P) (i := i) (off := off) ht hb hsz (by omega) (relDs_one hds)
  have hvl : (ev y).cells.toList.length = i.size := by rw [Array.length_toList, hsz]
  have hgo := set_goes hgz.h hgz.sim hr' rfl g1 (o' := .data e s (splice cs off ns) true) ⟨rfl, rfl⟩ g2 (cur' := (splice cur.toList off (ev y).cells.toList).toArray)
    (by simp only [List.size_toArray]; rw [splice_length _ _ _ (by omega), Array.length_toList])
    ⟨rfl, fun j d hd => by
      rcases spliceD_get cs off ns j d (by omega) hd with ⟨q1, q2⟩ | ⟨q1, q2, q3⟩
      · obtain ⟨u, k1, k2⟩ := relC_get cs b 0 j d g3 q2
        rw [Nat.zero_add, cellH_cells g2] at k1
        refine ⟨u, ?_, k2⟩
        simp only [List.getElem?_toArray]
        rw [splice_get_lo _ _ _ _ (by omega) (by omega)]
        simpa using k1
      · obtain ⟨u, k1, k2⟩ := relDs_get _ _ _ _ hds q3
        refine ⟨u, ?_, k2⟩
        simp only [List.getElem?_toArray]
        rw [show j = off + (j - off) from by omega, splice_get_in _ _ _ _ (by omega) (by omega)]
        exact k1⟩ (w' := w.setRow b (splice cur.toList off (ev y).cells.toList).toArray) (setRow_heap w b cur _ e _ hb) (fun k hk => setRow_other w b k _ hk) (setRow_size _ _ _) rfl rfl rfl
  have hall := hgz.trans hgo
  obtain ⟨dst, op, type, pos, after, guard⟩ := o
  simp only at ho
  subst ho
  refine ⟨.skip, _, _, undef, ?_, .inr ⟨rfl, rfl⟩, hall, by rw [Rel]⟩
  show ((do Instr.storeAt t (ev x) (ev y); pure Next.skip) : Sem Next).run P w = _
  rw [e2]
  simp only [Sem.run_bind, hrun, Result.andThen_ok, Sem.run_pure]

/-! ### what is appended or copied -/
theorem bytes_cells (s : ByteArray) : (s.data.map fun b => Value.int .u8 b.toNat) = (s.data.toList.map fun b => Value.int .u8 b.toNat).toArray := by
  rw [← Array.toList_map]
theorem srcA_sim (hw : w.heap = E.h) (hs : SimH GL E) (hrd : ∀ r o, rd r = some o → E.hp r = some o) {s : Nat} {y : AV} {u : Value} (hr : Rel E y u) {cells : List DV} {m : Nat} (h : srcA rd s y = some (cells, m)) :
    ∃ news : List Value, RelDs E.h E.X cells news ∧ (Builtin.lenOf u).run P w = .ok m w ∧ news.length = m * s ∧ (∀ (k : Nat) (w' : World), k ≤ m → w'.heap = w.heap → (Builtin.firstCells s k u).run P w' = .ok (news.take (k * s)).toArray w') ∧ ((∃ A c, u = .slice A m c) ∨ ∃ b, y = .d (.val (.string b))) := by
  have key : ∀ (news : List Value) (b o c : Nat), news.length = m * s → (∀ j v, news[j]? = some v → cellH E.h b (o + j) = some v) → ∀ (k : Nat) (w' : World), k ≤ m → w'.heap = w.heap → (Builtin.firstCells s k (.slice (some ⟨b, o, none⟩) m c)).run P w' = .ok (news.take (k * s)).toArray w' := fun news b o c hl hc k w' hk hw' => by
    refine run_firstCells_some w' s k _ m c (news.take (k * s)) (by rw [List.length_take, hl]; exact Nat.min_eq_left (Nat.mul_le_mul_right _ hk)) (fun j v hv => ?_)
    rw [List.getElem?_take] at hv
    split at hv
    · rw [addr_add, cell_eq, hw', hw]
      exact hc j v hv
    · cases hv
  have zero : ∀ (A : Option Addr) (w' : World), (Builtin.firstCells s 0 (.slice A 0 0)).run P w' = .ok #[] w' := fun A w' => by
    cases A <;> simp [Builtin.firstCells, loadCells, loadCellsFrom, go_sem]
  unfold srcA at h
  split at h
  · simp only [Option.some.injEq, Prod.mk.injEq] at h
    obtain ⟨rfl, rfl⟩ := h
    rw [rel_val hr]
    refine ⟨[], rfl, by simp [Builtin.lenOf, go_sem], by simp, fun k w' hk hw' => ?_, .inl ⟨_, _, rfl⟩⟩
    · obtain rfl : k = 0 := by omega
      rw [zero]; simp
  · rename_i cs n cap
    split at h
    · rename_i hlen
      simp only [Option.some.injEq, Prod.mk.injEq] at h
      obtain ⟨rfl, rfl⟩ := h
      rw [Rel, RelD] at hr
      obtain ⟨A, c, rfl, g1, g2, g3, g4⟩ := hr
      by_cases hc : cs = []
      · subst hc
        refine ⟨[], rfl, by simp [Builtin.lenOf, go_sem], by simpa using hlen, fun k w' hk hw' => ?_, .inl ⟨_, _, rfl⟩⟩
        have hz : k * s = 0 := by
          have h1 := Nat.mul_le_mul_right s hk
          have h2 : 0 = n * s := hlen
          omega
        simp only [List.take_nil]
        cases A with
        | none => simp [Builtin.firstCells, go_sem]
        | some a => simp [Builtin.firstCells, hz, loadCells, loadCellsFrom, go_sem]
      · rcases g4 with g4 | ⟨b, o, rfl, g5, g6⟩
        · exact (hc g4).elim
        · obtain ⟨vs, k1, k2⟩ := relDs_of_relC cs b o g6
          have hvl : vs.length = n * s := by rw [relDs_length _ _ k1]; exact hlen
          exact ⟨vs, k1, by simp [Builtin.lenOf, go_sem], hvl, key vs b o c hvl k2, .inl ⟨_, _, rfl⟩⟩
    · cases h
  · rename_i r off n cap
    split at h
    · rename_i e s' cs wr ho
      split at h
      · rename_i hc
        obtain ⟨rfl, hc⟩ := hc
        simp only [Option.some.injEq, Prod.mk.injEq] at h
        obtain ⟨rfl, rfl⟩ := h
        rw [Rel, hrd _ _ ho] at hr
        rcases hr with ⟨rfl, _, _, A, rfl⟩ | ⟨b, z, c, g1, rfl, g3, g4, g5, g6⟩
        · refine ⟨[], by simp [RelDs], by simp [Builtin.lenOf, go_sem], by simp, fun k w' hk hw' => ?_, .inl ⟨_, _, rfl⟩⟩
          obtain rfl : k = 0 := by omega
          rw [zero]; simp
        · rcases dataObj hs (hrd _ _ ho) with ⟨q1, _⟩ | ⟨b', cur, q1, q2, q3, q4, q5⟩
          · rw [q1] at g1; cases g1
          · have hbb : b = b' := by rw [q1] at g1; cases g1; rfl
            subst hbb
            have hd := relC_take (n * s') _ _ _ (relC_drop off _ _ _ q3)
            rw [Nat.zero_add] at hd
            obtain ⟨vs, k1, k2⟩ := relDs_of_relC _ b off hd
            have hvl : vs.length = n * s' := by rw [relDs_length _ _ k1, List.length_take, List.length_drop]; omega
            exact ⟨vs, k1, by simp [Builtin.lenOf, go_sem], hvl, key vs b off c hvl k2, .inl ⟨_, _, rfl⟩⟩
      · cases h
    · cases h
  · rename_i b
    split at h
    · rename_i hs1
      subst hs1
      simp only [Option.some.injEq, Prod.mk.injEq] at h
      obtain ⟨rfl, rfl⟩ := h
      rw [rel_val hr]
      refine ⟨_, relDs_bytes _, by simp [Builtin.lenOf, go_sem], by simp, fun k w' hk hw' => ?_, .inr ⟨_, rfl⟩⟩
      simp only [Builtin.firstCells, Sem.run_pure, Nat.mul_one]
      rw [bytes_cells]
      congr 2
      rw [← List.map_take]
      congr 1
      simp [ByteArray.data_extract]
    · cases h
  · cases h
end
end Go.Proofs.Ytmkbnmjhkghdjaa
