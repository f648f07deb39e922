/- The abstract machine: what the operations that look into no object do in the world. -/
import Derived.Test.YtmkbnmjhkghdjaaH3
import Derived.WalkKit
set_option linter.unusedVariables false
set_option linter.unusedSimpArgs false
namespace Go.Proofs.Ytmkbnmjhkghdjaa
open Go.RowKit

theorem ti_spec {P : Program} {t : Nat} {i : TI} (h : tiOf P t = some i) : ∃ inf d z, P.info? t = some inf ∧ P.underlying t = some d ∧ inf.zero = some z ∧ inf.size = i.size ∧ inf.bytes = i.bytes ∧ i.k = atOf d ∧ i.zero = z.cells.toList.map .val ∧ (∀ u ∈ z.cells.toList, u.oneCell' = true) ∧ z.cells.toList.length = i.size := by
  unfold tiOf at h
  split at h
  · rename_i inf d hi hd
    split at h
    · rename_i z hz
      split at h
      · rename_i hc
        simp only [Option.some.injEq] at h
        subst h
        simp only [Bool.and_eq_true, List.all_eq_true, beq_iff_eq] at hc
        exact ⟨inf, d, z, hi, hd, hz, rfl, rfl, rfl, rfl, hc.1, hc.2⟩
      · cases h
    · cases h
  · cases h
section
variable {P : Program} {w : World} {t : Nat} {i : TI}
theorem run_sizeOf (h : tiOf P t = some i) : (sizeOf t).run P w = .ok i.size w := by
  obtain ⟨inf, d, z, h1, h2, h3, h4, h5, h6, h7, h8, h9⟩ := ti_spec h
  simp [sizeOf, typeInfo, h1, go_sem, h4]
theorem run_under (h : tiOf P t = some i) : ∃ d, P.underlying t = some d ∧ i.k = atOf d := by
  obtain ⟨inf, d, z, h1, h2, h3, h4, h5, h6, h7, h8, h9⟩ := ti_spec h
  exact ⟨d, h2, h6⟩
theorem run_isAgg (h : tiOf P t = some i) : (isAgg t).run P w = .ok i.k.isAgg w := by
  obtain ⟨d, hd, hk⟩ := run_under h
  rw [hk]
  cases d <;> simp [isAgg, hd, go_sem, run_underlying, atOf, AT.isAgg]
theorem run_zero (h : tiOf P t = some i) : ∃ z, (zeroValue t).run P w = .ok z w ∧ i.zero = z.cells.toList.map .val ∧ (∀ u ∈ z.cells.toList, u.oneCell' = true) ∧ z.cells.toList.length = i.size := by
  obtain ⟨inf, d, z, h1, h2, h3, h4, h5, h6, h7, h8, h9⟩ := ti_spec h
  exact ⟨z, by simp [zeroValue, typeInfo, h1, h3, go_sem], h7, h8, h9⟩
end
theorem relL_append {E : En} : ∀ (xs ys : List AV) (us vs : List Value), RelL E xs us → RelL E ys vs → RelL E (xs ++ ys) (us ++ vs)
  | [], ys, us, vs, h, k => by rw [RelL] at h; subst h; exact k
  | x :: xs, ys, us, vs, h, k => by
    rw [RelL] at h
    obtain ⟨v, vs', rfl, h1, h2⟩ := h
    rw [List.cons_append, RelL]
    exact ⟨v, vs' ++ vs, rfl, h1, relL_append xs ys vs' vs h2 k⟩
theorem relL_split {E : En} : ∀ (us vs : List Value) (xs : List AV), RelL E xs (us ++ vs) → RelL E (xs.take us.length) us ∧ RelL E (xs.drop us.length) vs
  | [], vs, xs, h => ⟨by simp only [List.length_nil, List.take_zero]; rw [RelL], h⟩
  | u :: us, vs, [], h => by rw [RelL] at h; cases h
  | u :: us, vs, x :: xs, h => by
    rw [RelL] at h
    obtain ⟨v, vs', e, h1, h2⟩ := h
    cases e
    obtain ⟨k1, k2⟩ := relL_split us vs xs h2
    refine ⟨?_, k2⟩
    rw [List.length_cons, List.take_succ_cons, RelL]
    exact ⟨_, _, rfl, h1, k1⟩
theorem relL_length {E : En} : ∀ (xs : List AV) (us : List Value), RelL E xs us → us.length = xs.length
  | [], us, h => by rw [RelL] at h; subst h; rfl
  | x :: xs, us, h => by
    rw [RelL] at h
    obtain ⟨v, vs', rfl, h1, h2⟩ := h
    simp [relL_length xs vs' h2]
theorem relL_get {E : En} : ∀ (xs : List AV) (us : List Value) (i : Nat) (x : AV), RelL E xs us → xs[i]? = some x → ∃ u, us[i]? = some u ∧ Rel E x u
  | [], us, i, x, h, hx => by simp at hx
  | y :: xs, us, i, x, h, hx => by
    rw [RelL] at h
    obtain ⟨v, vs', rfl, h1, h2⟩ := h
    cases i with
    | zero => simp at hx; subst hx; exact ⟨v, rfl, h1⟩
    | succ i => exact relL_get xs vs' i x h2 (by simpa using hx)
theorem relL_drop {E : En} : ∀ (n : Nat) (xs : List AV) (us : List Value), RelL E xs us → RelL E (xs.drop n) (us.drop n)
  | 0, xs, us, h => h
  | n + 1, [], us, h => by rw [RelL] at h; subst h; rw [List.drop_nil, List.drop_nil, RelL]
  | n + 1, x :: xs, us, h => by
    rw [RelL] at h
    obtain ⟨v, vs', rfl, h1, h2⟩ := h
    exact relL_drop n xs vs' h2
theorem relL_take {E : En} : ∀ (n : Nat) (xs : List AV) (us : List Value), RelL E xs us → RelL E (xs.take n) (us.take n)
  | 0, xs, us, h => by rw [List.take_zero, List.take_zero, RelL]
  | n + 1, [], us, h => by rw [RelL] at h; subst h; rw [List.take_nil, List.take_nil, RelL]
  | n + 1, x :: xs, us, h => by
    rw [RelL] at h
    obtain ⟨v, vs', rfl, h1, h2⟩ := h
    rw [List.take_succ_cons, List.take_succ_cons, RelL]
    exact ⟨v, _, rfl, h1, relL_take n xs vs' h2⟩
theorem relL_map {E : En} (ρ : Operand → AV) (ev : Operand → Value) (h : ∀ x, Rel E (ρ x) (ev x)) : ∀ (l : List Operand), RelL E (l.map ρ) (l.map ev)
  | [] => by rw [List.map_nil, List.map_nil, RelL]
  | x :: l => by
    rw [List.map_cons, List.map_cons, RelL]
    exact ⟨_, _, rfl, h x, relL_map ρ ev h l⟩
theorem relL_vals {E : En} : ∀ (l : List Value), (∀ u ∈ l, u.oneCell' = true) → RelL E ((l.map DV.val).map .d) l
  | [], _ => by rw [List.map_nil, List.map_nil, RelL]
  | x :: l, h => by
    rw [List.map_cons, List.map_cons, RelL]
    refine ⟨_, _, rfl, ?_, relL_vals l fun u hu => h u (List.mem_cons_of_mem _ hu)⟩
    rw [Rel, RelD]
    exact ⟨rfl, h x List.mem_cons_self⟩
theorem live_spec {lk : Nat → Option AK} {r : Nat} (h : liveK lk r = true) : ∃ k, lk r = some k ∧ k ≠ .dead := by
  unfold liveK at h
  cases hh : lk r with
  | none => rw [hh] at h; cases h
  | some k =>
    rw [hh] at h
    refine ⟨k, rfl, fun e => ?_⟩
    subst e
    cases h
/-- What is known of the kinds is so. -/
def KindsOf (E : En) (lk : Nat → Option AK) : Prop := ∀ r k, lk r = some k → ∃ o, E.hp r = some o ∧ o.kind = k
theorem rel_ptr {E : En} {lk : Nat → Option AK} (hk : KindsOf E lk) {r off : Nat} {u : Value} (hl : liveK lk r = true) (h : Rel E (.ptr r off) u) : ∃ b z, E.m r = some (b, z) ∧ u = .pointer (some ⟨b, off, none⟩) := by
  obtain ⟨k, h1, h2⟩ := live_spec hl
  obtain ⟨o, h3, h4⟩ := hk r k h1
  rw [Rel, h3] at h
  cases o <;> simp [AO.kind] at h4 <;> first | exact h | (exact (h2 h4.symm).elim)
/-- What a slice of an object looks like. -/
theorem rel_sl {E : En} {lk : Nat → Option AK} (hk : KindsOf E lk) {r off n : Nat} {cap : Option Nat} {u : Value} (hl : liveK lk r = true) (h : Rel E (.sl r off n cap) u) :
    ∃ A c, u = .slice A n c ∧ n ≤ c ∧ c ≤ maxLen ∧ ((n = 0 ∧ c = 0) ∨ ∃ b z, E.m r = some (b, z) ∧ A = some ⟨b, off, none⟩) := by
  obtain ⟨k, h1, h2⟩ := live_spec hl
  obtain ⟨o, h3, h4⟩ := hk r k h1
  rw [Rel, h3] at h
  cases o with
  | dead => simp [AO.kind] at h4; exact (h2 h4.symm).elim
  | mix cs =>
    obtain ⟨b, z, c, g1, g2, g3, g4, g5⟩ := h
    exact ⟨_, c, g2, g4, g5, .inr ⟨b, z, g1, rfl⟩⟩
  | data e s cs wr =>
    rcases h with ⟨rfl, h5, _, A, rfl⟩ | ⟨b, z, c, g1, g2, g3, g4, g5, g6⟩
    · exact ⟨A, 0, rfl, Nat.le_refl _, Nat.zero_le _, .inl ⟨rfl, rfl⟩⟩
    · exact ⟨_, c, g2, g3, g4, .inr ⟨b, z, g1, rfl⟩⟩
theorem oneCell_cells {u : Value} (h : u.oneCell' = true) : u.cells = #[u] := by cases u <;> simp [Value.oneCell'] at h <;> rfl
theorem relD_one {h : Array Obj} {X : Nat → Prop} {x : DV} {u : Value} (hr : RelD h X x u) : u.oneCell' = true := by
  cases x with
  | val v => rw [RelD] at hr; rw [hr.1]; exact hr.2
  | dl cells n cap => rw [RelD] at hr; obtain ⟨A, c, rfl, _⟩ := hr; rfl
/-- A value that is known and no struct is of one cell. -/
theorem rel_one {E : En} {lk : Nat → Option AK} (hk : KindsOf E lk) {x : AV} {u : Value} (hv : isV lk x = true) (hx : ∀ cs, x ≠ .agg cs) (h : Rel E x u) : u.oneCell' = true := by
  cases x with
  | agg cs => exact (hx cs rfl).elim
  | d x => rw [Rel] at h; exact relD_one h
  | dptr cells off => rw [Rel] at h; obtain ⟨b, o, rfl, _⟩ := h; rfl
  | clo f caps => rw [Rel] at h; obtain ⟨vs, ⟨rfl, _⟩, _⟩ := h; rfl
  | ptr r off => obtain ⟨b, z, _, rfl⟩ := rel_ptr hk hv h; rfl
  | sl r off n cap => obtain ⟨A, c, rfl, _⟩ := rel_sl hk hv h; rfl
  | tup vs => cases hv
  | undef => cases hv
  | ab => cases hv
  | junk => cases hv
theorem rel_cells {E : En} {lk : Nat → Option AK} (hk : KindsOf E lk) {x : AV} {u : Value} (hv : isV lk x = true) (h : Rel E x u) : RelL E x.cellsOf u.cells.toList := by
  by_cases hx : ∀ cs, x ≠ .agg cs
  · rw [oneCell_cells (rel_one hk hv hx h)]
    have : x.cellsOf = [x] := by cases x <;> first | rfl | exact (hx _ rfl).elim
    rw [this, RelL]
    exact ⟨u, [], rfl, h, by rw [RelL]⟩
  · have : ∃ cs, x = .agg cs := by
      cases x <;> first | exact ⟨_, rfl⟩ | (exfalso; apply hx; intro cs; simp)
    obtain ⟨cs, rfl⟩ := this
    rw [Rel] at h
    obtain ⟨vs, rfl, h⟩ := h
    exact h

theorem splice_length {α : Type} : ∀ (l : List α) (o : Nat) (new : List α), o + new.length ≤ l.length → (splice l o new).length = l.length
  | l, 0, new, h => by cases l <;> simp [splice] at h ⊢ <;> omega
  | [], o + 1, new, h => by simp at h
  | x :: l, o + 1, new, h => by
    rw [splice, List.length_cons, splice_length l o new (by simp at h; omega), List.length_cons]
theorem splice_nil {α : Type} : ∀ (l : List α) (o : Nat), splice l o [] = l
  | l, 0 => by cases l <;> simp [splice]
  | [], o + 1 => rfl
  | x :: l, o + 1 => by rw [splice, splice_nil l o]
theorem splice_cons {α : Type} : ∀ (l : List α) (o : Nat) (x : α) (new : List α), o + (new.length + 1) ≤ l.length → splice l o (x :: new) = splice (l.set o x) (o + 1) new
  | [], o, x, new, h => by exfalso; simp at h
  | y :: l, 0, x, new, h => by
    simp only [splice, List.set_cons_zero, List.cons_append, List.length_cons, List.drop_succ_cons]
    try rfl
  | y :: l, o + 1, x, new, h => by
    rw [splice, List.set_cons_succ, splice, splice_cons l o x new (by simp at h; omega)]
theorem fold_splice : ∀ (new : List Value) (j off : Nat) (cells : Array Value), off + j + new.length ≤ cells.size →
    ((new.zipIdx j).foldl (fun cs (p : Value × Nat) => cs.setIfInBounds (off + p.2) p.1) cells).toList = splice cells.toList (off + j) new
  | [], j, off, cells, h => by simp [splice_nil]
  | x :: new, j, off, cells, h => by
    rw [List.zipIdx_cons, List.foldl_cons, fold_splice new (j + 1) off _ (by simp at h ⊢; omega), splice_cons _ _ _ _ (by simp at h ⊢; omega)]
    simp only [Array.toList_setIfInBounds, Nat.add_assoc]
theorem relL_splice {E : En} : ∀ (o : Nat) (cs : List AV) (us : List Value) (new : List AV) (vs : List Value), RelL E cs us → RelL E new vs → RelL E (splice cs o new) (splice us o vs)
  | 0, cs, us, new, vs, h, k => by
    have hl := relL_length new vs k
    have e1 : splice cs 0 new = new ++ cs.drop new.length := by cases cs <;> rfl
    have e2 : splice us 0 vs = vs ++ us.drop vs.length := by cases us <;> rfl
    rw [e1, e2, hl]
    exact relL_append _ _ _ _ k (relL_drop _ _ _ h)
  | o + 1, [], us, new, vs, h, k => by rw [RelL] at h; subst h; rw [splice, splice, RelL]
  | o + 1, x :: cs, us, new, vs, h, k => by
    rw [RelL] at h
    obtain ⟨v, vs', rfl, h1, h2⟩ := h
    rw [splice, splice, RelL]
    exact ⟨v, _, rfl, h1, relL_splice o cs vs' new vs h2 k⟩
/-- Parts laid over cells, as the model does it. -/
theorem fill_sim {E : En} {lk : Nat → Option AK} (hk : KindsOf E lk) {pa : Nat → Option (Nat × Nat)} : ∀ (parts : List (Nat × Operand)) (ρ : Operand → AV) (ev : Operand → Value) (cs cs' : List AV) (cells : Array Value),
    (∀ x, Rel E (ρ x) (ev x)) → (∀ p ∈ parts, isV lk (ρ p.2) = true) → RelL E cs cells.toList → fillA pa cs (parts.map fun p => (p.1, ρ p.2)) = some cs' →
    ∃ cells', Instr.fill pa cells (parts.map fun p => (p.1, ev p.2)) = some cells' ∧ RelL E cs' cells'.toList
  | [], ρ, ev, cs, cs', cells, hρ, hv, hc, h => by
    simp only [List.map_nil, fillA, Option.some.injEq] at h
    subst h
    exact ⟨cells, rfl, hc⟩
  | (i, x) :: parts, ρ, ev, cs, cs', cells, hρ, hv, hc, h => by
    simp only [List.map_cons, fillA] at h
    split at h
    · cases h
    · rename_i off size hp
      split at h
      · rename_i hcond
        have hx := rel_cells hk (hv (i, x) List.mem_cons_self) (hρ x)
        have hl1 := relL_length _ _ hx
        have hl2 := relL_length _ _ hc
        have hsz : (ev x).cells.size = size := by rw [← Array.length_toList, hl1]; exact hcond.1
        have hsz2 : cells.size = cs.length := by rw [← Array.length_toList, hl2]
        have hf := fold_splice (ev x).cells.toList 0 off cells (by rw [Array.length_toList]; omega)
        have hfold : (ev x).cells.zipIdx.foldl (fun cs (p : Value × Nat) => cs.setIfInBounds (off + p.2) p.1) cells = ((ev x).cells.toList.zipIdx 0).foldl (fun cs (p : Value × Nat) => cs.setIfInBounds (off + p.2) p.1) cells := by
          rw [← Array.foldl_toList, Array.toList_zipIdx]
        obtain ⟨cells', h1, h2⟩ := fill_sim hk parts ρ ev (splice cs off (ρ x).cellsOf) cs' _ hρ (fun p hp => hv p (List.mem_cons_of_mem _ hp)) (by rw [hf]; exact relL_splice _ _ _ _ _ hc hx) h
        refine ⟨cells', ?_, h2⟩
        simp only [List.map_cons, Instr.fill, hp]
        rw [if_neg (by simp [hsz]; omega)]
        rw [← h1, ← hfold]
      · cases h
end Go.Proofs.Ytmkbnmjhkghdjaa
