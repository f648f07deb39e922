/- The abstract machine: arguments of a law, opened: what can be read is data of its type's shape. -/
import Derived.Test.YtmkbnmjhkghdjaaH34
import Derived.ProofKit
import Derived.Deep.Slices
import Derived.Deep.Fields
import Derived.ChangeSame
set_option linter.unusedVariables false
set_option linter.unusedSimpArgs false
namespace Go.Proofs.Ytmkbnmjhkghdjaa
open Go.ChangeShapes Go.WideShapes Go.Deep Go.RowKit

/-- Fields that lie one behind the other. -/
def contB (T : Ty) : Nat → List (Nat × Nat) → Nat → Bool
  | o, [], tot => o == tot
  | o, (fo, ft) :: l, tot => fo == o && match T ft with
    | some fi => contB T (o + fi.size) l tot
    | none => false
/-- A type of data. -/
def dataB (T : Ty) : Nat → Nat → Bool
  | 0, _ => false
  | m + 1, t => match T t with
    | none => false
    | some i => match i.k with
      | .int _ => i.size == 1
      | .bool => i.size == 1
      | .str => i.size == 1
      | .slice e => match T e with
        | some ei => i.size == 1 && (Nat.blt 0 ei.size && dataB T m e)
        | none => false
      | .agg fs => contB T 0 fs i.size && fs.all fun f => dataB T m f.2
      | _ => false
/-- Data of a type's shape. -/
def Sh (T : Ty) : Nat → Nat → List DV → Prop
  | 0, _, _ => False
  | m + 1, t, ds => match T t with
    | none => False
    | some i => ds.length = i.size ∧ match i.k with
      | .int k => ∃ x, ds = [.val (.int k x)] ∧ (Lit.int k x).wf = true
      | .bool => ∃ b, ds = [.val (.bool b)]
      | .str => ∃ s : ByteArray, ds = [.val (.string s)] ∧ s.size ≤ maxLen
      | .slice e => ∃ rows : List (List DV), ds = [.dl rows.flatten rows.length none] ∧ rows.length ≤ maxLen ∧ ∀ r ∈ rows, Sh T m e r
      | .agg fs => ∀ f ∈ fs, ∃ fi, T f.2 = some fi ∧ Sh T m f.2 ((ds.drop f.1).take fi.size)
      | _ => False
theorem Sh.len {T : Ty} {m t : Nat} {ds : List DV} {i : TI} (h : Sh T m t ds) (hi : T t = some i) : ds.length = i.size := by
  cases m with
  | zero => exact h.elim
  | succ m => rw [Sh, hi] at h; exact h.1
theorem contB_le {T : Ty} : ∀ {fs : List (Nat × Nat)} {o tot : Nat}, contB T o fs tot = true → (∀ f ∈ fs, o ≤ f.1) ∧ o ≤ tot
  | [], o, tot, h => ⟨fun f hf => (by cases hf), (by rw [contB] at h; have := eq_of_beq h; omega)⟩
  | (fo, ft) :: l, o, tot, h => by
    rw [contB, Bool.and_eq_true] at h
    obtain ⟨h1, h2⟩ := h
    have h1 := eq_of_beq h1
    split at h2
    · obtain ⟨k1, k2⟩ := contB_le h2
      refine ⟨fun f hf => ?_, by omega⟩
      rcases List.mem_cons.1 hf with rfl | hf
      · exact Nat.le_of_eq h1.symm
      · have := k1 f hf; omega
    · cases h2
section
variable {h : Array Obj} {X : Nat → Prop}
theorem relDs_app : ∀ {xs ys : List DV} {us vs : List Value}, RelDs h X xs us → RelDs h X ys vs → RelDs h X (xs ++ ys) (us ++ vs) := fun a b => relDs_append a b
theorem struct_asm {T : Ty} {m : Nat} {cs : List Value} : ∀ {fs : List (Nat × Nat)} {o : Nat}, contB T o fs cs.length = true →
    (∀ f ∈ fs, ∃ ds fi, T f.2 = some fi ∧ RelDs h X ds ((cs.drop f.1).take fi.size) ∧ Sh T m f.2 ds) →
    ∃ D, RelDs h X D (cs.drop o) ∧ ∀ f ∈ fs, ∃ fi, T f.2 = some fi ∧ Sh T m f.2 ((D.drop (f.1 - o)).take fi.size)
  | [], o, hc, hf => by
    rw [contB] at hc
    have := eq_of_beq hc
    refine ⟨[], ?_, fun f hf => by cases hf⟩
    rw [List.drop_eq_nil_of_le (by omega)]
    rw [RelDs]
  | (fo, ft) :: l, o, hc, hf => by
    rw [contB, Bool.and_eq_true] at hc
    obtain ⟨h1, h2⟩ := hc
    have h1 := eq_of_beq h1
    subst h1
    obtain ⟨ds, fi, k1, k2, k3⟩ := hf (fo, ft) List.mem_cons_self
    simp only at k1 k2 k3
    rw [k1] at h2
    simp only at h2
    have hle := (contB_le h2)
    obtain ⟨D, g1, g2⟩ := struct_asm h2 (fun f hfl => hf f (List.mem_cons_of_mem _ hfl))
    have hlen := Sh.len k3 k1
    refine ⟨ds ++ D, ?_, fun f hfl => ?_⟩
    · have e : cs.drop fo = (cs.drop fo).take fi.size ++ cs.drop (fo + fi.size) := by
        rw [← List.drop_drop, List.take_append_drop]
      rw [e]
      exact relDs_append k2 g1
    · rcases List.mem_cons.1 hfl with rfl | hfl
      · refine ⟨fi, k1, ?_⟩
        rw [Nat.sub_self, List.drop_zero, List.take_append_of_le_length (by omega), List.take_of_length_le (by omega)]
        exact k3
      · obtain ⟨fi2, q1, q2⟩ := g2 f hfl
        have := hle.1 f hfl
        refine ⟨fi2, q1, ?_⟩
        rw [List.drop_append, List.drop_eq_nil_of_le (by omega), List.nil_append, show f.1 - fo - ds.length = f.1 - (fo + fi.size) from by omega]
        exact q2
theorem relC_app {b : Nat} : ∀ {xs ys : List DV} {o : Nat}, RelC h X xs b o → RelC h X ys b (o + xs.length) → RelC h X (xs ++ ys) b o
  | [], ys, o, _, h2 => h2
  | x :: xs, ys, o, h1, h2 => by
    rw [RelC] at h1
    rw [List.cons_append, RelC]
    refine ⟨h1.1, relC_app h1.2 ?_⟩
    rw [show o + 1 + xs.length = o + (x :: xs).length from by rw [List.length_cons]; omega]
    exact h2
theorem relC_flat {b C : Nat} : ∀ {rows : List (List DV)} {o : Nat}, (∀ i r, rows[i]? = some r → r.length = C ∧ RelC h X r b (o + i * C)) → RelC h X rows.flatten b o
  | [], o, _ => by rw [List.flatten_nil, RelC]; trivial
  | r :: rows, o, hr => by
    obtain ⟨h1, h2⟩ := hr 0 r rfl
    rw [List.flatten_cons]
    refine relC_app (by simpa using h2) (relC_flat (C := C) fun i r' hi => ?_)
    obtain ⟨k1, k2⟩ := hr (i + 1) r' (by simpa using hi)
    refine ⟨k1, ?_⟩
    rw [h1, show o + C + i * C = o + (i + 1) * C from by rw [Nat.succ_mul]; omega]
    exact k2
theorem relC_ds {b : Nat} : ∀ {xs : List DV} {vs : List Value} {o : Nat}, RelDs h X xs vs → (∀ j u, vs[j]? = some u → cellH h b (o + j) = some u) → RelC h X xs b o
  | [], vs, o, _, _ => by rw [RelC]; trivial
  | x :: xs, vs, o, hr, hc => by
    rw [RelDs] at hr
    obtain ⟨u, vs', rfl, h1, h2⟩ := hr
    rw [RelC]
    exact ⟨⟨u, by simpa using hc 0 u rfl, h1⟩, relC_ds h2 fun j u' hj => by have := hc (j + 1) u' (by simpa using hj); rw [← this]; congr 1; omega⟩
end
section
variable {H : Type} {ec : TypeId × Value → H} {P : Program} {w : World} {base : Nat} {spare : Nat → Bool} {held : Bool}
theorem tiOf_size {t : Nat} {i : TI} (h : tiOf P t = some i) : P.cellsOf t = i.size := by
  unfold tiOf at h
  unfold Program.cellsOf
  split at h
  · rename_i a d h1 h2
    rw [h1]
    split at h
    · split at h
      · cases h; rfl
      · cases h
    · cases h
  · cases h
theorem trod_sh : ∀ (m : Nat) {t fuel : Nat} {cs : List Value} {x : DataW H × List MemPlace}, dataB (tiOf P) m t = true → DataW.trod ec P w base spare held fuel t cs = some x → ∃ ds, RelDs w.heap (fun _ => False) ds cs ∧ Sh (tiOf P) m t ds
  | 0, t, fuel, cs, x, hd, _ => by cases hd
  | m + 1, t, fuel, cs, x, hd, h => by
    rw [dataB] at hd
    split at hd
    · cases hd
    · rename_i i hi
      obtain ⟨d, h1, h2⟩ := run_under hi
      have hsz := tiOf_size hi
      split at hd
      · rename_i k hk
        rw [hk] at h2
        cases d <;> simp only [atOf] at h2 <;> try (cases h2; done)
        cases h2
        obtain ⟨n, rfl, _, hwf⟩ := DataW.trod_int h1 h
        refine ⟨[.val (.int k n)], ?_, ?_⟩
        · rw [RelDs]; refine ⟨_, _, rfl, ?_, by rw [RelDs]⟩; rw [RelD]; exact ⟨rfl, rfl⟩
        · rw [Sh, hi]
          refine ⟨by rw [eq_of_beq hd]; rfl, ?_⟩
          rw [hk]; exact ⟨n, rfl, hwf⟩
      · rename_i hk
        rw [hk] at h2
        cases d <;> simp only [atOf] at h2 <;> try (cases h2; done)
        obtain ⟨b, rfl, _⟩ := DataW.trod_bool h1 h
        refine ⟨[.val (.bool b)], ?_, ?_⟩
        · rw [RelDs]; refine ⟨_, _, rfl, ?_, by rw [RelDs]⟩; rw [RelD]; exact ⟨rfl, rfl⟩
        · rw [Sh, hi]
          refine ⟨by rw [eq_of_beq hd]; rfl, ?_⟩
          rw [hk]; exact ⟨b, rfl⟩
      · rename_i hk
        rw [hk] at h2
        cases d <;> simp only [atOf] at h2 <;> try (cases h2; done)
        obtain ⟨b, rfl, _, hl⟩ := DataW.trod_string h1 h
        refine ⟨[.val (.string b)], ?_, ?_⟩
        · rw [RelDs]; refine ⟨_, _, rfl, ?_, by rw [RelDs]⟩; rw [RelD]; exact ⟨rfl, rfl⟩
        · rw [Sh, hi]
          refine ⟨by rw [eq_of_beq hd]; rfl, ?_⟩
          rw [hk]; exact ⟨b, rfl, hl⟩
      · rename_i e hk
        rw [hk] at h2
        cases d <;> simp only [atOf] at h2 <;> try (cases h2; done)
        cases h2
        split at hd
        · rename_i ei hei
          simp only [Bool.and_eq_true] at hd
          obtain ⟨hd1, hd2, hd3⟩ := hd
          have hpos : 0 < ei.size := Nat.le_of_ble_eq_true hd2
          have hC := tiOf_size hei
          have fin : ∀ (v : Value) (rows : List (List DV)), RelD w.heap (fun _ => False) (.dl rows.flatten rows.length none) v → rows.length ≤ maxLen → (∀ r ∈ rows, Sh (tiOf P) m e r) → ∃ ds, RelDs w.heap (fun _ => False) ds [v] ∧ Sh (tiOf P) (m + 1) t ds := fun v rows g1 g2 g3 => by
            refine ⟨[.dl rows.flatten rows.length none], ?_, ?_⟩
            · rw [RelDs]; exact ⟨_, _, rfl, g1, by rw [RelDs]⟩
            · rw [Sh, hi]
              refine ⟨by rw [eq_of_beq hd1]; rfl, ?_⟩
              rw [hk]; exact ⟨rows, rfl, g2, g3⟩
          rcases open_slice h1 h with ⟨rfl, _⟩ | ⟨a, len, cap, k, nf, D, Pl, rfl, _, hl, hm, hmm, _, hel⟩
          · refine fin _ [] ?_ (Nat.zero_le _) (fun r hr => by cases hr)
            rw [RelD]
            exact ⟨none, 0, rfl, Nat.le_refl _, Nat.zero_le _, fun k hk => (by cases hk), .inl rfl⟩
          · have hlk : len ≤ k := by rw [hmm]; split <;> omega
            have hex : ∀ i, ∃ r : List DV, i < len → r.length = ei.size ∧ Sh (tiOf P) m e r ∧ ∃ cs', w.cells? base (a.add (i * ei.size)) ei.size = some cs' ∧ RelDs w.heap (fun _ => False) r cs' := fun i => by
              by_cases hil : i < len
              · obtain ⟨cs', q1, q2⟩ := hel i (by omega)
                obtain ⟨r, q3, q4⟩ := trod_sh m hd3 q2
                rw [hC] at q1
                exact ⟨r, fun _ => ⟨Sh.len q4 hei, q4, cs', q1, q3⟩⟩
              · exact ⟨[], fun hh => (hil hh).elim⟩
            obtain ⟨f, hf⟩ := Classical.axiomOfChoice hex
            have hrl : ((List.range len).map f).length = len := by rw [List.length_map, List.length_range]
            refine fin _ ((List.range len).map f) ?_ (by rw [hrl]; omega) (fun r hr => ?_)
            · rw [RelD, hrl]
              refine ⟨some a, cap, rfl, hl, hm, fun k hk => (by cases hk), ?_⟩
              rcases Nat.eq_zero_or_pos len with h0 | h0
              · left; rw [h0]; rfl
              · right
                obtain ⟨_, _, cs0, q1, _⟩ := hf 0 h0
                obtain ⟨_, hcl, hat⟩ := World.cells?_some q1
                have h3 := hat 0 hpos
                have hs : a.spot = none := by
                  cases hsp : a.spot with
                  | none => rfl
                  | some s =>
                    have h4 : cs0[0]? = some (cs0[0]'(by omega)) := List.getElem?_eq_getElem (by omega)
                    rw [h4] at h3
                    simp only [Nat.zero_mul] at h3
                    unfold Addr.add at h3
                    simp only [if_true] at h3
                    unfold World.cell? at h3; rw [hsp] at h3; split at h3 <;> simp at h3
                obtain ⟨b, o, sp⟩ := a
                simp only at hs
                subst hs
                refine ⟨b, o, rfl, fun hx => hx, relC_flat (C := ei.size) fun i r hir => ?_⟩
                rw [List.getElem?_map] at hir
                cases hri : (List.range len)[i]? with
                | none => rw [hri] at hir; cases hir
                | some i' =>
                  rw [hri] at hir
                  simp only [Option.map_some, Option.some.injEq] at hir
                  subst hir
                  obtain ⟨hlt, rfl⟩ : i < len ∧ i = i' := by
                    have hh : i < len := by
                      rcases Nat.lt_or_ge i len with hh | hh
                      · exact hh
                      · rw [List.getElem?_eq_none (by rw [List.length_range]; exact hh)] at hri; cases hri
                    rw [List.getElem?_range hh] at hri
                    cases hri
                    exact ⟨hh, rfl⟩
                  obtain ⟨p1, p2, cs', p3, p4⟩ := hf i hlt
                  obtain ⟨_, pcl, pat⟩ := World.cells?_some p3
                  refine ⟨p1, relC_ds p4 fun j u hj => ?_⟩
                  have hjl : j < ei.size := by rw [← pcl]; exact (List.getElem?_eq_some_iff.1 hj).1
                  have := pat j hjl
                  rw [hj, Addr.add_lit, Addr.add_lit, cell_eq] at this
                  exact this
            · obtain ⟨i, hi2, rfl⟩ := List.mem_map.1 hr
              exact (hf i (List.mem_range.1 hi2)).2.1
        · cases hd
      · rename_i fs hk
        rw [hk] at h2
        cases d <;> simp only [atOf] at h2 <;> try (cases h2; done)
        rename_i flds
        simp only [AT.agg.injEq] at h2
        simp only [Bool.and_eq_true] at hd
        obtain ⟨hd1, hd2⟩ := hd
        obtain ⟨xs, n, _, _, hlen, hxl, hf⟩ := DataW.trod_struct h1 h
        rw [hsz] at hlen
        have hall : ∀ f ∈ fs, ∃ ds fi, tiOf P f.2 = some fi ∧ RelDs w.heap (fun _ => False) ds ((cs.drop f.1).take fi.size) ∧ Sh (tiOf P) m f.2 ds := fun f hfm => by
          rw [h2] at hfm
          obtain ⟨fld, hfl, rfl⟩ := List.mem_map.1 hfm
          obtain ⟨i', hi', e'⟩ := List.getElem_of_mem hfl
          have hgi : flds[i']? = some fld := by rw [← Array.getElem?_toList, List.getElem?_eq_getElem hi', e']
          have q := hf i' fld hgi
          have hxi : i' < xs.length := by rw [hxl]; simpa using hi'
          rw [List.getElem?_eq_getElem hxi] at q
          have hdf := List.all_eq_true.1 hd2 _ (by rw [h2]; exact hfm)
          obtain ⟨ds, q1, q2⟩ := trod_sh m hdf q
          cases m with
          | zero => exact q2.elim
          | succ m =>
            rw [Sh] at q2
            split at q2
            · exact q2.elim
            · rename_i fi hfi
              refine ⟨ds, fi, hfi, ?_, ?_⟩
              · rw [tiOf_size hfi] at q1; exact q1
              · rw [Sh, hfi]; exact q2
        obtain ⟨D, g1, g2⟩ := struct_asm (by rw [hlen]; exact hd1) hall
        rw [List.drop_zero] at g1
        refine ⟨D, g1, ?_⟩
        rw [Sh, hi]
        refine ⟨by rw [← relDs_length _ _ g1, hlen], ?_⟩
        rw [hk]
        intro f hfm
        obtain ⟨fi, q1, q2⟩ := g2 f hfm
        exact ⟨fi, q1, by rw [Nat.sub_zero] at q2; exact q2⟩
      · cases hd
end
/-- The state in which a law is called. -/
def E0 (W : World) : En := { m := fun _ => none, hp := fun _ => none, X := fun _ => False, h := W.heap }
section
variable {H : Type} {ec : TypeId × Value → H} {P : Program} {W : World} {base : Nat} {spare : Nat → Bool} {held : Bool} {T : Ty} {m t : Nat} {v : Value} {d : DataW H} {ps : List MemPlace}
theorem relL_dv {E : En} : ∀ {ds : List DV} {vs : List Value}, RelDs E.h E.X ds vs → RelL E (ds.map .d) vs
  | [], vs, h => by rw [RelDs] at h; rw [List.map_nil, RelL]; exact h
  | x :: xs, vs, h => by
    rw [RelDs] at h
    obtain ⟨v, vs', rfl, h1, h2⟩ := h
    rw [List.map_cons, RelL]
    exact ⟨v, vs', rfl, by rw [Rel]; exact h1, relL_dv h2⟩
/-- An argument of one cell. -/
theorem open_one (hT : tiOf P = T) (hd : dataB T m t = true) (ht : (match T t with | some i => !i.k.isAgg | none => false) = true) {b0 : Nat} (hv : v.okWide P W .any b0 t) (h : DataW.Trod ec P W base spare held t v d ps) : ∃ x, Sh T m t [x] ∧ Rel (E0 W) (.d x) v := by
  subst hT
  split at ht
  · rename_i i hi
    obtain ⟨fuel, h⟩ := h
    obtain ⟨ds, h1, h2⟩ := trod_sh m hd h
    obtain ⟨dd, g1, g2⟩ := run_under hi
    have hc : v.cells.toList = [v] := by
      unfold Value.okWide at hv
      rw [g1] at hv
      rw [g2] at ht
      have hone : v.oneCell' = true := by
        cases dd <;> simp only [atOf, AT.isAgg] at ht <;> first | (cases ht; done) | skip
        all_goals (cases v <;> first | rfl | (simp [Cell.okWide, Cell.ok, g1] at hv))
      cases v <;> first | rfl | (cases hone; done)
    rw [hc] at h1
    cases ds with
    | nil => rw [RelDs] at h1; cases h1
    | cons x xs =>
      rw [RelDs] at h1
      obtain ⟨u, vs', e, q1, q2⟩ := h1
      cases e
      cases xs with
      | nil => exact ⟨x, h2, by rw [Rel]; exact q1⟩
      | cons y ys => rw [RelDs] at q2; obtain ⟨_, _, e, _⟩ := q2; cases e
  · cases ht
/-- A struct. -/
theorem open_agg (hT : tiOf P = T) (hd : dataB T m t = true) (ht : (match T t with | some i => (match i.k with | .agg _ => true | _ => false) | none => false) = true) {b0 : Nat} (hv : v.okWide P W .any b0 t) (h : DataW.Trod ec P W base spare held t v d ps) : ∃ ds, Sh T m t ds ∧ Rel (E0 W) (.agg (ds.map .d)) v := by
  subst hT
  split at ht
  · rename_i i hi
    obtain ⟨fuel, h⟩ := h
    obtain ⟨ds, h1, h2⟩ := trod_sh m hd h
    obtain ⟨dd, g1, g2⟩ := run_under hi
    unfold Value.okWide at hv
    rw [g1] at hv
    rw [g2] at ht
    cases dd <;> simp only [atOf] at ht <;> try (cases ht; done)
    obtain ⟨cs, rfl, _⟩ := hv
    refine ⟨ds, h2, ?_⟩
    rw [Rel]
    exact ⟨cs, rfl, relL_dv h1⟩
  · cases ht
end
section
variable {T : Ty} {m t : Nat} {i : TI}
theorem Sh.int {k : IntKind} {x : DV} (h : Sh T m t [x]) (hi : T t = some i) (hk : i.k = .int k) : ∃ n, x = .val (.int k n) ∧ (Lit.int k n).wf = true := by
  cases m with
  | zero => exact h.elim
  | succ m =>
    rw [Sh, hi] at h
    obtain ⟨_, h⟩ := h
    rw [hk] at h
    obtain ⟨n, e, q⟩ := h
    exact ⟨n, by injection e, q⟩
theorem Sh.bool {x : DV} (h : Sh T m t [x]) (hi : T t = some i) (hk : i.k = .bool) : ∃ b, x = .val (.bool b) := by
  cases m with
  | zero => exact h.elim
  | succ m =>
    rw [Sh, hi] at h
    obtain ⟨_, h⟩ := h
    rw [hk] at h
    obtain ⟨n, e⟩ := h
    exact ⟨n, by injection e⟩
theorem Sh.str {x : DV} (h : Sh T m t [x]) (hi : T t = some i) (hk : i.k = .str) : ∃ s : ByteArray, x = .val (.string s) ∧ s.size ≤ maxLen := by
  cases m with
  | zero => exact h.elim
  | succ m =>
    rw [Sh, hi] at h
    obtain ⟨_, h⟩ := h
    rw [hk] at h
    obtain ⟨n, e, q⟩ := h
    exact ⟨n, by injection e, q⟩
theorem Sh.list {α : Type} {e : Nat} {x : DV} (enc : α → List DV) (wf : α → Prop) (h : Sh T (m + 1) t [x]) (hi : T t = some i) (hk : i.k = .slice e) (hel : ∀ r, Sh T m e r → ∃ a, r = enc a ∧ wf a) : ∃ l : List α, x = .dl (l.flatMap enc) l.length none ∧ l.length ≤ maxLen ∧ ∀ a ∈ l, wf a := by
  rw [Sh, hi] at h
  obtain ⟨_, h⟩ := h
  rw [hk] at h
  obtain ⟨rows, e1, q1, q2⟩ := h
  have key : ∀ rows : List (List DV), (∀ r ∈ rows, Sh T m e r) → ∃ l : List α, rows.flatten = l.flatMap enc ∧ rows.length = l.length ∧ ∀ a ∈ l, wf a := by
    intro rows
    induction rows with
    | nil => intro _; exact ⟨[], rfl, rfl, fun a ha => by cases ha⟩
    | cons r rows ih =>
      intro hr
      obtain ⟨l, k1, k2, k3⟩ := ih fun r' h' => hr r' (List.mem_cons_of_mem _ h')
      obtain ⟨a, rfl, ha⟩ := hel r (hr r List.mem_cons_self)
      refine ⟨a :: l, by rw [List.flatten_cons, List.flatMap_cons, k1], by rw [List.length_cons, List.length_cons, k2], fun b hb => ?_⟩
      rcases List.mem_cons.1 hb with rfl | hb
      · exact ha
      · exact k3 b hb
  obtain ⟨l, k1, k2, k3⟩ := key rows q2
  refine ⟨l, ?_, by omega, k3⟩
  injection e1 with e1
  rw [e1, k1, k2]
theorem Sh.fld {fs : List (Nat × Nat)} {ds : List DV} (h : Sh T (m + 1) t ds) (hi : T t = some i) (hk : i.k = .agg fs) : ds.length = i.size ∧ ∀ f ∈ fs, ∃ fi, T f.2 = some fi ∧ Sh T m f.2 ((ds.drop f.1).take fi.size) := by
  rw [Sh, hi] at h
  obtain ⟨h1, h⟩ := h
  rw [hk] at h
  exact ⟨h1, h⟩
/-- A field, its type known. -/
theorem Sh.at {fs : List (Nat × Nat)} {ds : List DV} {o ft : Nat} {fi : TI} (h : ∀ f ∈ fs, ∃ fi, T f.2 = some fi ∧ Sh T m f.2 ((ds.drop f.1).take fi.size)) (hm : (fs.any fun f => f == (o, ft)) = true) (hf : T ft = some fi) : Sh T m ft ((ds.drop o).take fi.size) := by
  obtain ⟨f, h1, h2⟩ := List.any_eq_true.1 hm
  have := eq_of_beq h2
  subst this
  obtain ⟨fi', q1, q2⟩ := h _ h1
  rw [hf] at q1
  cases q1
  exact q2
end
theorem bytesD_flat (l : List UInt8) : l.flatMap (fun b => [DV.val (.int .u8 (b.toNat : Nat))]) = bytesD l := by
  unfold bytesD
  induction l with
  | nil => rfl
  | cons b l ih => rw [List.flatMap_cons, List.map_cons, ih]; rfl
theorem u8_of {n : Int} (h : (Lit.int .u8 n).wf = true) : ∃ b : UInt8, ((b.toNat : Nat) : Int) = n := by
  simp [Lit.wf, IntKind.min, IntKind.max, IntKind.signed, IntKind.bits] at h
  refine ⟨UInt8.ofNat n.toNat, ?_⟩
  rw [UInt8.toNat_ofNat']
  omega
theorem Sh.bytes {T : Ty} {m t e : Nat} {i ei : TI} {x : DV} (h : Sh T (m + 2) t [x]) (hi : T t = some i) (hk : i.k = .slice e) (hei : T e = some ei) (hek : ei.k = .int .u8) (hs : ei.size = 1) : ∃ l : List UInt8, x = .dl (bytesD l) l.length none ∧ l.length ≤ maxLen := by
  obtain ⟨l, h1, h2, _⟩ := Sh.list (fun b : UInt8 => [DV.val (.int .u8 (b.toNat : Nat))]) (fun _ => True) h hi hk (fun r hr => by
    have hl := Sh.len hr hei
    rw [hs] at hl
    match r, hl with
    | [y], _ =>
      obtain ⟨n, rfl, hn⟩ := Sh.int hr hei hek
      obtain ⟨b, hb⟩ := u8_of hn
      exact ⟨b, by rw [hb], trivial⟩)
  exact ⟨l, by rw [h1, bytesD_flat], h2⟩
theorem wf_i64 {n : Int} (h : (Lit.int .i64 n).wf = true) : -9223372036854775808 ≤ n ∧ n ≤ 9223372036854775807 := by
  simp [Lit.wf, IntKind.min, IntKind.max, IntKind.signed, IntKind.bits] at h; omega
theorem wf_u8 {n : Int} (h : (Lit.int .u8 n).wf = true) : 0 ≤ n ∧ n ≤ 255 := by
  simp [Lit.wf, IntKind.min, IntKind.max, IntKind.signed, IntKind.bits] at h; omega
theorem wf_u16 {n : Int} (h : (Lit.int .u16 n).wf = true) : 0 ≤ n ∧ n ≤ 65535 := by
  simp [Lit.wf, IntKind.min, IntKind.max, IntKind.signed, IntKind.bits] at h; omega
theorem wf_u32 {n : Int} (h : (Lit.int .u32 n).wf = true) : 0 ≤ n ∧ n ≤ 4294967295 := by
  simp [Lit.wf, IntKind.min, IntKind.max, IntKind.signed, IntKind.bits] at h; omega
theorem relL_nil {E : En} : RelL E [] [] := by rw [RelL]
theorem relL_cons {E : En} {x : AV} {xs : List AV} {v : Value} {vs : List Value} (h : Rel E x v) (k : RelL E xs vs) : RelL E (x :: xs) (v :: vs) := by rw [RelL]; exact ⟨v, vs, rfl, h, k⟩
end Go.Proofs.Ytmkbnmjhkghdjaa
