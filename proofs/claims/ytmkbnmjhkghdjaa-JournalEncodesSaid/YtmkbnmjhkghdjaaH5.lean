/- The abstract machine: each operation that looks into no object, in the world. -/
import Derived.Test.YtmkbnmjhkghdjaaH4
set_option linter.unusedVariables false
set_option linter.unusedSimpArgs false
namespace Go.Proofs.Ytmkbnmjhkghdjaa
open Go.RowKit

section
variable {P : Program} {E : En} {lk : Nat → Option AK} {ρ : Operand → AV} {ev : Operand → Value} {w : World}
theorem run_mapM_sizes : ∀ (fields : List Field) (pl : List (Nat × Nat)), placesA (tiOf P) (fields.map fun f => (f.offset, f.type)) = some pl →
    (fields.mapM fun (f : Field) => Prod.mk f.offset <$> sizeOf f.type).run P w = .ok pl w
  | [], pl, h => by
    simp only [List.map_nil, placesA, Option.some.injEq] at h
    subst h
    simp [go_sem]
  | f :: fields, pl, h => by
    simp only [List.map_cons, placesA] at h
    split at h
    · rename_i fi r h1 h2
      simp only [Option.some.injEq] at h
      subst h
      have ih := run_mapM_sizes fields r h2
      simp only [List.mapM_cons]
      simp [go_sem, run_sizeOf h1, ih]
    · cases h
theorem build_sim (hk : KindsOf E lk) (hρ : ∀ x, Rel E (ρ x) (ev x)) {t : Nat} {i : TI} (ht : tiOf P t = some i) {fs : List (Nat × Nat)} (hf : i.k = .agg fs) {pl : List (Nat × Nat)} (hpl : placesA (tiOf P) fs = some pl)
    (parts : Array (Nat × Operand)) (hv : ∀ p ∈ parts.toList, isV lk (ρ p.2) = true) {cs : List AV} (h : fillA (fun j : Nat => pl[j]?) (i.zero.map .d) (parts.toList.map fun p => (p.1, ρ p.2)) = some cs) :
    ∃ u, (Instr.build t (parts.map fun p => (p.1, ev p.2))).run P w = .ok u w ∧ Rel E (.agg cs) u := by
  obtain ⟨inf, d, z, h1, h2, h3, h4, h5, h6, h7, h8, h9⟩ := ti_spec ht
  rw [hf] at h6
  cases d <;> simp only [atOf] at h6 <;> try (cases h6; done)
  rename_i fields
  simp only [AT.agg.injEq] at h6
  subst h6
  obtain ⟨cells', g1, g2⟩ := fill_sim hk parts.toList ρ ev _ cs z.cells hρ hv (by rw [h7]; exact relL_vals _ h8) h
  have hm := run_mapM_sizes (P := P) (w := w) fields.toList pl hpl
  have hpp : (fun j => pl.toArray[j]?) = (fun j : Nat => pl[j]?) := by funext j; simp
  refine ⟨.agg cells', ?_, by rw [Rel]; exact ⟨_, rfl, g2⟩⟩
  have hz : (zeroValue t).run P w = .ok z w := by simp [zeroValue, typeInfo, h1, h3, go_sem]
  simp only [Instr.build]
  simp [go_sem, hz, run_underlying h2, Array.mapM_eq_mapM_toList]
  rw [hm]
  show (match Instr.fill (fun j : Nat => pl[j]?) z.cells (List.map (fun p : Nat × Operand => (p.fst, ev p.snd)) parts.toList) with | some cells => (pure (Value.agg cells) : Sem Value) | _ => stuck _).run P w = _
  rw [g1]
  rfl
theorem build_arr_sim (hk : KindsOf E lk) (hρ : ∀ x, Rel E (ρ x) (ev x)) {t : Nat} {i : TI} (ht : tiOf P t = some i) {n e : Nat} (hf : i.k = .arr n e) {ei : TI} (hei : tiOf P e = some ei)
    (parts : Array (Nat × Operand)) (hv : ∀ p ∈ parts.toList, isV lk (ρ p.2) = true) {cs : List AV} (h : fillA (fun j => some (j * ei.size, ei.size)) (i.zero.map .d) (parts.toList.map fun p => (p.1, ρ p.2)) = some cs) :
    ∃ u, (Instr.build t (parts.map fun p => (p.1, ev p.2))).run P w = .ok u w ∧ Rel E (.agg cs) u := by
  obtain ⟨inf, d, z, h1, h2, h3, h4, h5, h6, h7, h8, h9⟩ := ti_spec ht
  rw [hf] at h6
  cases d <;> simp only [atOf] at h6 <;> try (cases h6; done)
  simp only [AT.arr.injEq] at h6
  obtain ⟨rfl, rfl⟩ := h6
  obtain ⟨cells', g1, g2⟩ := fill_sim hk parts.toList ρ ev _ cs z.cells hρ hv (by rw [h7]; exact relL_vals _ h8) h
  refine ⟨.agg cells', ?_, by rw [Rel]; exact ⟨_, rfl, g2⟩⟩
  have hz : (zeroValue t).run P w = .ok z w := by simp [zeroValue, typeInfo, h1, h3, go_sem]
  simp only [Instr.build, Sem.run_bind, hz, run_underlying h2, Result.andThen_ok, run_sizeOf hei, Array.toList_map, g1, Sem.run_pure]
theorem asAgg_run (vs : Array Value) : (asAgg (.agg vs)).run P w = .ok vs w := rfl
/-- A part of a value's cells. -/
theorem part_sim {t : Nat} {i : TI} (ht : tiOf P t = some i) {cs : List AV} {vs : Array Value} (hc : RelL E cs vs.toList) {off : Nat} {v : AV} (h : partA i cs off = some v) :
    ∃ u, (part t vs off).run P w = .ok u w ∧ Rel E v u := by
  unfold partA at h
  split at h
  · rename_i ha
    split at h
    · rename_i hl
      simp only [Option.some.injEq] at h
      subst h
      refine ⟨.agg (vs.extract off (off + i.size)), ?_, ?_⟩
      · simp [part, go_sem, run_isAgg ht, ha, run_sizeOf ht]
      · rw [Rel]
        refine ⟨_, rfl, ?_⟩
        rw [Array.toList_extract, List.extract_eq_take_drop]
        have := relL_take i.size _ _ (relL_drop off _ _ hc)
        simpa using this
    · cases h
  · rename_i ha
    obtain ⟨u, hu, hr⟩ := relL_get _ _ _ _ hc h
    refine ⟨u, ?_, hr⟩
    have hu' : vs[off]? = some u := by simpa using hu
    simp [part, go_sem, run_isAgg ht, ha, hu']
theorem field_sim {t j : Nat} {i fi : TI} (ht : tiOf P t = some i) {fs : List (Nat × Nat)} (hf : i.k = .agg fs) {o ft : Nat} (hj : fs[j]? = some (o, ft)) (hft : tiOf P ft = some fi) {cs : List AV} {vs : Array Value} (hc : RelL E cs vs.toList) {v : AV} (h : partA fi cs o = some v) :
    ∃ u, (Instr.field t (.agg vs) j).run P w = .ok u w ∧ Rel E v u := by
  obtain ⟨d, hd, hk⟩ := run_under ht
  rw [hf] at hk
  cases d <;> simp only [atOf] at hk <;> try (cases hk; done)
  rename_i fields
  simp only [AT.agg.injEq] at hk
  subst hk
  simp only [List.getElem?_map, Option.map_eq_some_iff, Array.getElem?_toList] at hj
  obtain ⟨f, hf1, hf2⟩ := hj
  simp only [Prod.mk.injEq] at hf2
  obtain ⟨rfl, rfl⟩ := hf2
  obtain ⟨u, hu, hr⟩ := part_sim (w := w) hft hc h
  exact ⟨u, by simp [Instr.field, go_sem, run_underlying hd, hf1, asAgg]; simpa [part, go_sem] using hu, hr⟩
theorem fieldPlace_run {f : Field} {fi : TI} (hft : tiOf P f.type = some fi) (hn : fi.size ≠ 0) (a : Addr) : (fieldPlace a f).run P w = .ok (a.add f.offset) w := by
  simp [fieldPlace, go_sem, run_sizeOf hft, hn]
theorem fieldAt_run {t j : Nat} {i fi : TI} (ht : tiOf P t = some i) {fs : List (Nat × Nat)} (hf : i.k = .agg fs) {o ft : Nat} (hj : fs[j]? = some (o, ft)) (hft : tiOf P ft = some fi) (hn : fi.size ≠ 0) (b off : Nat) :
    (Instr.fieldAt t (.pointer (some ⟨b, off, none⟩)) j).run P w = .ok (.pointer (some ⟨b, off + o, none⟩)) w := by
  obtain ⟨d, hd, hk⟩ := run_under ht
  rw [hf] at hk
  cases d <;> simp only [atOf] at hk <;> try (cases hk; done)
  rename_i fields
  simp only [AT.agg.injEq] at hk
  subst hk
  simp only [List.getElem?_map, Option.map_eq_some_iff, Array.getElem?_toList] at hj
  obtain ⟨f, hf1, hf2⟩ := hj
  simp only [Prod.mk.injEq] at hf2
  obtain ⟨rfl, rfl⟩ := hf2
  have ha : (⟨b, off, none⟩ : Addr).add f.offset = ⟨b, off + f.offset, none⟩ := by unfold Addr.add; split <;> simp_all
  simp [Instr.fieldAt, go_sem, run_underlying hd, hf1, Instr.sureAddr, run_sizeOf hft, hn, ha]
theorem idx_spec {x : AV} {n j : Nat} (h : idx? x n = some j) : ∃ k, x = .d (.val (.int k j)) ∧ j < n := by
  unfold idx? at h
  split at h
  · rename_i k i
    split at h
    · rename_i hc
      simp only [Option.some.injEq] at h
      subst h
      obtain ⟨m, rfl⟩ := Int.eq_ofNat_of_zero_le hc.1
      exact ⟨k, by simp, by simp; omega⟩
    · cases h
  · cases h
theorem idxLe_spec {x : AV} {n j : Nat} (h : idxLe? x n = some j) : ∃ k, x = .d (.val (.int k j)) ∧ j ≤ n := by
  unfold idxLe? at h
  split at h
  · rename_i k i
    split at h
    · rename_i hc
      simp only [Option.some.injEq] at h
      subst h
      obtain ⟨m, rfl⟩ := Int.eq_ofNat_of_zero_le hc.1
      exact ⟨k, by simp, by simp; omega⟩
    · cases h
  · cases h
theorem rel_int {k : IntKind} {n : Int} {u : Value} (h : Rel E (.d (.val (.int k n))) u) : u = .int k n := by
  rw [Rel, RelD] at h
  exact h.1
theorem rel_val {v u : Value} (h : Rel E (.d (.val v)) u) : u = v := by
  rw [Rel, RelD] at h
  exact h.1
theorem addr_add (b off n : Nat) : (⟨b, off, none⟩ : Addr).add n = ⟨b, off + n, none⟩ := by unfold Addr.add; split <;> simp_all
theorem indexAt_arr {t n e : Nat} {i ei : TI} (ht : tiOf P t = some i) (hk : i.k = .arr n e) (hei : tiOf P e = some ei) (b off j : Nat) (k : IntKind) (hj : j < n) :
    (Instr.indexAt t (.pointer (some ⟨b, off, none⟩)) (.int k j)).run P w = .ok (.pointer (some ⟨b, off + j * ei.size, none⟩)) w := by
  obtain ⟨d, hd, hk'⟩ := run_under ht
  rw [hk] at hk'
  cases d <;> simp only [atOf] at hk' <;> try (cases hk'; done)
  simp only [AT.arr.injEq] at hk'
  obtain ⟨rfl, rfl⟩ := hk'
  have h1 : (j : Int) < n := by omega
  simp [Instr.indexAt, go_sem, run_underlying hd, asIntOf, Instr.sureAddr, h1, run_sizeOf hei, addr_add, Nat.not_le.2 hj]
theorem indexAt_sl {t e : Nat} {i ei : TI} (ht : tiOf P t = some i) (hk : i.k = .slice e) (hei : tiOf P e = some ei) (b off n c j : Nat) (k : IntKind) (hj : j < n) :
    (Instr.indexAt t (.slice (some ⟨b, off, none⟩) n c) (.int k j)).run P w = .ok (.pointer (some ⟨b, off + j * ei.size, none⟩)) w := by
  obtain ⟨d, hd, hk'⟩ := run_under ht
  rw [hk] at hk'
  cases d <;> simp only [atOf] at hk' <;> try (cases hk'; done)
  simp only [AT.slice.injEq] at hk'
  subst hk'
  have h1 : (j : Int) < n := by omega
  simp [Instr.indexAt, go_sem, run_underlying hd, asIntOf, h1, run_sizeOf hei, addr_add, Nat.not_le.2 hj]
end
end Go.Proofs.Ytmkbnmjhkghdjaa
