import Derived.Test.YtkhdpjlpahammaaS21p
import Derived.SizedLaws
set_option linter.unusedVariables false
set_option linter.unusedSimpArgs false
namespace Go.Proofs.Ytkhdpjlpahammaa
open Go.RowKit
open Go.Deep (open_slice)
theorem weightsAll_mem {H : Type} {P : Program} {e : TypeId} : ∀ {l : List (DataW H)} {d : DataW H}, d ∈ l → ∀ x ∈ d.weights P e, x ∈ DataW.weightsAll P e l
  | [], d, h, x, hx => by cases h
  | y :: l, d, h, x, hx => by
    simp only [DataW.weightsAll]
    rcases List.mem_cons.1 h with rfl | h
    · exact List.mem_append_left _ hx
    · exact List.mem_append_right _ (weightsAll_mem h x hx)
theorem reach_rows {H : Type} {ec : TypeId × Value → H} {P : Program} {W : World} {base : Nat} {spare : Nat → Bool} {held : Bool} {t e ek sz k : Nat} {v : Value} {d : DataW H} {ps : List MemPlace} {fs : Array Field} {fk : Field}
    (h1 : P.underlying t = some (.slice e)) (h2 : P.underlying e = some (.struct fs)) (hk : fs[k]? = some fk) (h3 : P.underlying fk.type = some (.slice ek)) (hc : P.cellsOf fk.type = 1) (hC : P.cellsOf e = sz) (ho : fk.offset < sz)
    {cells : List DV} {n : Nat} (h : DataW.Trod ec P W base spare held t v d ps) (hr : Rel (E0 W) (.d (.dl cells n none)) v) (hz : ∀ x ∈ d.weights P t, x ≤ reachBytes)
    {i n' : Nat} {cs' : List DV} (hi : i < n) (hx : cells[i * sz + fk.offset]? = some (.dl cs' n' none)) : n' * P.bytesOf ek ≤ reachBytes := by
  rw [Rel, RelD] at hr
  obtain ⟨A, c, rfl, hnc, _, _, hcell⟩ := hr
  obtain ⟨fuel, h⟩ := h
  rcases open_slice h1 h with ⟨q, _⟩ | ⟨a, len, cap, m, nf, D, Pl, q, _, hl, _, hm, hy, hel⟩
  · have : (Value.slice A n c) = .slice none 0 0 := by have := congrArg (fun l => l[0]?) q; simpa [Value.cells] using this
    cases this
    omega
  · have q' : (Value.slice A n c) = .slice (some a) len cap := by have := congrArg (fun l => l[0]?) q; simpa [Value.cells] using this
    cases q'
    have him : i < m := by rw [hm]; split <;> omega
    obtain ⟨cs1, c1, c2⟩ := hel i him
    obtain ⟨_, cl, cat⟩ := World.cells?_some c1
    have hne : cells ≠ [] := by rintro rfl; simp at hx
    rcases hcell with hcell | ⟨b, o, hA, _, hR⟩
    · exact absurd hcell hne
    cases hA
    obtain ⟨u, u1, u2⟩ := relC_get cells b o _ _ hR hx
    have hat := cat fk.offset (by rw [hC]; exact ho)
    rw [hC, Addr.add_lit, Addr.add_lit, cell_eq, show o + i * sz + fk.offset = o + (i * sz + fk.offset) by omega] at hat
    have hat' : cellH W.heap b (o + (i * sz + fk.offset)) = some u := u1
    rw [hat'] at hat
    rw [RelD] at u2
    obtain ⟨A', c', rfl, _, _, _, _⟩ := u2
    obtain ⟨xs, m2, _, hx2, _, hxl, hfs⟩ := DataW.trod_struct h2 c2
    have g := hfs k fk hk
    rw [hc] at g
    have htk : (cs1.drop fk.offset).take 1 = [Value.slice A' n' c'] := by
      have hlt : fk.offset < cs1.length := by rw [cl, hC]; exact ho
      rw [List.drop_eq_getElem_cons hlt]
      have : cs1[fk.offset] = Value.slice A' n' c' := by
        rw [List.getElem?_eq_getElem hlt] at hat
        exact (Option.some.inj hat).symm
      rw [this]; rfl
    rw [htk] at g
    have hkl : k < fs.size := by
      rcases Nat.lt_or_ge k fs.size with hh | hh
      · exact hh
      · rw [Array.getElem?_eq_none hh] at hk; cases hk
    have hkx : k < xs.length := by omega
    rw [List.getElem?_eq_getElem hkx] at g
    obtain ⟨y0, hy0⟩ : ∃ y0, xs[k] = y0 := ⟨_, rfl⟩
    rw [hy0] at g
    have hDi : D i = .agg (xs.map (·.1)) := by
      have := congrArg Prod.fst hx2
      simpa using this
    have hzD : ∀ x ∈ (D i).weights P e, x ≤ reachBytes := fun x hx => by
      refine hz x ?_
      have e1 : d = .slice ((List.range n).map D) ((List.range (m - n)).map fun j => D (n + j)) := congrArg Prod.fst hy
      rw [e1]
      simp only [DataW.weights, h1]
      refine List.mem_cons_of_mem _ (List.mem_append_left _ (weightsAll_mem (List.mem_map.2 ⟨i, List.mem_range.2 hi, rfl⟩) x hx))
    have hzF : ∀ x ∈ y0.1.weights P fk.type, x ≤ reachBytes := fun x hx => by
      refine hzD x ?_
      rw [hDi]
      simp only [DataW.weights, h2]
      refine DataW.weights_mem_each (j := k) (t := fk.type) (d := y0.1) ?_ ?_ x hx
      · rw [List.getElem?_map, Array.getElem?_toList, hk]; rfl
      · rw [List.getElem?_map, List.getElem?_eq_getElem hkx, hy0]; rfl
    rcases open_slice h3 g with ⟨q, _⟩ | ⟨a2, len2, cap2, m2', nf2, D2, Pl2, q2, _, _, _, _, hy2, _⟩
    · cases q; simp
    · cases q2
      have e2 : y0.1 = .slice ((List.range n').map D2) ((List.range (m2' - n')).map fun j => D2 (n' + j)) := congrArg Prod.fst hy2
      rw [e2] at hzF
      simp only [DataW.weights, h3] at hzF
      have := hzF _ (List.mem_cons_self ..)
      rw [List.length_map, List.length_range, Nat.add_mul] at this
      omega
theorem plays_main (a : List FtT × List AcT) (hd : ∀ x ∈ a.2, x.2.2.2.2.length ≤ 140737488355328) : dialtonelaw11_CarrierPlays a = some true := plays_j a.1 a.2 hd
end Go.Proofs.Ytkhdpjlpahammaa
