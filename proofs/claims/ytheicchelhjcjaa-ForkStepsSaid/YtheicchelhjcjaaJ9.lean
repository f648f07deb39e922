/- The form's reach: a slice that is the first field of an argument takes at most 2^47 bytes. -/
import Derived.Test.YtheicchelhjcjaaJ8
import Derived.SizedLaws
set_option linter.unusedVariables false
set_option linter.unusedSimpArgs false
namespace Go.Proofs.Ytheicchelhjcjaa
open Go.RowKit
open Go.Deep (open_slice)

theorem reach_fld0 {H : Type} {ec : TypeId × Value → H} {P : Program} {W : World} {base : Nat} {spare : Nat → Bool} {held : Bool} {E : En} {t e : Nat} {v : Value} {d : DataW H} {ps : List MemPlace} {fs : Array Field} {f0 : Field} {cs : List DV} {n : Nat} {rest : List AV}
    (h1 : P.underlying t = some (.struct fs)) (hf : fs[0]? = some f0) (ho : f0.offset = 0) (h2 : P.underlying f0.type = some (.slice e)) (hc : P.cellsOf f0.type = 1)
    (h : DataW.Trod ec P W base spare held t v d ps) (hr : Rel E (.agg (.d (.dl cs n none) :: rest)) v) (hz : ∀ x ∈ d.weights P t, x ≤ reachBytes) : n * P.bytesOf e ≤ reachBytes := by
  rw [Rel] at hr
  obtain ⟨vs, rfl, hl⟩ := hr
  rw [RelL] at hl
  obtain ⟨v0, vs', e0, r0, _⟩ := hl
  rw [Rel, RelD] at r0
  obtain ⟨p, cap, rfl, r0⟩ := r0
  obtain ⟨fuel, h⟩ := h
  obtain ⟨xs, m, _, hx, hlen, hxl, hfs⟩ := DataW.trod_struct h1 h
  have g := hfs 0 f0 hf
  have hcs : (Value.agg vs).cells.toList = Value.slice p n cap :: vs' := e0
  rw [hcs, ho, hc] at g
  have hpos : 0 < fs.size := by
    rcases Nat.eq_zero_or_pos fs.size with k | k
    · rw [Array.getElem?_eq_none (by omega)] at hf; cases hf
    · exact k
  cases xs with
  | nil => simp at hxl; omega
  | cons y0 xt =>
    have g' : DataW.trod ec P W base spare held m f0.type [Value.slice p n cap] = some y0 := g
    have hd : d = .agg (y0.1 :: xt.map (·.1)) := by
      have := congrArg Prod.fst hx
      simpa using this
    have hft : ∃ ft, fs.toList = f0 :: ft := by
      cases hh : fs.toList with
      | nil =>
        have : fs.toList.length = 0 := by rw [hh]; rfl
        simp at this
        rw [this] at hpos; simp at hpos
      | cons a r =>
        have : fs.toList[0]? = some f0 := by rw [Array.getElem?_toList]; exact hf
        rw [hh] at this
        cases this
        exact ⟨r, rfl⟩
    obtain ⟨ft, hft⟩ := hft
    rw [hd] at hz
    simp only [DataW.weights, h1, hft, List.map_cons, DataW.weightsEach] at hz
    rcases open_slice h2 g' with ⟨q, _⟩ | ⟨a, len, cap', m', k, D, Pl, q, _, _, _, _, hy, _⟩
    · cases q; simp
    · cases q
      rw [hy] at hz
      simp only [DataW.weights, h2] at hz
      have := hz _ (List.mem_append_left _ (List.mem_cons_self ..))
      rw [List.length_map, List.length_range, Nat.add_mul] at this
      omega
theorem steps_main (a : Fk × (Int × (Int × Int))) (h : a.1.1.length ≤ 10000000000000) : dialtonelaw23_ForkSteps a = some true := by
  obtain ⟨⟨l, a2, a3, a4, a5⟩, k, b, c⟩ := a
  exact ForkSteps_j l a2 a3 a4 a5 k b c h
end Go.Proofs.Ytheicchelhjcjaa
