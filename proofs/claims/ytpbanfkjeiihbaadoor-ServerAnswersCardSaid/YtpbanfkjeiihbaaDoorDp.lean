import Derived.Test.YtpbanfkjeiihbaaDoorXBp
import Derived.ProofKit
import Derived.OpenShut
import Derived.ChangeSame
import Derived.LaidLaws
import Derived.LaidMore
set_option linter.unusedVariables false
set_option linter.unusedSimpArgs false
namespace Go.Proofs.YtpbanfkjeiihbaaDoor
open Go.ChangeShapes Go.WideShapes Go.RowKit
mutual
def flatD {H : Type} : DataW H → List Value
  | .lit (.int k n) => [.int k n]
  | .lit (.bool b) => [.bool b]
  | .agg l => flatDs l
  | _ => []
def flatDs {H : Type} : List (DataW H) → List Value
  | [] => []
  | d :: r => flatD d ++ flatDs r
end
def packed (P : Program) : List Field → Nat → Bool
  | [], _ => true
  | f :: r, o => f.offset == o && packed P r (o + P.cellsOf f.type)
def endOf (P : Program) : List Field → Nat → Nat
  | [], o => o
  | f :: r, o => endOf P r (o + P.cellsOf f.type)
def plainT (P : Program) : Nat → TypeId → Bool
  | 0, _ => false
  | n + 1, t => match P.underlying t with
    | some (.int _) => true
    | some .bool => true
    | some (.struct fs) => fs.toList.all (fun f => plainT P n f.type) && packed P fs.toList 0 && endOf P fs.toList 0 == P.cellsOf t
    | some (.array k e) => plainT P n e && k * P.cellsOf e == P.cellsOf t
    | _ => false
section
variable {H : Type} {ec : TypeId × Value → H} {P : Program} {w : World} {base : Nat} {spare : Nat → Bool} {held : Bool}
theorem fields_flat (cs : List Value) : ∀ (fs : List Field) (xs : List (DataW H × List MemPlace)) (o : Nat), xs.length = fs.length →
    (∀ (i : Nat) (f : Field) x, fs[i]? = some f → xs[i]? = some x → (cs.drop f.offset).take (P.cellsOf f.type) = flatD x.1) → packed P fs o = true → cs.drop o = flatDs (xs.map (·.1)) ++ cs.drop (endOf P fs o)
  | [], [], o, _, _, _ => by simp [flatDs, endOf]
  | [], _ :: _, _, h, _, _ => by simp at h
  | _ :: _, [], _, h, _, _ => by simp at h
  | f :: r, x :: xr, o, hl, hall, hp => by
    simp only [packed, Bool.and_eq_true, beq_iff_eq] at hp
    have h0 := hall 0 f x rfl rfl
    rw [hp.1] at h0
    have ih := fields_flat cs r xr (o + P.cellsOf f.type) (by simpa using hl) (fun i g y hg hy => hall (i + 1) g y (by simpa using hg) (by simpa using hy)) hp.2
    rw [List.map_cons, flatDs, endOf, List.append_assoc, ← ih, ← h0, ← List.drop_drop, List.take_append_drop]
theorem elems_flat (cs : List Value) (c : Nat) : ∀ (xs : List (DataW H × List MemPlace)) (i : Nat),
    (∀ (j : Nat) x, xs[j]? = some x → (cs.drop ((i + j) * c)).take c = flatD x.1) → cs.drop (i * c) = flatDs (xs.map (·.1)) ++ cs.drop ((i + xs.length) * c)
  | [], i, _ => by simp [flatDs]
  | x :: xr, i, hall => by
    have h0 := hall 0 x rfl
    have ih := elems_flat cs c xr (i + 1) (fun j y hy => by
      have := hall (j + 1) y (by simpa using hy)
      rwa [show i + (j + 1) = i + 1 + j by omega] at this)
    rw [List.map_cons, flatDs, List.append_assoc, List.length_cons, show i + (xr.length + 1) = i + 1 + xr.length by omega, ← ih, ← h0, Nat.add_zero, Nat.add_mul, Nat.one_mul, ← List.drop_drop, List.take_append_drop]
theorem trod_flat : ∀ (n : Nat) (t : TypeId) (fuel : Nat) (cs : List Value) (x : DataW H × List MemPlace), plainT P n t = true → DataW.trod ec P w base spare held fuel t cs = some x → cs = flatD x.1
  | 0, _, _, _, _, h, _ => by simp [plainT] at h
  | n + 1, t, fuel, cs, x, h, ht => by
    unfold plainT at h
    split at h
    · rename_i hu
      obtain ⟨m, rfl, rfl, _⟩ := DataW.trod_int hu ht
      simp [flatD]
    · rename_i hu
      obtain ⟨m, rfl, rfl⟩ := DataW.trod_bool hu ht
      simp [flatD]
    · rename_i fs hu
      simp only [Bool.and_eq_true, beq_iff_eq] at h
      obtain ⟨⟨h1, h2⟩, h3⟩ := h
      obtain ⟨xs, m, _, rfl, hl, hlen, hf⟩ := DataW.trod_struct hu ht
      have hall : ∀ (i : Nat) (f : Field) y, fs.toList[i]? = some f → xs[i]? = some y → (cs.drop f.offset).take (P.cellsOf f.type) = flatD y.1 := by
        intro i f y hi hy
        have h4 := hf i f (by simpa using hi)
        rw [hy] at h4
        exact trod_flat n f.type m _ y (List.all_eq_true.1 h1 f (List.mem_of_getElem? hi)) h4
      have h5 := fields_flat cs fs.toList xs 0 (by simpa using hlen) hall h2
      rw [h3, ← hl] at h5
      simpa [flatD] using h5
    · rename_i k e hu
      simp only [Bool.and_eq_true, beq_iff_eq] at h
      obtain ⟨h1, h2⟩ := h
      obtain ⟨xs, m, _, rfl, hl, hlen, hf⟩ := DataW.trod_array hu ht
      have h5 := elems_flat cs (P.cellsOf e) xs 0 (fun j y hy => by
        have h4 := hf j (by rw [← hlen]; exact (List.getElem?_eq_some_iff.1 hy).1)
        rw [hy] at h4
        rw [Nat.zero_add]
        exact trod_flat n e m _ y h1 h4)
      rw [Nat.zero_add, hlen, h2, ← hl] at h5
      simpa [flatD] using h5
    · cases h
end
theorem laid_cells {P : Program} {w : World} : ∀ {laid : List (String × DataW Unit)} {ps : List MemPlace}, DataW.LaidVars P w laid ps → ∀ {name : String} {d : DataW Unit}, (name, d) ∈ laid →
    ∃ g t, P.globalNamed name = some g ∧ (P.globals[g]?).map (·.type) = some t ∧ ∀ n, plainT P n t = true → ∀ i, w.cell? ⟨g, i, none⟩ = (flatD d)[i]?
  | [], _, _, _, _, hm => by cases hm
  | (n0, d0) :: r, ps, h, name, d, hm => by
    obtain ⟨g, t, cs, fuel, p, q, h1, h2, h3, h4, h5, _⟩ := h
    rcases List.mem_cons.1 hm with e | hm
    · injection e with e1 e2
      subst e1 e2
      refine ⟨g, t, h1, h2, fun n hp i => ?_⟩
      have h6 := trod_flat n t fuel cs.toList _ hp h4
      rw [World.var?_cell h1 h3 i, ← h6, Array.getElem?_toList]
    · exact laid_cells h5 hm
end Go.Proofs.YtpbanfkjeiihbaaDoor
