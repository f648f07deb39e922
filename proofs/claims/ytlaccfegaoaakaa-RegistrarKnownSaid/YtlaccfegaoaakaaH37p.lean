import Derived.Test.YtlaccfegaoaakaaXBp
set_option linter.unusedVariables false
namespace Go.Proofs.Ytlaccfegaoaakaa
open Go.RowKit
def sliceC (l : List (Nat × List AV × AV)) : ConK := fun f args rd => match args with
  | [.sl r off n _] => match rd r with
    | some (.data e s cs wr) => match litC l f [.d (.dl ((cs.drop off).take (n * s)) n none)] rd with
      | some (v, _, _) => some (v, [(r, .data e s cs false)], [r])
      | none => none
    | _ => none
  | _ => none
theorem litC_us {l : List (Nat × List AV × AV)} {f : Nat} {args : List AV} {rd : Nat → Option AO} {v : AV} {us : List (Nat × AO)} {rds : List Nat} : litC l f args rd = some (v, us, rds) → us = [] ∧ rds = [] := by
  induction l with
  | nil => intro h; rw [litC] at h; cases h
  | cons p l ih =>
    obtain ⟨g, as, u⟩ := p
    intro h
    rw [litC] at h
    split at h
    · cases h; exact ⟨rfl, rfl⟩
    · exact ih h
theorem litC_rd {l : List (Nat × List AV × AV)} {f : Nat} {args : List AV} {rd rd' : Nat → Option AO} : litC l f args rd = litC l f args rd' := by
  induction l with
  | nil => rfl
  | cons p l ih => obtain ⟨g, as, u⟩ := p; rw [litC, litC, ih]
theorem sliceC_ok {P : Program} {GL : Nat → Option (List DV)} {l : List (Nat × List AV × AV)} (hl : LitOk P GL l) : ∀ f args rd v us rds, sliceC l f args rd = some (v, us, rds) → fnOk P f = true ∧ Does P GL f args rds v us rd := by
  intro f args rd v us rds h
  unfold sliceC at h
  split at h
  · rename_i r off n c
    split at h
    · rename_i e s cs wr hr
      split at h
      · rename_i v' us' rds' hc
        cases h
        obtain ⟨e1, e2⟩ := litC_us hc
        subst e1 e2
        rw [litC_rd (rd' := updF rd [(r, .data e s cs false)])] at hc
        obtain ⟨h1, h2⟩ := litC_ok hl _ _ _ _ _ _ hc
        refine ⟨h1, does_freeze (us := []) (F := [(r, .data e s cs false)]) (does_rds h2 (by simp)) ⟨by simp, ⟨e, s, cs, wr, hr, rfl⟩, trivial⟩ ?_⟩
        rw [TdL]
        refine ⟨_, _, rfl, ?_, by rw [TdL]⟩
        rw [TdV]
        unfold TdD
        have : lookF [(r, AO.data e s cs false)] r = some (.data e s cs false) := by simp [lookF, look]
        simp only [this]
        exact .inl trivial
      · cases h
    · cases h
  · cases h
end Go.Proofs.Ytlaccfegaoaakaa
