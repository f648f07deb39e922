import Derived.Test.YtlaccfegaoaakaaH37p
set_option linter.unusedVariables false
namespace Go.Proofs.Ytlaccfegaoaakaa
open Go.RowKit
def sliceF (l : List (Nat × List AV × AV)) : ConK := fun f args rd => match args with
  | [.sl r off n _] => match rd r with
    | some (.data e s cs wr) => match litC l f [.d (.dl ((cs.drop off).take (n * s)) n none)] rd with
      | some (v, _, _) => match v.flat with
        | true => some (v, [], [r])
        | false => none
      | none => none
    | _ => none
  | _ => none
theorem lit_o {P : Program} {GL : Nat → Option (List DV)} : ∀ {l : List (Nat × List AV × AV)}, LitOk P GL l → ∀ {f : Nat} {args : List AV} {rd : Nat → Option AO} {v : AV} {us : List (Nat × AO)} {rds : List Nat}, litC l f args rd = some (v, us, rds) → fnOk P f = true ∧ DoesO P GL f args [] v []
  | [], _, f, args, rd, v, us, rds, h => by rw [litC] at h; cases h
  | (g, as, u) :: l, hl, f, args, rd, v, us, rds, h => by
    rw [litC] at h
    split at h
    · rename_i hb
      simp only [Bool.and_eq_true] at hb
      have e1 := Nat.eq_of_beq_eq_true hb.1
      have e2 := avsB_eq _ _ hb.2
      cases h
      subst e1 e2
      exact ⟨hl.1.1, hl.1.2.1⟩
    · exact lit_o hl.2 h
theorem sliceF_ok {P : Program} {GL : Nat → Option (List DV)} {l : List (Nat × List AV × AV)} (hl : LitOk P GL l) : ∀ f args rd v us rds, sliceF l f args rd = some (v, us, rds) → fnOk P f = true ∧ Does P GL f args rds v us rd := by
  intro f args rd v us rds h
  unfold sliceF at h
  split at h
  · rename_i r off n c
    split at h
    · rename_i e s cs wr hr
      split at h
      · rename_i v' us' rds' hc
        split at h
        · rename_i hfl
          cases h
          obtain ⟨h1, h2⟩ := lit_o hl hc
          refine ⟨h1, does_lend (F := [(r, .data e s cs false)]) h2 hfl ⟨by simp, ⟨e, s, cs, wr, hr, rfl⟩, trivial⟩ ?_ (by simp [AV.refs.refsL, AV.refs])⟩
          rw [TdL]
          refine ⟨_, _, rfl, ?_, by rw [TdL]⟩
          rw [TdV]
          unfold TdD
          have : lookF [(r, AO.data e s cs false)] r = some (.data e s cs false) := by simp [lookF, look]
          simp only [this]
          exact .inl trivial
        · cases h
      · cases h
    · cases h
  · cases h
end Go.Proofs.Ytlaccfegaoaakaa
