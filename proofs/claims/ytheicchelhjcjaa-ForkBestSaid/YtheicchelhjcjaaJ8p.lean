import Derived.Test.YtheicchelhjcjaaJ7p
import Derived.Test.YtheicchelhjcjaaFp
import Derived.Test.YtheicchelhjcjaaXBp
import Derived.Test.YtheicchelhjcjaaZ2p
set_option linter.unusedVariables false
set_option linter.unusedSimpArgs false
set_option maxRecDepth 100000
namespace Go.Proofs.Ytheicchelhjcjaa
open Go.RowKit
theorem fin_len {l : List Br} {a2 : Int} {a3 a4 a5 : Bool} {i : Nat} {c : Int} (hl : l.length ≤ 16) : (FIN l a2 a3 a4 a5 i c).1.1.length = l.length ∧ (FIN l a2 a3 a4 a5 i c).2.length ≤ 40 := by
  have hf := fs_len l i c
  have h1 := ac_len pRg 2 (fs l i c) l.length
  have h2 := GO_len1 (fs l i c) a3 a4 a5
  have h3 := GO_len (fs l i c) a3 a4 a5
  have h4 := GO_len1 ((fs l i c).map fst1) a3 true a5
  have h5 := GO_len ((fs l i c).map fst1) a3 true a5
  rw [List.length_map] at h4 h5
  unfold FIN
  split
  · refine ⟨by simp [hf], ?_⟩
    rw [List.length_cons]; omega
  split
  · refine ⟨by show (GO _ _ _ _).1.length = _; omega, ?_⟩
    rw [List.length_cons]; omega
  split
  · refine ⟨by show (GO _ _ _ _).1.length = _; omega, ?_⟩
    rw [List.length_append]; omega
  · exact ⟨by show (GO _ _ _ _).1.length = _; omega, by show (GO _ _ _ _).2.2.length ≤ _; omega⟩
theorem stc_len {l : List Br} {a2 : Int} {a3 a4 a5 : Bool} {k b c : Int} (hl : l.length ≤ 16) : (STC l a2 a3 a4 a5 k b c).1.1.length = l.length ∧ (STC l a2 a3 a4 a5 k b c).2.length ≤ 40 := by
  unfold STC
  split
  · unfold PV
    split
    · refine ⟨by simp, ?_⟩
      show (if _ then _ else _ : List Ac).length ≤ 40
      split <;> simp
    split
    · exact ⟨by simp, by simp⟩
    · refine ⟨rfl, ?_⟩
      show (if _ then _ else _ : List Ac).length ≤ 40
      split <;> simp
  split
  · exact fin_len hl
  split
  · exact fin_len hl
  · have := ac_len pRg 2 l l.length
    exact ⟨by simp, by show (ac _ _ _ _).length ≤ 40; omega⟩
theorem step_j (l : List Br) (a2 : Int) (a3 a4 a5 : Bool) (k b c : Int) : ∃ (F : Fk) (A : List Ac) (e : Int), fork_Step ((l, (a2, (a3, (a4, a5)))), (k, (b, c))) = some (F, (A, e)) ∧ dialtoneref23_Step ((l, (a2, (a3, (a4, a5)))), (k, (b, c))) = some (F, (A, e)) ∧ F.1.length ≤ 16 ∧ A.length ≤ 40 ∧
    ((e = 0 ∧ CKO l a2 a3 a4 a5 k b c ∧ F = (STC l a2 a3 a4 a5 k b c).1 ∧ A = (STC l a2 a3 a4 a5 k b c).2) ∨ (e ≠ 0 ∧ F = ([], (0, (false, (false, false)))) ∧ A = [])) := by
  obtain ⟨e, h1, h2, h3⟩ := check_j l a2 a3 a4 a5 k b c
  by_cases h0 : e = 0
  · subst h0
    have h := h3 rfl
    have hs := stc_len (a2 := a2) (a3 := a3) (a4 := a4) (a5 := a5) (k := k) (b := b) (c := c) h.v.len
    have hv := h.v.len
    exact ⟨_, _, 0, stepP_j h h1, stepR_j h h2, by omega, hs.2, .inl ⟨rfl, h, rfl, rfl⟩⟩
  · refine ⟨([], (0, (false, (false, false)))), [], e, ?_, ?_, by simp, by simp, .inr ⟨h0, rfl, rfl⟩⟩
    · rw [pstep_eq, h1]
      simp only [bindO_some]
      rw [decide_eq_true h0]
      rfl
    · rw [rstep_eq, h2]
      simp only [bindO_some]
      rw [decide_eq_true h0]
      rfl
end Go.Proofs.Ytheicchelhjcjaa
