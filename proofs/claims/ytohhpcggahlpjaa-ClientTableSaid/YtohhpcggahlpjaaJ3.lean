/- Chapter 13, plain: the table and the steps. -/
import Derived.Test.YtohhpcggahlpjaaJ2
set_option linter.unusedVariables false
set_option linter.unusedSimpArgs false
namespace Go.Proofs.Ytohhpcggahlpjaa
open Go.RowKit

theorem start_j : client_Start () = dialtoneref13_Start () ∧ ∃ r1 r2 r3 l, dialtoneref13_Start () = some ((r1, (r2, r3)), l) ∧ l.length ≤ 1000000 := ⟨rfl, _, _, _, _, rfl, by simp⟩
theorem nx {i : Nat} (h : i < 1000000) : IntKind.wrap .i64 ((i : Int) + 1) = ((i + 1 : Nat) : Int) := by rw [wrap_i64' (by omega)]; omega
theorem inputs_j (a1 a2 a3 : Int) (c : List Int) (hc : c.length ≤ 100000) : dialtonelaw13_inputs ((a1, (a2, a3)), c) = some true := by
  unfold dialtonelaw13_inputs
  simp only [lstep_j, bindO_some, bindO_none, joinO_inl, joinO_inr, joinO_none, outO_some, outO_none, cond_ite, List.take_length, Nat.le_refl, if_true, Nat.mul_one, Int.mul_one, cond_true, cond_false, Bool.not_true]
  refine joinO_eq (a := ()) ?_ ?_
  · refine loopO_from (fun i => (i : Int)) 8 rfl ?_ ?_
    · intro i hi
      rw [if_pos (by omega)]
      refine joinO_eq (a := ()) ?_ ?_
      · refine loopO_from (fun i => (i : Int)) c.length rfl ?_ ?_
        · intro j hj
          rw [if_pos (by omega), if_pos (by omega), get_nat hj, nx (by omega)]
          rfl
        · rw [if_neg (by omega)]
      · rw [nx (by omega)]
    · rfl
  · refine joinO_eq (a := ()) ?_ rfl
    refine loopO_from (fun i => (i : Int)) 15 rfl ?_ ?_
    · intro i hi
      rw [if_pos (by omega), nx (by omega)]
    · rfl
theorem ClientTable_j : dialtonelaw13_ClientTable () = some true := by
  unfold dialtonelaw13_ClientTable
  simp (disch := decide) only [inputs_j, bindO_some, bindO_none, joinO_inl, joinO_inr, joinO_none, outO_some, outO_none, cond_ite, List.take_length, Nat.le_refl, if_true, Nat.mul_one, Int.mul_one, cond_true, cond_false, Bool.not_true]
  refine joinO_eq (a := ()) ?_ rfl
  refine loopO_from (fun i => (i : Int)) 9 rfl ?_ ?_
  · intro i hi
    rw [if_pos (by omega)]
    refine joinO_eq (a := ()) ?_ ?_
    · refine loopO_from (fun i => (i : Int)) 10 rfl ?_ ?_
      · intro j hj
        rw [if_pos (by omega)]
        refine joinO_eq (a := ()) ?_ ?_
        · refine loopO_from (fun i => (i : Int)) 16 rfl ?_ ?_
          · intro k hk
            rw [if_pos (by omega), if_pos (by omega), get_nat (by simp; omega), bindO_some, if_pos (by omega), get_nat (by simp; omega), bindO_some, nx (by omega)]
          · rfl
        · rw [nx (by omega)]
      · rfl
    · rw [nx (by omega)]
  · rfl
theorem ClientSteps_j (a1 a2 a3 a4 a5 a6 a7 : Int) : dialtonelaw13_ClientSteps ((a1, (a2, a3)), ((a4, (a5, a6)), a7)) = some true := by
  obtain ⟨h1, r1, r2, r3, l, h2, hl⟩ := start_j
  obtain ⟨h3, r, h4⟩ := copies_j a7
  obtain ⟨h5, s, h6⟩ := copies_j (Int.tmod a7 40000)
  unfold dialtonelaw13_ClientSteps
  simp only [h1, h2, h3, h4, h5, h6, lstep_j, same_j l hl, bindO_some, bindO_none, joinO_inl, joinO_inr, joinO_none, outO_some, outO_none, cond_ite, List.take_length, Nat.le_refl, if_true, Nat.mul_one, Int.mul_one, cond_true, cond_false, decide_true, Bool.and_self, Bool.not_true, Bool.not_false]
theorem ClientSteps_main (a : (Int × (Int × Int)) × ((Int × (Int × Int)) × Int)) : dialtonelaw13_ClientSteps a = some true := by
  obtain ⟨⟨a1, a2, a3⟩, ⟨a4, a5, a6⟩, a7⟩ := a
  exact ClientSteps_j a1 a2 a3 a4 a5 a6 a7
theorem ClientTable_main (a : PUnit) : dialtonelaw13_ClientTable a = some true := ClientTable_j
end Go.Proofs.Ytohhpcggahlpjaa
