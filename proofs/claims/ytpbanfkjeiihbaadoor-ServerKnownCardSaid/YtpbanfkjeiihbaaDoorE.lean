/- Chapter 15: what the simulation needs of the machine. -/
import Derived.Test.YtpbanfkjeiihbaaDoorE5
import Derived.Test.YtpbanfkjeiihbaaDoorS1b
set_option linter.unusedVariables false
set_option linter.unusedSimpArgs false
namespace Go.Proofs.YtpbanfkjeiihbaaDoor
open Go.RowKit

def m0 : Mc := ⟨2, 0, 0⟩
def l0 : List Tout := [⟨3, 0, 0, 0⟩]
theorem outK_ok (k c : Int) (h : 0 ≤ k ∧ k ≤ 255) : ∀ o ∈ outK k c, okOut o := by
  intro o ho
  unfold outK at ho
  unfold okOut
  (repeat' split at ho) <;> simp at ho <;> (try subst ho) <;> simp <;> omega
theorem findS_ok (m : Mc) (i : Tin) : ∀ l : List Rw, (∀ r ∈ l, 0 ≤ r.o0 ∧ r.o0 ≤ 255 ∧ 0 ≤ r.o1 ∧ r.o1 ≤ 255) → (findS m i l).2.length ≤ 3 ∧ ∀ o ∈ (findS m i l).2, okOut o
  | [], _ => by simp [findS]
  | r :: l, h => by
    unfold findS
    split
    · have h1 := outK_len r.o0 (applyM r m i).code
      have h2 := outK_len r.o1 (applyM r m i).code
      obtain ⟨a, b, c, d⟩ := h r (List.mem_cons_self ..)
      refine ⟨by simp [applyS]; omega, fun o ho => ?_⟩
      simp only [applyS, List.mem_append] at ho
      rcases ho with ho | ho
      · exact outK_ok _ _ ⟨a, b⟩ o ho
      · exact outK_ok _ _ ⟨c, d⟩ o ho
    · exact findS_ok m i l fun x hx => h x (List.mem_cons_of_mem _ hx)
theorem stepS_ok (m : Mc) (i : Tin) : (stepS m i).2.length ≤ 3 ∧ ∀ o ∈ (stepS m i).2, okOut o := by
  unfold stepS
  split
  · exact findS_ok m i rowsT (by simp [rowsT])
  · simp
end Go.Proofs.YtpbanfkjeiihbaaDoor
