/- Chapter 15: May, names, apply. -/
import Derived.Test.YtpbanfkjeiihbaaDoorS4
set_option linter.unusedVariables false
set_option linter.unusedSimpArgs false
namespace Go.Proofs.YtpbanfkjeiihbaaDoor
open Go.RowKit

def mayB (m : Mc) : Bool := m.wait == 0 && (if m.st = 2 then m.code == 0 else if m.st = 3 then decide (100 ≤ m.code) && decide (m.code ≤ 199) else if m.st = 5 then decide (200 ≤ m.code) && decide (m.code ≤ 699) else if m.st = 7 then decide (100 ≤ m.code) && decide (m.code ≤ 699) else false)
set_option maxHeartbeats 1000000 in
theorem may_any (w : World) (m : Mc) : Calls Tryd.prog 18 #[m.val] w fun e w' => e = .returned (.bool (mayB m)) ∧ Below w.heap.size w w' := by
  have HE : Hid (mayB m = (m.wait == 0 && (if m.st = 2 then m.code == 0 else if m.st = 3 then decide (100 ≤ m.code) && decide (m.code ≤ 199) else if m.st = 5 then decide (200 ≤ m.code) && decide (m.code ≤ 699) else if m.st = 7 then decide (100 ≤ m.code) && decide (m.code ≤ 699) else false))) := rfl
  go_enter Tryd.func18, Tryd.ntmps18
  go_wp2
  all_goals go_ret
  all_goals exact ⟨ret_bool (by rw [HE.out]; grind), (Below.refl _ _).alloc (Nat.le_refl _) _⟩
end Go.Proofs.YtpbanfkjeiihbaaDoor
