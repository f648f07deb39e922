import Derived.Test.YtohhpcggahlpjaaJ4p
set_option linter.unusedVariables false
set_option maxRecDepth 1000000
set_option maxHeartbeats 0
namespace Go.Proofs.Ytohhpcggahlpjaa
open Go.RowKit
def qh (lo hi : Int) (q : Int → Bool) (x : Int) : Bool := bif decide (x ≤ lo) then true else bif decide (hi ≤ x) then false else q x
theorem qh_eq {lo hi t : Int} (h1 : lo ≤ t) (h2 : t < hi) : qh lo hi (fun x => decide (x ≤ t)) = fun x => decide (x ≤ t) := by
  funext x
  unfold qh
  by_cases a : x ≤ lo
  · simp [a]; omega
  · by_cases b : hi ≤ x
    · simp [a, b]; omega
    · simp [a, b]
end Go.Proofs.Ytohhpcggahlpjaa
