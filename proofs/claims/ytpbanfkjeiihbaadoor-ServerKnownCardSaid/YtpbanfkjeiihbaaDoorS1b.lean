/- Outputs that fit. -/
import Derived.Test.YtpbanfkjeiihbaaDoorS1
set_option linter.unusedVariables false
namespace Go.Proofs.YtpbanfkjeiihbaaDoor
/-- an output that fits: its timer starts at most a day ahead -/
def okOut (o : Tout) : Prop := 0 ≤ o.kind ∧ o.kind ≤ 255 ∧ 0 ≤ o.timer ∧ o.timer ≤ 255 ∧ 0 ≤ o.after ∧ o.after ≤ 86400000
end Go.Proofs.YtpbanfkjeiihbaaDoor
