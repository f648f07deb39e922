/- The examples: as a plain law. -/
import Derived.Test.YtheicchelhjcjaaL
import Derived.Test.YtheicchelhjcjaaXB
import Derived.Test.YtheicchelhjcjaaY1
namespace Go.Proofs.Ytheicchelhjcjaa
theorem known_main (a : Unit) (_ : WfIs [] a) : (fun _ : Unit => some true) a = some true := rfl
end Go.Proofs.Ytheicchelhjcjaa
