import Derived.Test.YtheicchelhjcjaaJ16p
set_option linter.unusedVariables false
set_option linter.unusedSimpArgs false
set_option maxRecDepth 100000
namespace Go.Proofs.Ytheicchelhjcjaa
open Go.RowKit
abbrev In := Int × (Int × Int)
abbrev i0 : In := (0, (0, 0))
end Go.Proofs.Ytheicchelhjcjaa
