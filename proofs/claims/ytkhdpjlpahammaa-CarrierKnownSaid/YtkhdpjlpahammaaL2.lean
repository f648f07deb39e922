/- Chapter 11: the examples and limits. -/
import Derived.Test.YtkhdpjlpahammaaF
namespace Go.Proofs.Ytkhdpjlpahammaa
open Go.RowKit
set_option maxRecDepth 1000000
theorem known_o : DoesO Try.prog (fun _ => none) 5 [] [] (aBool true) [] :=
  runs_true KK tabL_ok noC_ok Try.func5 rfl 10000 (by kernel_rfl)
end Go.Proofs.Ytkhdpjlpahammaa
