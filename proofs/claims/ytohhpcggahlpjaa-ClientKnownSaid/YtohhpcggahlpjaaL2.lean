/- Chapter 13: the examples and limits. -/
import Derived.Test.YtohhpcggahlpjaaF
namespace Go.Proofs.Ytohhpcggahlpjaa
open Go.RowKit
set_option maxRecDepth 1000000
theorem known_o : DoesO Try.prog (fun _ => none) 8 [] [] (aBool true) [] :=
  runs_true KK tabL_ok noC_ok Try.func8 rfl 10000 (by kernel_rfl)
end Go.Proofs.Ytohhpcggahlpjaa
