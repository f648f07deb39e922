import Derived.Test.YtkhdpjlpahammaaFp
namespace Go.Proofs.Ytkhdpjlpahammaa
open Go.RowKit
set_option maxRecDepth 1000000
theorem lives_o : DoesO Try.prog (fun _ => none) 14 [] [] (aBool true) [] :=
  runs_true KK tabL_ok noC_ok Try.func14 rfl 10000 (by kernel_rfl)
end Go.Proofs.Ytkhdpjlpahammaa
