import Derived.Test.YtkmfgldoljegoaaFp
import Derived.Test.YtkmfgldoljegoaaXBp
namespace Go.Proofs.Ytkmfgldoljegoaa
open Go.RowKit
set_option maxRecDepth 1000000
theorem works_o : DoesO Try.prog (fun _ => none) 14 [] [] (aBool true) [] :=
  runs_true KK tabL_ok noC_ok Try.func14 rfl 10000 (by kernel_rfl)
end Go.Proofs.Ytkmfgldoljegoaa
