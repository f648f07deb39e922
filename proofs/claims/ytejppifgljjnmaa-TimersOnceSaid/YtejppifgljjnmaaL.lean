/- Chapter 10: the examples of the chapter. -/
import Derived.Test.YtejppifgljjnmaaF
import Derived.Test.YtejppifgljjnmaaXB
namespace Go.Proofs.Ytejppifgljjnmaa
open Go.RowKit
set_option maxRecDepth 1000000
theorem lives_o : DoesO Try.prog (fun _ => none) 12 [] [] (aBool true) [] :=
  runs_true KK tabL_ok noC_ok Try.func12 rfl 10000 (by kernel_rfl)
end Go.Proofs.Ytejppifgljjnmaa
