/- Chapter 20: the examples of the chapter. -/
import Derived.Test.YtmkbnmjhkghdjaaF
namespace Go.Proofs.Ytmkbnmjhkghdjaa
open Go.RowKit
set_option maxRecDepth 1000000
theorem lives_o : DoesO Try.prog (fun _ => none) 11 [] [] (aBool true) [] :=
  runs_true KK tabL_ok noC_ok Try.func11 rfl 10000 (by kernel_rfl)
end Go.Proofs.Ytmkbnmjhkghdjaa
