/- Chapter 18: the examples of the chapter. -/
import Derived.Test.YtonejiaiieiboaaA0
namespace Go.Proofs.Ytonejiaiieiboaa
open Go.RowKit
set_option maxRecDepth 1000000
theorem works_o : DoesO Try.prog (fun _ => none) 10 [] [] (aBool true) [] :=
  runs_true KK tabL_ok cloneC_ok Try.func10 rfl 10000 (by kernel_rfl)
end Go.Proofs.Ytonejiaiieiboaa
