/- Chapter 36: the queue of the examples. -/
import Derived.Test.YtkmfgldoljegoaaF
import Derived.Test.YtkmfgldoljegoaaH36
namespace Go.Proofs.Ytkmfgldoljegoaa
open Go.RowKit
set_option maxRecDepth 1000000
def exampleV : AV := .tup [.agg [.d (.dl [.val (.int .i64 7), .val (.int .i64 0), .val (.int .i64 0), .val (.int .i64 2), .val (.int .i64 8), .val (.int .i64 0), .val (.int .i64 100), .val (.int .i64 0), .val (.int .i64 9), .val (.int .i64 1), .val (.int .i64 200), .val (.int .i64 1)] 3 none), .d (.dl [.val (.int .i64 1), .val (.int .u8 2), .val (.int .i64 300), .val (.int .i64 9), .val (.int .i64 0), .val (.int .i64 2), .val (.int .u8 2), .val (.int .i64 300), .val (.int .i64 7), .val (.int .i64 0)] 2 none), .d (.val (.int .i64 5)), .d (.val (.int .i64 60000)), .d (.val (.int .i64 10000)), .d (.val (.int .i64 2000)), .d (.val (.int .i64 300))], .d (.val (.bool true))]
theorem example_o : DoesO Try.prog (fun _ => none) 52 [] [] exampleV [] :=
  runs_told KK tabL_ok noC_ok Try.func52 rfl 10000 (fun R => by kernel_rfl)
end Go.Proofs.Ytkmfgldoljegoaa
