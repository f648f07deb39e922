import Derived.Test.YtkmfgldoljegoaaQ3p
set_option linter.unusedVariables false
namespace Go.Proofs.Ytkmfgldoljegoaa
open Go.RowKit
theorem raw_main (a : (Qt × (Int × (Int × (Int × Int))))) (h : WfIs [(.tmp 0 true [(.dat (.list (.pair (.int .i64) (.pair (.int .i64) (.pair (.int .i64) (.int .i64)))))), (.dat (.list (.pair (.int .i64) (.pair (.int .u8) (.pair (.int .i64) (.pair (.int .i64) (.int .i64))))))), (.dat (.int .i64)), (.dat (.int .i64)), (.dat (.int .i64)), (.dat (.int .i64)), (.dat (.int .i64))]), (.tmp 1 true [(.dat (.int .u8)), (.dat (.int .i64)), (.dat (.int .i64)), (.dat (.int .i64))])] a) : dialtonelaw36_QueuesRaw a = some true :=
  raw_j a h.1.1.1 h.1.2.1.1 (wfU8 h.2.1.1)
end Go.Proofs.Ytkmfgldoljegoaa
