import Derived.Test.YtlaccfegaoaakaaA0p
set_option linter.unusedSectionVars false
set_option linter.unusedSimpArgs false
set_option linter.unusedVariables false
namespace Go.Proofs.Ytlaccfegaoaakaa
open Go.RowKit
set_option maxRecDepth 1000000
theorem lives_o:DoesO Try.prog (fun _=>none) 9 [] [] (aBool true) [] :=
 runs_true KK tabL_ok cloneC_ok Try.func9 rfl 10000 (by kernel_rfl)
end Go.Proofs.Ytlaccfegaoaakaa
