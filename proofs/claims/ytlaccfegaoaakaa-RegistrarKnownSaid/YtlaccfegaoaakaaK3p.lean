import Derived.Test.YtlaccfegaoaakaaK4p
namespace Go.Proofs.Ytlaccfegaoaakaa
open Go.RowKit
set_option maxRecDepth 1000000
theorem known_o : DoesO Try.prog (fun _ => none) 6 [] [] (aBool true) [] :=
  runs_true KK tabL_ok knownD_ok Try.func6 rfl 10000 (by kernel_rfl)
end Go.Proofs.Ytlaccfegaoaakaa
