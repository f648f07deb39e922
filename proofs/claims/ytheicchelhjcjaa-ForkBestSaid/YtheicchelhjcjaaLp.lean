import Derived.Test.YtheicchelhjcjaaA0p
namespace Go.Proofs.Ytheicchelhjcjaa
open Go.RowKit
set_option maxRecDepth 1000000
theorem live_o : DoesO Try.prog (fun _ => none) 19 [] [] (aBool true) [] :=
  runs_true KK tabL_ok cloneC_ok Try.func19 rfl 10000 (by kernel_rfl)
theorem known_o : DoesO Try.prog (fun _ => none) 10 [] [] (aBool true) [] :=
  runs_true KK tabL_ok cloneC_ok Try.func10 rfl 10000 (by kernel_rfl)
theorem noSym : ConOk Try.prog 62 ⟨[], riB, fun _ => none⟩ := ⟨by kernel_rfl, fun a r h => by cases h⟩
end Go.Proofs.Ytheicchelhjcjaa
