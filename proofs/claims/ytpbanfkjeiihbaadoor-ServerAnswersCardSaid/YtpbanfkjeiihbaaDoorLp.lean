import Derived.Test.YtpbanfkjeiihbaaDoorFp
import Derived.Test.YtpbanfkjeiihbaaDoorXBp
namespace Go.Proofs.YtpbanfkjeiihbaaDoor
open Go.RowKit
set_option maxRecDepth 1000000
theorem noC_okG : ∀ f args rd v us rds, noC f args rd = some (v, us, rds) → fnOk Tryd.prog f = true ∧ Does Tryd.prog noG f args rds v us rd := fun _ _ _ _ _ _ h => by cases h
theorem lives_o : DoesO Tryd.prog noG 13 [] [] (aBool true) [] :=
  runs_true KK tabL_ok noC_okG Tryd.func13 rfl 10000 (by kernel_rfl)
end Go.Proofs.YtpbanfkjeiihbaaDoor
