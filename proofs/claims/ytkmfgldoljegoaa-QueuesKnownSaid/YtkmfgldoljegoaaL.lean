/- Chapter 36: the examples of the chapter. -/
import Derived.Test.YtkmfgldoljegoaaF
import Derived.Test.YtkmfgldoljegoaaH36
namespace Go.Proofs.Ytkmfgldoljegoaa
open Go.RowKit
set_option maxRecDepth 1000000
theorem works_o : DoesO Try.prog (fun _ => none) 14 [] [] (aBool true) [] :=
  runs_true KK tabL_ok noC_ok Try.func14 rfl 10000 (by kernel_rfl)
def worksC : ConK := closedC [(14, aBool true)]
theorem worksC_ok : ∀ f args rd v us rds, worksC f args rd = some (v, us, rds) → fnOk Try.prog f = true ∧ Does Try.prog (fun _ => none) f args rds v us rd := closedC_ok ⟨⟨by kernel_rfl, works_o⟩, trivial⟩
end Go.Proofs.Ytkmfgldoljegoaa
