/- Chapter 36: the examples and limits. -/
import Derived.Test.YtkmfgldoljegoaaL
import Derived.Test.YtkmfgldoljegoaaL1
import Derived.Test.YtkmfgldoljegoaaL3
namespace Go.Proofs.Ytkmfgldoljegoaa
open Go.RowKit
set_option maxRecDepth 1000000
def exC : ConK := orC (closedC [(14, aBool true), (52, exampleV)]) (litC [(25, advA, advV)])
theorem exC_ok : ∀ f args rd v us rds, exC f args rd = some (v, us, rds) → fnOk Try.prog f = true ∧ Does Try.prog (fun _ => none) f args rds v us rd := orC_ok (closedC_ok ⟨⟨by kernel_rfl, works_o⟩, ⟨by kernel_rfl, example_o⟩, trivial⟩) (litC_ok ⟨⟨by kernel_rfl, adv_o, rfl⟩, trivial⟩)
theorem known_o : DoesO Try.prog (fun _ => none) 9 [] [] (aBool true) [] :=
  runs_true KK tabL_ok exC_ok Try.func9 rfl 10000 (by kernel_rfl)
end Go.Proofs.Ytkmfgldoljegoaa
