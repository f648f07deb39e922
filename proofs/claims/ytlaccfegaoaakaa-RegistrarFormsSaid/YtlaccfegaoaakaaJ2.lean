/- Chapter 22, plain: the law of forms. -/
import Derived.Test.YtlaccfegaoaakaaJ1
import Derived.Test.YtlaccfegaoaakaaL
set_option linter.unusedVariables false
namespace Go.Proofs.Ytlaccfegaoaakaa
open Go.RowKit

abbrev Rg := Tx × (Tx × (Int × (Bool × (List Ct × (Int × (Tx × (Int × List Tx)))))))
theorem forms_main (a : (Int × (Int × (Int × Int))) × Rg) (_ : WfIs [(.tmp 0 true [(.dat (.int .i64)), (.dat (.int .i64)), (.dat (.int .i64)), (.dat (.int .i64))]), (.tmp 1 true [(.dat .str), (.dat .str), (.dat (.int .i64)), (.dat .bool), (.dat (.list (.pair .str (.pair (.int .i64) (.int .i64))))), (.dat (.int .i64)), (.dat .str), (.dat (.int .i64)), (.dat (.list .str))])] a) : dialtonelaw22_RegistrarForms a = some true := forms_j a.1.1 a.1.2.1 a.1.2.2.1 a.1.2.2.2 a.2.1 a.2.2.1 a.2.2.2.1 a.2.2.2.2.1 a.2.2.2.2.2.1 a.2.2.2.2.2.2.1 a.2.2.2.2.2.2.2.1 a.2.2.2.2.2.2.2.2.1 a.2.2.2.2.2.2.2.2.2
end Go.Proofs.Ytlaccfegaoaakaa
