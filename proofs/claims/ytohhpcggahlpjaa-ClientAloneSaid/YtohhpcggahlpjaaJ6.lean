/- ClientAlone's law. -/
import Derived.Test.YtohhpcggahlpjaaJ5
namespace Go.Proofs.Ytohhpcggahlpjaa
open Go.RowKit
theorem alone_main (a : Int) (hw : WfIs [(.tmp 0 false [(.dat (.int .u16))])] a) : dialtonelaw13_ClientAlone a = some true := by
  have h : 0 ≤ a ∧ a ≤ 65535 := wfU16 hw.1.1
  exact alone_all a (by omega) (by omega)
end Go.Proofs.Ytohhpcggahlpjaa
