import Derived.Test.YtlaccfegaoaakaaK3p
import Derived.Test.YtlaccfegaoaakaaXBp
import Derived.Test.YtlaccfegaoaakaaY1p
namespace Go.Proofs.Ytlaccfegaoaakaa
theorem known_main (a : Unit) (_ : WfIs [] a) : (fun _ : Unit => some true) a = some true := rfl
end Go.Proofs.Ytlaccfegaoaakaa
