/-
  No cell of these rows narrows 'for every input' (looked for: loops, veiled, ifaces, maps, wideKeys, modest, calm, conditions, laid).
  DERIVED. THE GIVEN ROWS OF THIS SEAT. 6 by the template 'for every input the law returns true; each argument reads behind the call as it read before'; 0 by the template 'total and deterministic' (their statements: YtohhpcggahlpjaaTotals.lean).
  GIVEN WITH THE SEED: the statements are not yours to turn. If you find one false, say at which input.
  Laid BY PROGRAM, IN A SANDBOX (cutbox-rows.mjs): the forced cells as the released guide's own fill.sh prints them over the translation 3226fdfbdb7863f2… (all of the seat's roots in one cut). By AI agents, Wed Nov 11 2026. No macro, syntax, notation, axiom, sorry.
-/
import Derived.Test.YtohhpcggahlpjaaChecked
import GoSem.Claim
import GoSem.ClaimJoined
import GoSem.ClaimMapViews
import Derived.JoinedTies
import Derived.KernelRfl
namespace Go.Proofs.Ytohhpcggahlpjaa
/- THE CELL 'sum', in the pinned program and in every row, IS THE sha256 OF THE DUMP (.gsa) THAT YtohhpcggahlpjaaProg.lean LOADS. Nothing in Lean hashes anything: it is a label: what it is worth is what the hold of that sum in a sandbox is worth. -/
noncomputable def Try.pinned : Pinned := { name := "ytohhpcggahlpjaa", sum := "3226fdfbdb7863f27e1099bdf2f2ab011d2ce0e1a84c9698ea2ce6244b7d3e63", checked := Try.checked }
namespace Rows
def none {H : Type} : Left H := { results := [], args := [] }

/-- 'dialtonelaw13.ClientTable': WHATEVER THE INPUT: true; the input reads as it did. -/
def clientTableSpec : ChangeSpec := { name := "clientTable", fn := fun _ => fun
  | [] => { results := [.lit (.bool true)], args := [] }
  | _ => none }
def clientTableRow : OpenClaim := { program := "ytohhpcggahlpjaa", sum := "3226fdfbdb7863f27e1099bdf2f2ab011d2ce0e1a84c9698ea2ce6244b7d3e63", func := "dialtone/dialtonelaw13.ClientTable", spec := "clientTable", unfollowed := true, recurses := true, apart := false }
def ClientTableSaid : Prop := clientTableRow.holds Try.pinned (OpenSpec.ofChange clientTableSpec)

/-- ITS FALSE NEIGHBOUR: 'it returns false'. Refute it at one input. -/
def clientTableWrong : ChangeSpec := { name := "clientTable", fn := fun _ => fun
  | [] => { results := [.lit (.bool false)], args := [] }
  | _ => none }
def ClientTableWrongFalsely : Prop := clientTableRow.holds Try.pinned (OpenSpec.ofChange clientTableWrong)

/-- 'dialtonelaw13.ClientOne': WHATEVER THE INPUT: true; the input reads as it did. -/
def clientOneSpec : ChangeSpec := { name := "clientOne", fn := fun _ => fun
  | [d] => { results := [.lit (.bool true)], args := [d] }
  | _ => none }
def clientOneRow : OpenClaim := { program := "ytohhpcggahlpjaa", sum := "3226fdfbdb7863f27e1099bdf2f2ab011d2ce0e1a84c9698ea2ce6244b7d3e63", func := "dialtone/dialtonelaw13.ClientOne", spec := "clientOne", unfollowed := true, recurses := true, apart := false }
def ClientOneSaid : Prop := clientOneRow.holds Try.pinned (OpenSpec.ofChange clientOneSpec)

/-- ITS FALSE NEIGHBOUR: 'it returns false'. Refute it at one input. -/
def clientOneWrong : ChangeSpec := { name := "clientOne", fn := fun _ => fun
  | [d] => { results := [.lit (.bool false)], args := [d] }
  | _ => none }
def ClientOneWrongFalsely : Prop := clientOneRow.holds Try.pinned (OpenSpec.ofChange clientOneWrong)

/-- 'dialtonelaw13.ClientSteps': WHATEVER THE INPUT: true; the input reads as it did. -/
def clientStepsSpec : ChangeSpec := { name := "clientSteps", fn := fun _ => fun
  | [d1, d2, d3] => { results := [.lit (.bool true)], args := [d1, d2, d3] }
  | _ => none }
def clientStepsRow : OpenClaim := { program := "ytohhpcggahlpjaa", sum := "3226fdfbdb7863f27e1099bdf2f2ab011d2ce0e1a84c9698ea2ce6244b7d3e63", func := "dialtone/dialtonelaw13.ClientSteps", spec := "clientSteps", unfollowed := true, recurses := true, apart := false }
def ClientStepsSaid : Prop := clientStepsRow.holds Try.pinned (OpenSpec.ofChange clientStepsSpec)

/-- ITS FALSE NEIGHBOUR: 'it returns false'. Refute it at one input. -/
def clientStepsWrong : ChangeSpec := { name := "clientSteps", fn := fun _ => fun
  | [d1, d2, d3] => { results := [.lit (.bool false)], args := [d1, d2, d3] }
  | _ => none }
def ClientStepsWrongFalsely : Prop := clientStepsRow.holds Try.pinned (OpenSpec.ofChange clientStepsWrong)

/-- 'dialtonelaw13.ClientAlone': WHATEVER THE INPUT: true; the input reads as it did. -/
def clientAloneSpec : ChangeSpec := { name := "clientAlone", fn := fun _ => fun
  | [d] => { results := [.lit (.bool true)], args := [d] }
  | _ => none }
def clientAloneRow : OpenClaim := { program := "ytohhpcggahlpjaa", sum := "3226fdfbdb7863f27e1099bdf2f2ab011d2ce0e1a84c9698ea2ce6244b7d3e63", func := "dialtone/dialtonelaw13.ClientAlone", spec := "clientAlone", unfollowed := true, recurses := true, apart := false }
def ClientAloneSaid : Prop := clientAloneRow.holds Try.pinned (OpenSpec.ofChange clientAloneSpec)

/-- ITS FALSE NEIGHBOUR: 'it returns false'. Refute it at one input. -/
def clientAloneWrong : ChangeSpec := { name := "clientAlone", fn := fun _ => fun
  | [d] => { results := [.lit (.bool false)], args := [d] }
  | _ => none }
def ClientAloneWrongFalsely : Prop := clientAloneRow.holds Try.pinned (OpenSpec.ofChange clientAloneWrong)

/-- 'dialtonelaw13.ClientSlow': WHATEVER THE INPUT: true; the input reads as it did. -/
def clientSlowSpec : ChangeSpec := { name := "clientSlow", fn := fun _ => fun
  | [d] => { results := [.lit (.bool true)], args := [d] }
  | _ => none }
def clientSlowRow : OpenClaim := { program := "ytohhpcggahlpjaa", sum := "3226fdfbdb7863f27e1099bdf2f2ab011d2ce0e1a84c9698ea2ce6244b7d3e63", func := "dialtone/dialtonelaw13.ClientSlow", spec := "clientSlow", unfollowed := true, recurses := true, apart := false }
def ClientSlowSaid : Prop := clientSlowRow.holds Try.pinned (OpenSpec.ofChange clientSlowSpec)

/-- ITS FALSE NEIGHBOUR: 'it returns false'. Refute it at one input. -/
def clientSlowWrong : ChangeSpec := { name := "clientSlow", fn := fun _ => fun
  | [d] => { results := [.lit (.bool false)], args := [d] }
  | _ => none }
def ClientSlowWrongFalsely : Prop := clientSlowRow.holds Try.pinned (OpenSpec.ofChange clientSlowWrong)

/-- 'dialtonelaw13.ClientKnown': WHATEVER THE INPUT: true; the input reads as it did. -/
def clientKnownSpec : ChangeSpec := { name := "clientKnown", fn := fun _ => fun
  | [] => { results := [.lit (.bool true)], args := [] }
  | _ => none }
def clientKnownRow : OpenClaim := { program := "ytohhpcggahlpjaa", sum := "3226fdfbdb7863f27e1099bdf2f2ab011d2ce0e1a84c9698ea2ce6244b7d3e63", func := "dialtone/dialtonelaw13.ClientKnown", spec := "clientKnown", unfollowed := true, recurses := true, apart := false }
def ClientKnownSaid : Prop := clientKnownRow.holds Try.pinned (OpenSpec.ofChange clientKnownSpec)

/-- ITS FALSE NEIGHBOUR: 'it returns false'. Refute it at one input. -/
def clientKnownWrong : ChangeSpec := { name := "clientKnown", fn := fun _ => fun
  | [] => { results := [.lit (.bool false)], args := [] }
  | _ => none }
def ClientKnownWrongFalsely : Prop := clientKnownRow.holds Try.pinned (OpenSpec.ofChange clientKnownWrong)

/- THE SECOND FORM. 'bulk': how many values and letters a reading holds, each counted each time it is reached (what is shared counts as often as it is met; a slice's spare places count too). A statement '..UptoSaid' is the law's where the arguments, and the package variables that the reading takes, are together of bulk at most 1048576: NARROWER than '..Said'. Prove '..Said' where nothing that the law and all that it calls make is longer than what came in: it says more and counts as full. Else prove '..UptoSaid'. A law counts once. -/
mutual
def uptoBulk {H : Type} : DataW H → Nat
  | .lit (.string bytes) => bytes.length + 1
  | .lit _ => 1
  | .nil => 1
  | .ptr d => uptoBulk d + 1
  | .slice elems spare => uptoBulkAll elems + uptoBulkAll spare + 1
  | .agg parts => uptoBulkAll parts + 1
  | .iface _ d => uptoBulk d + 1
  | .map entries => uptoBulkEntries entries + 1
  | .held _ => 1
def uptoBulkAll {H : Type} : List (DataW H) → Nat
  | [] => 0
  | d :: r => uptoBulk d + uptoBulkAll r
def uptoBulkEntries {H : Type} : List (Lit × DataW H) → Nat
  | [] => 0
  | x :: r => uptoBulkEntry x + uptoBulkEntries r
def uptoBulkEntry {H : Type} : Lit × DataW H → Nat
  | (.string bytes, d) => bytes.length + uptoBulk d + 1
  | (_, d) => uptoBulk d + 1
 end
def uptoSmall : (H : Type) → List (DataW H) → Bool := fun _ ds => decide (uptoBulkAll ds ≤ 1048576)
def OpenSpec.upto (s : _root_.Go.ChangeSpec) : _root_.Go.OpenSpec := { _root_.Go.OpenSpec.ofChange s with cond := some uptoSmall }

/-- 'dialtonelaw13.ClientTable', WHERE WHAT IT READS IS OF BULK AT MOST 1048576: true; the input reads as it did. -/
def clientTableUptoRow : OpenClaim := { program := "ytohhpcggahlpjaa", sum := "3226fdfbdb7863f27e1099bdf2f2ab011d2ce0e1a84c9698ea2ce6244b7d3e63", func := "dialtone/dialtonelaw13.ClientTable", spec := "clientTable", unfollowed := true, recurses := true, apart := false, narrowed := true }
def ClientTableUptoSaid : Prop := clientTableUptoRow.holds Try.pinned (OpenSpec.upto clientTableSpec)

/-- 'dialtonelaw13.ClientOne', WHERE WHAT IT READS IS OF BULK AT MOST 1048576: true; the input reads as it did. -/
def clientOneUptoRow : OpenClaim := { program := "ytohhpcggahlpjaa", sum := "3226fdfbdb7863f27e1099bdf2f2ab011d2ce0e1a84c9698ea2ce6244b7d3e63", func := "dialtone/dialtonelaw13.ClientOne", spec := "clientOne", unfollowed := true, recurses := true, apart := false, narrowed := true }
def ClientOneUptoSaid : Prop := clientOneUptoRow.holds Try.pinned (OpenSpec.upto clientOneSpec)

/-- 'dialtonelaw13.ClientSteps', WHERE WHAT IT READS IS OF BULK AT MOST 1048576: true; the input reads as it did. -/
def clientStepsUptoRow : OpenClaim := { program := "ytohhpcggahlpjaa", sum := "3226fdfbdb7863f27e1099bdf2f2ab011d2ce0e1a84c9698ea2ce6244b7d3e63", func := "dialtone/dialtonelaw13.ClientSteps", spec := "clientSteps", unfollowed := true, recurses := true, apart := false, narrowed := true }
def ClientStepsUptoSaid : Prop := clientStepsUptoRow.holds Try.pinned (OpenSpec.upto clientStepsSpec)

/-- 'dialtonelaw13.ClientAlone', WHERE WHAT IT READS IS OF BULK AT MOST 1048576: true; the input reads as it did. -/
def clientAloneUptoRow : OpenClaim := { program := "ytohhpcggahlpjaa", sum := "3226fdfbdb7863f27e1099bdf2f2ab011d2ce0e1a84c9698ea2ce6244b7d3e63", func := "dialtone/dialtonelaw13.ClientAlone", spec := "clientAlone", unfollowed := true, recurses := true, apart := false, narrowed := true }
def ClientAloneUptoSaid : Prop := clientAloneUptoRow.holds Try.pinned (OpenSpec.upto clientAloneSpec)

/-- 'dialtonelaw13.ClientSlow', WHERE WHAT IT READS IS OF BULK AT MOST 1048576: true; the input reads as it did. -/
def clientSlowUptoRow : OpenClaim := { program := "ytohhpcggahlpjaa", sum := "3226fdfbdb7863f27e1099bdf2f2ab011d2ce0e1a84c9698ea2ce6244b7d3e63", func := "dialtone/dialtonelaw13.ClientSlow", spec := "clientSlow", unfollowed := true, recurses := true, apart := false, narrowed := true }
def ClientSlowUptoSaid : Prop := clientSlowUptoRow.holds Try.pinned (OpenSpec.upto clientSlowSpec)

/-- 'dialtonelaw13.ClientKnown', WHERE WHAT IT READS IS OF BULK AT MOST 1048576: true; the input reads as it did. -/
def clientKnownUptoRow : OpenClaim := { program := "ytohhpcggahlpjaa", sum := "3226fdfbdb7863f27e1099bdf2f2ab011d2ce0e1a84c9698ea2ce6244b7d3e63", func := "dialtone/dialtonelaw13.ClientKnown", spec := "clientKnown", unfollowed := true, recurses := true, apart := false, narrowed := true }
def ClientKnownUptoSaid : Prop := clientKnownUptoRow.holds Try.pinned (OpenSpec.upto clientKnownSpec)

end Rows
end Go.Proofs.Ytohhpcggahlpjaa
