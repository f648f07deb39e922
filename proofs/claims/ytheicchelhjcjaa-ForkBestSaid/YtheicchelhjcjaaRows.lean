/-
  No cell of these rows narrows 'for every input' (looked for: loops, veiled, ifaces, maps, wideKeys, modest, calm, conditions, laid).
  DERIVED. THE GIVEN ROWS OF THIS SEAT. 8 by the template 'for every input the law returns true; each argument reads behind the call as it read before'; 0 by the template 'total and deterministic' (their statements: YtheicchelhjcjaaTotals.lean).
  GIVEN WITH THE SEED: the statements are not yours to turn. If you find one false, say at which input.
  Laid BY PROGRAM, IN A SANDBOX (cutbox-rows.mjs): the forced cells as the released guide's own fill.sh prints them over the translation 213e7804eb62d31d… (all of the seat's roots in one cut). By AI agents, Wed Nov 11 2026. No macro, syntax, notation, axiom, sorry.
-/
import Derived.Test.YtheicchelhjcjaaChecked
import GoSem.Claim
import GoSem.ClaimJoined
import GoSem.ClaimMapViews
import Derived.JoinedTies
import Derived.KernelRfl
namespace Go.Proofs.Ytheicchelhjcjaa
/- THE CELL 'sum', in the pinned program and in every row, IS THE sha256 OF THE DUMP (.gsa) THAT YtheicchelhjcjaaProg.lean LOADS. Nothing in Lean hashes anything: it is a label: what it is worth is what the hold of that sum in a sandbox is worth. -/
noncomputable def Try.pinned : Pinned := { name := "ytheicchelhjcjaa", sum := "213e7804eb62d31d1adbb3b2a681ae35b819833bdd248f9e6e24591e657687bb", checked := Try.checked }
namespace Rows
def none {H : Type} : Left H := { results := [], args := [] }

/-- 'dialtonelaw23.ForkNews': WHATEVER THE INPUT: true; the input reads as it did. -/
def forkNewsSpec : ChangeSpec := { name := "forkNews", fn := fun _ => fun
  | [d] => { results := [.lit (.bool true)], args := [d] }
  | _ => none }
def forkNewsRow : OpenClaim := { program := "ytheicchelhjcjaa", sum := "213e7804eb62d31d1adbb3b2a681ae35b819833bdd248f9e6e24591e657687bb", func := "dialtone/dialtonelaw23.ForkNews", spec := "forkNews", unfollowed := true, recurses := true, apart := false }
def ForkNewsSaid : Prop := forkNewsRow.holds Try.pinned (OpenSpec.ofChange forkNewsSpec)

/-- ITS FALSE NEIGHBOUR: 'it returns false'. Refute it at one input. -/
def forkNewsWrong : ChangeSpec := { name := "forkNews", fn := fun _ => fun
  | [d] => { results := [.lit (.bool false)], args := [d] }
  | _ => none }
def ForkNewsWrongFalsely : Prop := forkNewsRow.holds Try.pinned (OpenSpec.ofChange forkNewsWrong)

/-- 'dialtonelaw23.ForkSteps': WHATEVER THE INPUT: true; the input reads as it did. -/
def forkStepsSpec : ChangeSpec := { name := "forkSteps", fn := fun _ => fun
  | [d1, d2] => { results := [.lit (.bool true)], args := [d1, d2] }
  | _ => none }
def forkStepsRow : OpenClaim := { program := "ytheicchelhjcjaa", sum := "213e7804eb62d31d1adbb3b2a681ae35b819833bdd248f9e6e24591e657687bb", func := "dialtone/dialtonelaw23.ForkSteps", spec := "forkSteps", unfollowed := true, recurses := true, apart := false }
def ForkStepsSaid : Prop := forkStepsRow.holds Try.pinned (OpenSpec.ofChange forkStepsSpec)

/-- ITS FALSE NEIGHBOUR: 'it returns false'. Refute it at one input. -/
def forkStepsWrong : ChangeSpec := { name := "forkSteps", fn := fun _ => fun
  | [d1, d2] => { results := [.lit (.bool false)], args := [d1, d2] }
  | _ => none }
def ForkStepsWrongFalsely : Prop := forkStepsRow.holds Try.pinned (OpenSpec.ofChange forkStepsWrong)

/-- 'dialtonelaw23.ForkRuns': WHATEVER THE INPUT: true; the input reads as it did. -/
def forkRunsSpec : ChangeSpec := { name := "forkRuns", fn := fun _ => fun
  | [d1, d2] => { results := [.lit (.bool true)], args := [d1, d2] }
  | _ => none }
def forkRunsRow : OpenClaim := { program := "ytheicchelhjcjaa", sum := "213e7804eb62d31d1adbb3b2a681ae35b819833bdd248f9e6e24591e657687bb", func := "dialtone/dialtonelaw23.ForkRuns", spec := "forkRuns", unfollowed := true, recurses := true, apart := false }
def ForkRunsSaid : Prop := forkRunsRow.holds Try.pinned (OpenSpec.ofChange forkRunsSpec)

/-- ITS FALSE NEIGHBOUR: 'it returns false'. Refute it at one input. -/
def forkRunsWrong : ChangeSpec := { name := "forkRuns", fn := fun _ => fun
  | [d1, d2] => { results := [.lit (.bool false)], args := [d1, d2] }
  | _ => none }
def ForkRunsWrongFalsely : Prop := forkRunsRow.holds Try.pinned (OpenSpec.ofChange forkRunsWrong)

/-- 'dialtonelaw23.ForkOne': WHATEVER THE INPUT: true; the input reads as it did. -/
def forkOneSpec : ChangeSpec := { name := "forkOne", fn := fun _ => fun
  | [d1, d2] => { results := [.lit (.bool true)], args := [d1, d2] }
  | _ => none }
def forkOneRow : OpenClaim := { program := "ytheicchelhjcjaa", sum := "213e7804eb62d31d1adbb3b2a681ae35b819833bdd248f9e6e24591e657687bb", func := "dialtone/dialtonelaw23.ForkOne", spec := "forkOne", unfollowed := true, recurses := true, apart := false }
def ForkOneSaid : Prop := forkOneRow.holds Try.pinned (OpenSpec.ofChange forkOneSpec)

/-- ITS FALSE NEIGHBOUR: 'it returns false'. Refute it at one input. -/
def forkOneWrong : ChangeSpec := { name := "forkOne", fn := fun _ => fun
  | [d1, d2] => { results := [.lit (.bool false)], args := [d1, d2] }
  | _ => none }
def ForkOneWrongFalsely : Prop := forkOneRow.holds Try.pinned (OpenSpec.ofChange forkOneWrong)

/-- 'dialtonelaw23.ForkStops': WHATEVER THE INPUT: true; the input reads as it did. -/
def forkStopsSpec : ChangeSpec := { name := "forkStops", fn := fun _ => fun
  | [d1, d2] => { results := [.lit (.bool true)], args := [d1, d2] }
  | _ => none }
def forkStopsRow : OpenClaim := { program := "ytheicchelhjcjaa", sum := "213e7804eb62d31d1adbb3b2a681ae35b819833bdd248f9e6e24591e657687bb", func := "dialtone/dialtonelaw23.ForkStops", spec := "forkStops", unfollowed := true, recurses := true, apart := false }
def ForkStopsSaid : Prop := forkStopsRow.holds Try.pinned (OpenSpec.ofChange forkStopsSpec)

/-- ITS FALSE NEIGHBOUR: 'it returns false'. Refute it at one input. -/
def forkStopsWrong : ChangeSpec := { name := "forkStops", fn := fun _ => fun
  | [d1, d2] => { results := [.lit (.bool false)], args := [d1, d2] }
  | _ => none }
def ForkStopsWrongFalsely : Prop := forkStopsRow.holds Try.pinned (OpenSpec.ofChange forkStopsWrong)

/-- 'dialtonelaw23.ForkOrder': WHATEVER THE INPUT: true; the input reads as it did. -/
def forkOrderSpec : ChangeSpec := { name := "forkOrder", fn := fun _ => fun
  | [d1, d2] => { results := [.lit (.bool true)], args := [d1, d2] }
  | _ => none }
def forkOrderRow : OpenClaim := { program := "ytheicchelhjcjaa", sum := "213e7804eb62d31d1adbb3b2a681ae35b819833bdd248f9e6e24591e657687bb", func := "dialtone/dialtonelaw23.ForkOrder", spec := "forkOrder", unfollowed := true, recurses := true, apart := false }
def ForkOrderSaid : Prop := forkOrderRow.holds Try.pinned (OpenSpec.ofChange forkOrderSpec)

/-- ITS FALSE NEIGHBOUR: 'it returns false'. Refute it at one input. -/
def forkOrderWrong : ChangeSpec := { name := "forkOrder", fn := fun _ => fun
  | [d1, d2] => { results := [.lit (.bool false)], args := [d1, d2] }
  | _ => none }
def ForkOrderWrongFalsely : Prop := forkOrderRow.holds Try.pinned (OpenSpec.ofChange forkOrderWrong)

/-- 'dialtonelaw23.ForkBest': WHATEVER THE INPUT: true; the input reads as it did. -/
def forkBestSpec : ChangeSpec := { name := "forkBest", fn := fun _ => fun
  | [d1, d2] => { results := [.lit (.bool true)], args := [d1, d2] }
  | _ => none }
def forkBestRow : OpenClaim := { program := "ytheicchelhjcjaa", sum := "213e7804eb62d31d1adbb3b2a681ae35b819833bdd248f9e6e24591e657687bb", func := "dialtone/dialtonelaw23.ForkBest", spec := "forkBest", unfollowed := true, recurses := true, apart := false }
def ForkBestSaid : Prop := forkBestRow.holds Try.pinned (OpenSpec.ofChange forkBestSpec)

/-- ITS FALSE NEIGHBOUR: 'it returns false'. Refute it at one input. -/
def forkBestWrong : ChangeSpec := { name := "forkBest", fn := fun _ => fun
  | [d1, d2] => { results := [.lit (.bool false)], args := [d1, d2] }
  | _ => none }
def ForkBestWrongFalsely : Prop := forkBestRow.holds Try.pinned (OpenSpec.ofChange forkBestWrong)

/-- 'dialtonelaw23.ForkKnown': WHATEVER THE INPUT: true; the input reads as it did. -/
def forkKnownSpec : ChangeSpec := { name := "forkKnown", fn := fun _ => fun
  | [] => { results := [.lit (.bool true)], args := [] }
  | _ => none }
def forkKnownRow : OpenClaim := { program := "ytheicchelhjcjaa", sum := "213e7804eb62d31d1adbb3b2a681ae35b819833bdd248f9e6e24591e657687bb", func := "dialtone/dialtonelaw23.ForkKnown", spec := "forkKnown", unfollowed := true, recurses := true, apart := false }
def ForkKnownSaid : Prop := forkKnownRow.holds Try.pinned (OpenSpec.ofChange forkKnownSpec)

/-- ITS FALSE NEIGHBOUR: 'it returns false'. Refute it at one input. -/
def forkKnownWrong : ChangeSpec := { name := "forkKnown", fn := fun _ => fun
  | [] => { results := [.lit (.bool false)], args := [] }
  | _ => none }
def ForkKnownWrongFalsely : Prop := forkKnownRow.holds Try.pinned (OpenSpec.ofChange forkKnownWrong)

/- THE SECOND FORM. 'bulk': how many values and letters a reading holds, each counted each time it is reached (what is shared counts as often as it is met; a slice's spare places count too). A statement '..UptoSaid' is the law's where the arguments, and the package variables that the reading takes, are together of bulk at most 1048576: NARROWER than '..Said'. Prove '..Said' where nothing that the law and all that it calls make is longer than what came in: it says more and counts as full. Else prove '..UptoSaid'. A law counts once. -/
mutual
def uptoBulk {H : Type} : DataW H → Nat
  | .lit (.string bytes) => bytes.length + 1
  | .lit _ => 1
  | .nil => 1
  | .ptr d => uptoBulk d + 1
  | .slice elems spare => uptoBulkAll elems + uptoBulkAll spare + 1
  | .agg parts => uptoBulkAll parts + 1
  | .iface _ d => uptoBulk d + 1
  | .map entries => uptoBulkEntries entries + 1
  | .held _ => 1
def uptoBulkAll {H : Type} : List (DataW H) → Nat
  | [] => 0
  | d :: r => uptoBulk d + uptoBulkAll r
def uptoBulkEntries {H : Type} : List (Lit × DataW H) → Nat
  | [] => 0
  | x :: r => uptoBulkEntry x + uptoBulkEntries r
def uptoBulkEntry {H : Type} : Lit × DataW H → Nat
  | (.string bytes, d) => bytes.length + uptoBulk d + 1
  | (_, d) => uptoBulk d + 1
 end
def uptoSmall : (H : Type) → List (DataW H) → Bool := fun _ ds => decide (uptoBulkAll ds ≤ 1048576)
def OpenSpec.upto (s : _root_.Go.ChangeSpec) : _root_.Go.OpenSpec := { _root_.Go.OpenSpec.ofChange s with cond := some uptoSmall }

/-- 'dialtonelaw23.ForkNews', WHERE WHAT IT READS IS OF BULK AT MOST 1048576: true; the input reads as it did. -/
def forkNewsUptoRow : OpenClaim := { program := "ytheicchelhjcjaa", sum := "213e7804eb62d31d1adbb3b2a681ae35b819833bdd248f9e6e24591e657687bb", func := "dialtone/dialtonelaw23.ForkNews", spec := "forkNews", unfollowed := true, recurses := true, apart := false, narrowed := true }
def ForkNewsUptoSaid : Prop := forkNewsUptoRow.holds Try.pinned (OpenSpec.upto forkNewsSpec)

/-- 'dialtonelaw23.ForkSteps', WHERE WHAT IT READS IS OF BULK AT MOST 1048576: true; the input reads as it did. -/
def forkStepsUptoRow : OpenClaim := { program := "ytheicchelhjcjaa", sum := "213e7804eb62d31d1adbb3b2a681ae35b819833bdd248f9e6e24591e657687bb", func := "dialtone/dialtonelaw23.ForkSteps", spec := "forkSteps", unfollowed := true, recurses := true, apart := false, narrowed := true }
def ForkStepsUptoSaid : Prop := forkStepsUptoRow.holds Try.pinned (OpenSpec.upto forkStepsSpec)

/-- 'dialtonelaw23.ForkRuns', WHERE WHAT IT READS IS OF BULK AT MOST 1048576: true; the input reads as it did. -/
def forkRunsUptoRow : OpenClaim := { program := "ytheicchelhjcjaa", sum := "213e7804eb62d31d1adbb3b2a681ae35b819833bdd248f9e6e24591e657687bb", func := "dialtone/dialtonelaw23.ForkRuns", spec := "forkRuns", unfollowed := true, recurses := true, apart := false, narrowed := true }
def ForkRunsUptoSaid : Prop := forkRunsUptoRow.holds Try.pinned (OpenSpec.upto forkRunsSpec)

/-- 'dialtonelaw23.ForkOne', WHERE WHAT IT READS IS OF BULK AT MOST 1048576: true; the input reads as it did. -/
def forkOneUptoRow : OpenClaim := { program := "ytheicchelhjcjaa", sum := "213e7804eb62d31d1adbb3b2a681ae35b819833bdd248f9e6e24591e657687bb", func := "dialtone/dialtonelaw23.ForkOne", spec := "forkOne", unfollowed := true, recurses := true, apart := false, narrowed := true }
def ForkOneUptoSaid : Prop := forkOneUptoRow.holds Try.pinned (OpenSpec.upto forkOneSpec)

/-- 'dialtonelaw23.ForkStops', WHERE WHAT IT READS IS OF BULK AT MOST 1048576: true; the input reads as it did. -/
def forkStopsUptoRow : OpenClaim := { program := "ytheicchelhjcjaa", sum := "213e7804eb62d31d1adbb3b2a681ae35b819833bdd248f9e6e24591e657687bb", func := "dialtone/dialtonelaw23.ForkStops", spec := "forkStops", unfollowed := true, recurses := true, apart := false, narrowed := true }
def ForkStopsUptoSaid : Prop := forkStopsUptoRow.holds Try.pinned (OpenSpec.upto forkStopsSpec)

/-- 'dialtonelaw23.ForkOrder', WHERE WHAT IT READS IS OF BULK AT MOST 1048576: true; the input reads as it did. -/
def forkOrderUptoRow : OpenClaim := { program := "ytheicchelhjcjaa", sum := "213e7804eb62d31d1adbb3b2a681ae35b819833bdd248f9e6e24591e657687bb", func := "dialtone/dialtonelaw23.ForkOrder", spec := "forkOrder", unfollowed := true, recurses := true, apart := false, narrowed := true }
def ForkOrderUptoSaid : Prop := forkOrderUptoRow.holds Try.pinned (OpenSpec.upto forkOrderSpec)

/-- 'dialtonelaw23.ForkBest', WHERE WHAT IT READS IS OF BULK AT MOST 1048576: true; the input reads as it did. -/
def forkBestUptoRow : OpenClaim := { program := "ytheicchelhjcjaa", sum := "213e7804eb62d31d1adbb3b2a681ae35b819833bdd248f9e6e24591e657687bb", func := "dialtone/dialtonelaw23.ForkBest", spec := "forkBest", unfollowed := true, recurses := true, apart := false, narrowed := true }
def ForkBestUptoSaid : Prop := forkBestUptoRow.holds Try.pinned (OpenSpec.upto forkBestSpec)

/-- 'dialtonelaw23.ForkKnown', WHERE WHAT IT READS IS OF BULK AT MOST 1048576: true; the input reads as it did. -/
def forkKnownUptoRow : OpenClaim := { program := "ytheicchelhjcjaa", sum := "213e7804eb62d31d1adbb3b2a681ae35b819833bdd248f9e6e24591e657687bb", func := "dialtone/dialtonelaw23.ForkKnown", spec := "forkKnown", unfollowed := true, recurses := true, apart := false, narrowed := true }
def ForkKnownUptoSaid : Prop := forkKnownUptoRow.holds Try.pinned (OpenSpec.upto forkKnownSpec)

end Rows
end Go.Proofs.Ytheicchelhjcjaa
