/-
  No cell of these rows narrows 'for every input' (looked for: loops, veiled, ifaces, maps, wideKeys, modest, calm, conditions, laid).
  DERIVED. THE GIVEN ROWS OF THIS SEAT. 8 by the template 'for every input the law returns true; each argument reads behind the call as it read before'; 0 by the template 'total and deterministic' (their statements: YtmkbnmjhkghdjaaTotals.lean).
  GIVEN WITH THE SEED: the statements are not yours to turn. If you find one false, say at which input.
  Laid BY PROGRAM, IN A SANDBOX (cutbox-rows.mjs): the forced cells as the released guide's own fill.sh prints them over the translation 4600cf4a3a89ec68… (all of the seat's roots in one cut). By AI agents, Wed Nov 11 2026. No macro, syntax, notation, axiom, sorry.
-/
import Derived.Test.YtmkbnmjhkghdjaaChecked
import GoSem.Claim
import GoSem.ClaimJoined
import GoSem.ClaimMapViews
import Derived.JoinedTies
import Derived.KernelRfl
namespace Go.Proofs.Ytmkbnmjhkghdjaa
/- THE CELL 'sum', in the pinned program and in every row, IS THE sha256 OF THE DUMP (.gsa) THAT YtmkbnmjhkghdjaaProg.lean LOADS. Nothing in Lean hashes anything: it is a label: what it is worth is what the hold of that sum in a sandbox is worth. -/
noncomputable def Try.pinned : Pinned := { name := "ytmkbnmjhkghdjaa", sum := "4600cf4a3a89ec68809879cd4c0800b19688405c0a84df0ed9261519d1245ef6", checked := Try.checked }
namespace Rows
def none {H : Type} : Left H := { results := [], args := [] }

/-- 'dialtonelaw20.JournalEncodes': WHATEVER THE INPUT: true; the input reads as it did. -/
def journalEncodesSpec : ChangeSpec := { name := "journalEncodes", fn := fun _ => fun
  | [d1, d2, d3] => { results := [.lit (.bool true)], args := [d1, d2, d3] }
  | _ => none }
def journalEncodesRow : OpenClaim := { program := "ytmkbnmjhkghdjaa", sum := "4600cf4a3a89ec68809879cd4c0800b19688405c0a84df0ed9261519d1245ef6", func := "dialtone/dialtonelaw20.JournalEncodes", spec := "journalEncodes", apart := false }
def JournalEncodesSaid : Prop := journalEncodesRow.holds Try.pinned (OpenSpec.ofChange journalEncodesSpec)

/-- ITS FALSE NEIGHBOUR: 'it returns false'. Refute it at one input. -/
def journalEncodesWrong : ChangeSpec := { name := "journalEncodes", fn := fun _ => fun
  | [d1, d2, d3] => { results := [.lit (.bool false)], args := [d1, d2, d3] }
  | _ => none }
def JournalEncodesWrongFalsely : Prop := journalEncodesRow.holds Try.pinned (OpenSpec.ofChange journalEncodesWrong)

/-- 'dialtonelaw20.JournalCuts': WHATEVER THE INPUT: true; the input reads as it did. -/
def journalCutsSpec : ChangeSpec := { name := "journalCuts", fn := fun _ => fun
  | [d1, d2] => { results := [.lit (.bool true)], args := [d1, d2] }
  | _ => none }
def journalCutsRow : OpenClaim := { program := "ytmkbnmjhkghdjaa", sum := "4600cf4a3a89ec68809879cd4c0800b19688405c0a84df0ed9261519d1245ef6", func := "dialtone/dialtonelaw20.JournalCuts", spec := "journalCuts", apart := false }
def JournalCutsSaid : Prop := journalCutsRow.holds Try.pinned (OpenSpec.ofChange journalCutsSpec)

/-- ITS FALSE NEIGHBOUR: 'it returns false'. Refute it at one input. -/
def journalCutsWrong : ChangeSpec := { name := "journalCuts", fn := fun _ => fun
  | [d1, d2] => { results := [.lit (.bool false)], args := [d1, d2] }
  | _ => none }
def JournalCutsWrongFalsely : Prop := journalCutsRow.holds Try.pinned (OpenSpec.ofChange journalCutsWrong)

/-- 'dialtonelaw20.JournalBits': WHATEVER THE INPUT: true; the input reads as it did. -/
def journalBitsSpec : ChangeSpec := { name := "journalBits", fn := fun _ => fun
  | [d1, d2] => { results := [.lit (.bool true)], args := [d1, d2] }
  | _ => none }
def journalBitsRow : OpenClaim := { program := "ytmkbnmjhkghdjaa", sum := "4600cf4a3a89ec68809879cd4c0800b19688405c0a84df0ed9261519d1245ef6", func := "dialtone/dialtonelaw20.JournalBits", spec := "journalBits", apart := false }
def JournalBitsSaid : Prop := journalBitsRow.holds Try.pinned (OpenSpec.ofChange journalBitsSpec)

/-- ITS FALSE NEIGHBOUR: 'it returns false'. Refute it at one input. -/
def journalBitsWrong : ChangeSpec := { name := "journalBits", fn := fun _ => fun
  | [d1, d2] => { results := [.lit (.bool false)], args := [d1, d2] }
  | _ => none }
def JournalBitsWrongFalsely : Prop := journalBitsRow.holds Try.pinned (OpenSpec.ofChange journalBitsWrong)

/-- 'dialtonelaw20.JournalBursts': WHATEVER THE INPUT: true; the input reads as it did. -/
def journalBurstsSpec : ChangeSpec := { name := "journalBursts", fn := fun _ => fun
  | [d1, d2, d3, d4] => { results := [.lit (.bool true)], args := [d1, d2, d3, d4] }
  | _ => none }
def journalBurstsRow : OpenClaim := { program := "ytmkbnmjhkghdjaa", sum := "4600cf4a3a89ec68809879cd4c0800b19688405c0a84df0ed9261519d1245ef6", func := "dialtone/dialtonelaw20.JournalBursts", spec := "journalBursts", apart := false }
def JournalBurstsSaid : Prop := journalBurstsRow.holds Try.pinned (OpenSpec.ofChange journalBurstsSpec)

/-- ITS FALSE NEIGHBOUR: 'it returns false'. Refute it at one input. -/
def journalBurstsWrong : ChangeSpec := { name := "journalBursts", fn := fun _ => fun
  | [d1, d2, d3, d4] => { results := [.lit (.bool false)], args := [d1, d2, d3, d4] }
  | _ => none }
def JournalBurstsWrongFalsely : Prop := journalBurstsRow.holds Try.pinned (OpenSpec.ofChange journalBurstsWrong)

/-- 'dialtonelaw20.JournalScans': WHATEVER THE INPUT: true; the input reads as it did. -/
def journalScansSpec : ChangeSpec := { name := "journalScans", fn := fun _ => fun
  | [d] => { results := [.lit (.bool true)], args := [d] }
  | _ => none }
def journalScansRow : OpenClaim := { program := "ytmkbnmjhkghdjaa", sum := "4600cf4a3a89ec68809879cd4c0800b19688405c0a84df0ed9261519d1245ef6", func := "dialtone/dialtonelaw20.JournalScans", spec := "journalScans", apart := false }
def JournalScansSaid : Prop := journalScansRow.holds Try.pinned (OpenSpec.ofChange journalScansSpec)

/-- ITS FALSE NEIGHBOUR: 'it returns false'. Refute it at one input. -/
def journalScansWrong : ChangeSpec := { name := "journalScans", fn := fun _ => fun
  | [d] => { results := [.lit (.bool false)], args := [d] }
  | _ => none }
def JournalScansWrongFalsely : Prop := journalScansRow.holds Try.pinned (OpenSpec.ofChange journalScansWrong)

/-- 'dialtonelaw20.JournalKnown': WHATEVER THE INPUT: true; the input reads as it did. -/
def journalKnownSpec : ChangeSpec := { name := "journalKnown", fn := fun _ => fun
  | [] => { results := [.lit (.bool true)], args := [] }
  | _ => none }
def journalKnownRow : OpenClaim := { program := "ytmkbnmjhkghdjaa", sum := "4600cf4a3a89ec68809879cd4c0800b19688405c0a84df0ed9261519d1245ef6", func := "dialtone/dialtonelaw20.JournalKnown", spec := "journalKnown", apart := false }
def JournalKnownSaid : Prop := journalKnownRow.holds Try.pinned (OpenSpec.ofChange journalKnownSpec)

/-- ITS FALSE NEIGHBOUR: 'it returns false'. Refute it at one input. -/
def journalKnownWrong : ChangeSpec := { name := "journalKnown", fn := fun _ => fun
  | [] => { results := [.lit (.bool false)], args := [] }
  | _ => none }
def JournalKnownWrongFalsely : Prop := journalKnownRow.holds Try.pinned (OpenSpec.ofChange journalKnownWrong)

/-- 'dialtonelaw20.JournalLogs': WHATEVER THE INPUT: true; the input reads as it did. -/
def journalLogsSpec : ChangeSpec := { name := "journalLogs", fn := fun _ => fun
  | [d1, d2, d3] => { results := [.lit (.bool true)], args := [d1, d2, d3] }
  | _ => none }
def journalLogsRow : OpenClaim := { program := "ytmkbnmjhkghdjaa", sum := "4600cf4a3a89ec68809879cd4c0800b19688405c0a84df0ed9261519d1245ef6", func := "dialtone/dialtonelaw20.JournalLogs", spec := "journalLogs", apart := false }
def JournalLogsSaid : Prop := journalLogsRow.holds Try.pinned (OpenSpec.ofChange journalLogsSpec)

/-- ITS FALSE NEIGHBOUR: 'it returns false'. Refute it at one input. -/
def journalLogsWrong : ChangeSpec := { name := "journalLogs", fn := fun _ => fun
  | [d1, d2, d3] => { results := [.lit (.bool false)], args := [d1, d2, d3] }
  | _ => none }
def JournalLogsWrongFalsely : Prop := journalLogsRow.holds Try.pinned (OpenSpec.ofChange journalLogsWrong)

/-- 'dialtonelaw20.JournalCrashes': WHATEVER THE INPUT: true; the input reads as it did. -/
def journalCrashesSpec : ChangeSpec := { name := "journalCrashes", fn := fun _ => fun
  | [d] => { results := [.lit (.bool true)], args := [d] }
  | _ => none }
def journalCrashesRow : OpenClaim := { program := "ytmkbnmjhkghdjaa", sum := "4600cf4a3a89ec68809879cd4c0800b19688405c0a84df0ed9261519d1245ef6", func := "dialtone/dialtonelaw20.JournalCrashes", spec := "journalCrashes", apart := false }
def JournalCrashesSaid : Prop := journalCrashesRow.holds Try.pinned (OpenSpec.ofChange journalCrashesSpec)

/-- ITS FALSE NEIGHBOUR: 'it returns false'. Refute it at one input. -/
def journalCrashesWrong : ChangeSpec := { name := "journalCrashes", fn := fun _ => fun
  | [d] => { results := [.lit (.bool false)], args := [d] }
  | _ => none }
def JournalCrashesWrongFalsely : Prop := journalCrashesRow.holds Try.pinned (OpenSpec.ofChange journalCrashesWrong)

/- THE SECOND FORM. 'bulk': how many values and letters a reading holds, each counted each time it is reached (what is shared counts as often as it is met; a slice's spare places count too). A statement '..UptoSaid' is the law's where the arguments, and the package variables that the reading takes, are together of bulk at most 1048576: NARROWER than '..Said'. Prove '..Said' where nothing that the law and all that it calls make is longer than what came in: it says more and counts as full. Else prove '..UptoSaid'. A law counts once. -/
mutual
def uptoBulk {H : Type} : DataW H → Nat
  | .lit (.string bytes) => bytes.length + 1
  | .lit _ => 1
  | .nil => 1
  | .ptr d => uptoBulk d + 1
  | .slice elems spare => uptoBulkAll elems + uptoBulkAll spare + 1
  | .agg parts => uptoBulkAll parts + 1
  | .iface _ d => uptoBulk d + 1
  | .map entries => uptoBulkEntries entries + 1
  | .held _ => 1
def uptoBulkAll {H : Type} : List (DataW H) → Nat
  | [] => 0
  | d :: r => uptoBulk d + uptoBulkAll r
def uptoBulkEntries {H : Type} : List (Lit × DataW H) → Nat
  | [] => 0
  | x :: r => uptoBulkEntry x + uptoBulkEntries r
def uptoBulkEntry {H : Type} : Lit × DataW H → Nat
  | (.string bytes, d) => bytes.length + uptoBulk d + 1
  | (_, d) => uptoBulk d + 1
 end
def uptoSmall : (H : Type) → List (DataW H) → Bool := fun _ ds => decide (uptoBulkAll ds ≤ 1048576)
def OpenSpec.upto (s : _root_.Go.ChangeSpec) : _root_.Go.OpenSpec := { _root_.Go.OpenSpec.ofChange s with cond := some uptoSmall }

/-- 'dialtonelaw20.JournalEncodes', WHERE WHAT IT READS IS OF BULK AT MOST 1048576: true; the input reads as it did. -/
def journalEncodesUptoRow : OpenClaim := { program := "ytmkbnmjhkghdjaa", sum := "4600cf4a3a89ec68809879cd4c0800b19688405c0a84df0ed9261519d1245ef6", func := "dialtone/dialtonelaw20.JournalEncodes", spec := "journalEncodes", apart := false, narrowed := true }
def JournalEncodesUptoSaid : Prop := journalEncodesUptoRow.holds Try.pinned (OpenSpec.upto journalEncodesSpec)

/-- 'dialtonelaw20.JournalCuts', WHERE WHAT IT READS IS OF BULK AT MOST 1048576: true; the input reads as it did. -/
def journalCutsUptoRow : OpenClaim := { program := "ytmkbnmjhkghdjaa", sum := "4600cf4a3a89ec68809879cd4c0800b19688405c0a84df0ed9261519d1245ef6", func := "dialtone/dialtonelaw20.JournalCuts", spec := "journalCuts", apart := false, narrowed := true }
def JournalCutsUptoSaid : Prop := journalCutsUptoRow.holds Try.pinned (OpenSpec.upto journalCutsSpec)

/-- 'dialtonelaw20.JournalBits', WHERE WHAT IT READS IS OF BULK AT MOST 1048576: true; the input reads as it did. -/
def journalBitsUptoRow : OpenClaim := { program := "ytmkbnmjhkghdjaa", sum := "4600cf4a3a89ec68809879cd4c0800b19688405c0a84df0ed9261519d1245ef6", func := "dialtone/dialtonelaw20.JournalBits", spec := "journalBits", apart := false, narrowed := true }
def JournalBitsUptoSaid : Prop := journalBitsUptoRow.holds Try.pinned (OpenSpec.upto journalBitsSpec)

/-- 'dialtonelaw20.JournalBursts', WHERE WHAT IT READS IS OF BULK AT MOST 1048576: true; the input reads as it did. -/
def journalBurstsUptoRow : OpenClaim := { program := "ytmkbnmjhkghdjaa", sum := "4600cf4a3a89ec68809879cd4c0800b19688405c0a84df0ed9261519d1245ef6", func := "dialtone/dialtonelaw20.JournalBursts", spec := "journalBursts", apart := false, narrowed := true }
def JournalBurstsUptoSaid : Prop := journalBurstsUptoRow.holds Try.pinned (OpenSpec.upto journalBurstsSpec)

/-- 'dialtonelaw20.JournalScans', WHERE WHAT IT READS IS OF BULK AT MOST 1048576: true; the input reads as it did. -/
def journalScansUptoRow : OpenClaim := { program := "ytmkbnmjhkghdjaa", sum := "4600cf4a3a89ec68809879cd4c0800b19688405c0a84df0ed9261519d1245ef6", func := "dialtone/dialtonelaw20.JournalScans", spec := "journalScans", apart := false, narrowed := true }
def JournalScansUptoSaid : Prop := journalScansUptoRow.holds Try.pinned (OpenSpec.upto journalScansSpec)

/-- 'dialtonelaw20.JournalKnown', WHERE WHAT IT READS IS OF BULK AT MOST 1048576: true; the input reads as it did. -/
def journalKnownUptoRow : OpenClaim := { program := "ytmkbnmjhkghdjaa", sum := "4600cf4a3a89ec68809879cd4c0800b19688405c0a84df0ed9261519d1245ef6", func := "dialtone/dialtonelaw20.JournalKnown", spec := "journalKnown", apart := false, narrowed := true }
def JournalKnownUptoSaid : Prop := journalKnownUptoRow.holds Try.pinned (OpenSpec.upto journalKnownSpec)

/-- 'dialtonelaw20.JournalLogs', WHERE WHAT IT READS IS OF BULK AT MOST 1048576: true; the input reads as it did. -/
def journalLogsUptoRow : OpenClaim := { program := "ytmkbnmjhkghdjaa", sum := "4600cf4a3a89ec68809879cd4c0800b19688405c0a84df0ed9261519d1245ef6", func := "dialtone/dialtonelaw20.JournalLogs", spec := "journalLogs", apart := false, narrowed := true }
def JournalLogsUptoSaid : Prop := journalLogsUptoRow.holds Try.pinned (OpenSpec.upto journalLogsSpec)

/-- 'dialtonelaw20.JournalCrashes', WHERE WHAT IT READS IS OF BULK AT MOST 1048576: true; the input reads as it did. -/
def journalCrashesUptoRow : OpenClaim := { program := "ytmkbnmjhkghdjaa", sum := "4600cf4a3a89ec68809879cd4c0800b19688405c0a84df0ed9261519d1245ef6", func := "dialtone/dialtonelaw20.JournalCrashes", spec := "journalCrashes", apart := false, narrowed := true }
def JournalCrashesUptoSaid : Prop := journalCrashesUptoRow.holds Try.pinned (OpenSpec.upto journalCrashesSpec)

end Rows
end Go.Proofs.Ytmkbnmjhkghdjaa
