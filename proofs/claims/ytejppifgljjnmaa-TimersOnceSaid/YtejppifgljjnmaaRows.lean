/-
  No cell of these rows narrows 'for every input' (looked for: loops, veiled, ifaces, maps, wideKeys, modest, calm, conditions, laid).
  DERIVED. THE GIVEN ROWS OF THIS SEAT. 7 by the template 'for every input the law returns true; each argument reads behind the call as it read before'; 0 by the template 'total and deterministic' (their statements: YtejppifgljjnmaaTotals.lean).
  GIVEN WITH THE SEED: the statements are not yours to turn. If you find one false, say at which input.
  Laid BY PROGRAM, IN A SANDBOX (cutbox-rows.mjs): the forced cells as the released guide's own fill.sh prints them over the translation e67e712e88b00cf0… (all of the seat's roots in one cut). By AI agents, Wed Nov 11 2026. No macro, syntax, notation, axiom, sorry.
-/
import Derived.Test.YtejppifgljjnmaaChecked
import GoSem.Claim
import GoSem.ClaimJoined
import GoSem.ClaimMapViews
import Derived.JoinedTies
import Derived.KernelRfl
namespace Go.Proofs.Ytejppifgljjnmaa
/- THE CELL 'sum', in the pinned program and in every row, IS THE sha256 OF THE DUMP (.gsa) THAT YtejppifgljjnmaaProg.lean LOADS. Nothing in Lean hashes anything: it is a label: what it is worth is what the hold of that sum in a sandbox is worth. -/
noncomputable def Try.pinned : Pinned := { name := "ytejppifgljjnmaa", sum := "e67e712e88b00cf0c30579f062e09c8bce5253ed8ada3419e64aa3b4c05f66d4", checked := Try.checked }
namespace Rows
def none {H : Type} : Left H := { results := [], args := [] }

/-- 'dialtonelaw10.TimersStable': WHATEVER THE INPUT: true; the input reads as it did. -/
def timersStableSpec : ChangeSpec := { name := "timersStable", fn := fun _ => fun
  | [d] => { results := [.lit (.bool true)], args := [d] }
  | _ => none }
def timersStableRow : OpenClaim := { program := "ytejppifgljjnmaa", sum := "e67e712e88b00cf0c30579f062e09c8bce5253ed8ada3419e64aa3b4c05f66d4", func := "dialtone/dialtonelaw10.TimersStable", spec := "timersStable", unfollowed := true, recurses := true, apart := false }
def TimersStableSaid : Prop := timersStableRow.holds Try.pinned (OpenSpec.ofChange timersStableSpec)

/-- ITS FALSE NEIGHBOUR: 'it returns false'. Refute it at one input. -/
def timersStableWrong : ChangeSpec := { name := "timersStable", fn := fun _ => fun
  | [d] => { results := [.lit (.bool false)], args := [d] }
  | _ => none }
def TimersStableWrongFalsely : Prop := timersStableRow.holds Try.pinned (OpenSpec.ofChange timersStableWrong)

/-- 'dialtonelaw10.TimersDivides': WHATEVER THE INPUT: true; the input reads as it did. -/
def timersDividesSpec : ChangeSpec := { name := "timersDivides", fn := fun _ => fun
  | [d1, d2] => { results := [.lit (.bool true)], args := [d1, d2] }
  | _ => none }
def timersDividesRow : OpenClaim := { program := "ytejppifgljjnmaa", sum := "e67e712e88b00cf0c30579f062e09c8bce5253ed8ada3419e64aa3b4c05f66d4", func := "dialtone/dialtonelaw10.TimersDivides", spec := "timersDivides", unfollowed := true, recurses := true, apart := false }
def TimersDividesSaid : Prop := timersDividesRow.holds Try.pinned (OpenSpec.ofChange timersDividesSpec)

/-- ITS FALSE NEIGHBOUR: 'it returns false'. Refute it at one input. -/
def timersDividesWrong : ChangeSpec := { name := "timersDivides", fn := fun _ => fun
  | [d1, d2] => { results := [.lit (.bool false)], args := [d1, d2] }
  | _ => none }
def TimersDividesWrongFalsely : Prop := timersDividesRow.holds Try.pinned (OpenSpec.ofChange timersDividesWrong)

/-- 'dialtonelaw10.TimersTwice': WHATEVER THE INPUT: true; the input reads as it did. -/
def timersTwiceSpec : ChangeSpec := { name := "timersTwice", fn := fun _ => fun
  | [d1, d2, d3] => { results := [.lit (.bool true)], args := [d1, d2, d3] }
  | _ => none }
def timersTwiceRow : OpenClaim := { program := "ytejppifgljjnmaa", sum := "e67e712e88b00cf0c30579f062e09c8bce5253ed8ada3419e64aa3b4c05f66d4", func := "dialtone/dialtonelaw10.TimersTwice", spec := "timersTwice", unfollowed := true, recurses := true, apart := false }
def TimersTwiceSaid : Prop := timersTwiceRow.holds Try.pinned (OpenSpec.ofChange timersTwiceSpec)

/-- ITS FALSE NEIGHBOUR: 'it returns false'. Refute it at one input. -/
def timersTwiceWrong : ChangeSpec := { name := "timersTwice", fn := fun _ => fun
  | [d1, d2, d3] => { results := [.lit (.bool false)], args := [d1, d2, d3] }
  | _ => none }
def TimersTwiceWrongFalsely : Prop := timersTwiceRow.holds Try.pinned (OpenSpec.ofChange timersTwiceWrong)

/-- 'dialtonelaw10.TimersAdds': WHATEVER THE INPUT: true; the input reads as it did. -/
def timersAddsSpec : ChangeSpec := { name := "timersAdds", fn := fun _ => fun
  | [d1, d2] => { results := [.lit (.bool true)], args := [d1, d2] }
  | _ => none }
def timersAddsRow : OpenClaim := { program := "ytejppifgljjnmaa", sum := "e67e712e88b00cf0c30579f062e09c8bce5253ed8ada3419e64aa3b4c05f66d4", func := "dialtone/dialtonelaw10.TimersAdds", spec := "timersAdds", unfollowed := true, recurses := true, apart := false }
def TimersAddsSaid : Prop := timersAddsRow.holds Try.pinned (OpenSpec.ofChange timersAddsSpec)

/-- ITS FALSE NEIGHBOUR: 'it returns false'. Refute it at one input. -/
def timersAddsWrong : ChangeSpec := { name := "timersAdds", fn := fun _ => fun
  | [d1, d2] => { results := [.lit (.bool false)], args := [d1, d2] }
  | _ => none }
def TimersAddsWrongFalsely : Prop := timersAddsRow.holds Try.pinned (OpenSpec.ofChange timersAddsWrong)

/-- 'dialtonelaw10.TimersCancels': WHATEVER THE INPUT: true; the input reads as it did. -/
def timersCancelsSpec : ChangeSpec := { name := "timersCancels", fn := fun _ => fun
  | [d1, d2, d3] => { results := [.lit (.bool true)], args := [d1, d2, d3] }
  | _ => none }
def timersCancelsRow : OpenClaim := { program := "ytejppifgljjnmaa", sum := "e67e712e88b00cf0c30579f062e09c8bce5253ed8ada3419e64aa3b4c05f66d4", func := "dialtone/dialtonelaw10.TimersCancels", spec := "timersCancels", unfollowed := true, recurses := true, apart := false }
def TimersCancelsSaid : Prop := timersCancelsRow.holds Try.pinned (OpenSpec.ofChange timersCancelsSpec)

/-- ITS FALSE NEIGHBOUR: 'it returns false'. Refute it at one input. -/
def timersCancelsWrong : ChangeSpec := { name := "timersCancels", fn := fun _ => fun
  | [d1, d2, d3] => { results := [.lit (.bool false)], args := [d1, d2, d3] }
  | _ => none }
def TimersCancelsWrongFalsely : Prop := timersCancelsRow.holds Try.pinned (OpenSpec.ofChange timersCancelsWrong)

/-- 'dialtonelaw10.TimersOnce': WHATEVER THE INPUT: true; the input reads as it did. -/
def timersOnceSpec : ChangeSpec := { name := "timersOnce", fn := fun _ => fun
  | [d1, d2, d3] => { results := [.lit (.bool true)], args := [d1, d2, d3] }
  | _ => none }
def timersOnceRow : OpenClaim := { program := "ytejppifgljjnmaa", sum := "e67e712e88b00cf0c30579f062e09c8bce5253ed8ada3419e64aa3b4c05f66d4", func := "dialtone/dialtonelaw10.TimersOnce", spec := "timersOnce", unfollowed := true, recurses := true, apart := false }
def TimersOnceSaid : Prop := timersOnceRow.holds Try.pinned (OpenSpec.ofChange timersOnceSpec)

/-- ITS FALSE NEIGHBOUR: 'it returns false'. Refute it at one input. -/
def timersOnceWrong : ChangeSpec := { name := "timersOnce", fn := fun _ => fun
  | [d1, d2, d3] => { results := [.lit (.bool false)], args := [d1, d2, d3] }
  | _ => none }
def TimersOnceWrongFalsely : Prop := timersOnceRow.holds Try.pinned (OpenSpec.ofChange timersOnceWrong)

/-- 'dialtonelaw10.TimersKnown': WHATEVER THE INPUT: true; the input reads as it did. -/
def timersKnownSpec : ChangeSpec := { name := "timersKnown", fn := fun _ => fun
  | [] => { results := [.lit (.bool true)], args := [] }
  | _ => none }
def timersKnownRow : OpenClaim := { program := "ytejppifgljjnmaa", sum := "e67e712e88b00cf0c30579f062e09c8bce5253ed8ada3419e64aa3b4c05f66d4", func := "dialtone/dialtonelaw10.TimersKnown", spec := "timersKnown", unfollowed := true, recurses := true, apart := false }
def TimersKnownSaid : Prop := timersKnownRow.holds Try.pinned (OpenSpec.ofChange timersKnownSpec)

/-- ITS FALSE NEIGHBOUR: 'it returns false'. Refute it at one input. -/
def timersKnownWrong : ChangeSpec := { name := "timersKnown", fn := fun _ => fun
  | [] => { results := [.lit (.bool false)], args := [] }
  | _ => none }
def TimersKnownWrongFalsely : Prop := timersKnownRow.holds Try.pinned (OpenSpec.ofChange timersKnownWrong)

/- THE SECOND FORM. 'bulk': how many values and letters a reading holds, each counted each time it is reached (what is shared counts as often as it is met; a slice's spare places count too). A statement '..UptoSaid' is the law's where the arguments, and the package variables that the reading takes, are together of bulk at most 1048576: NARROWER than '..Said'. Prove '..Said' where nothing that the law and all that it calls make is longer than what came in: it says more and counts as full. Else prove '..UptoSaid'. A law counts once. -/
mutual
def uptoBulk {H : Type} : DataW H → Nat
  | .lit (.string bytes) => bytes.length + 1
  | .lit _ => 1
  | .nil => 1
  | .ptr d => uptoBulk d + 1
  | .slice elems spare => uptoBulkAll elems + uptoBulkAll spare + 1
  | .agg parts => uptoBulkAll parts + 1
  | .iface _ d => uptoBulk d + 1
  | .map entries => uptoBulkEntries entries + 1
  | .held _ => 1
def uptoBulkAll {H : Type} : List (DataW H) → Nat
  | [] => 0
  | d :: r => uptoBulk d + uptoBulkAll r
def uptoBulkEntries {H : Type} : List (Lit × DataW H) → Nat
  | [] => 0
  | x :: r => uptoBulkEntry x + uptoBulkEntries r
def uptoBulkEntry {H : Type} : Lit × DataW H → Nat
  | (.string bytes, d) => bytes.length + uptoBulk d + 1
  | (_, d) => uptoBulk d + 1
 end
def uptoSmall : (H : Type) → List (DataW H) → Bool := fun _ ds => decide (uptoBulkAll ds ≤ 1048576)
def OpenSpec.upto (s : _root_.Go.ChangeSpec) : _root_.Go.OpenSpec := { _root_.Go.OpenSpec.ofChange s with cond := some uptoSmall }

/-- 'dialtonelaw10.TimersStable', WHERE WHAT IT READS IS OF BULK AT MOST 1048576: true; the input reads as it did. -/
def timersStableUptoRow : OpenClaim := { program := "ytejppifgljjnmaa", sum := "e67e712e88b00cf0c30579f062e09c8bce5253ed8ada3419e64aa3b4c05f66d4", func := "dialtone/dialtonelaw10.TimersStable", spec := "timersStable", unfollowed := true, recurses := true, apart := false, narrowed := true }
def TimersStableUptoSaid : Prop := timersStableUptoRow.holds Try.pinned (OpenSpec.upto timersStableSpec)

/-- 'dialtonelaw10.TimersDivides', WHERE WHAT IT READS IS OF BULK AT MOST 1048576: true; the input reads as it did. -/
def timersDividesUptoRow : OpenClaim := { program := "ytejppifgljjnmaa", sum := "e67e712e88b00cf0c30579f062e09c8bce5253ed8ada3419e64aa3b4c05f66d4", func := "dialtone/dialtonelaw10.TimersDivides", spec := "timersDivides", unfollowed := true, recurses := true, apart := false, narrowed := true }
def TimersDividesUptoSaid : Prop := timersDividesUptoRow.holds Try.pinned (OpenSpec.upto timersDividesSpec)

/-- 'dialtonelaw10.TimersTwice', WHERE WHAT IT READS IS OF BULK AT MOST 1048576: true; the input reads as it did. -/
def timersTwiceUptoRow : OpenClaim := { program := "ytejppifgljjnmaa", sum := "e67e712e88b00cf0c30579f062e09c8bce5253ed8ada3419e64aa3b4c05f66d4", func := "dialtone/dialtonelaw10.TimersTwice", spec := "timersTwice", unfollowed := true, recurses := true, apart := false, narrowed := true }
def TimersTwiceUptoSaid : Prop := timersTwiceUptoRow.holds Try.pinned (OpenSpec.upto timersTwiceSpec)

/-- 'dialtonelaw10.TimersAdds', WHERE WHAT IT READS IS OF BULK AT MOST 1048576: true; the input reads as it did. -/
def timersAddsUptoRow : OpenClaim := { program := "ytejppifgljjnmaa", sum := "e67e712e88b00cf0c30579f062e09c8bce5253ed8ada3419e64aa3b4c05f66d4", func := "dialtone/dialtonelaw10.TimersAdds", spec := "timersAdds", unfollowed := true, recurses := true, apart := false, narrowed := true }
def TimersAddsUptoSaid : Prop := timersAddsUptoRow.holds Try.pinned (OpenSpec.upto timersAddsSpec)

/-- 'dialtonelaw10.TimersCancels', WHERE WHAT IT READS IS OF BULK AT MOST 1048576: true; the input reads as it did. -/
def timersCancelsUptoRow : OpenClaim := { program := "ytejppifgljjnmaa", sum := "e67e712e88b00cf0c30579f062e09c8bce5253ed8ada3419e64aa3b4c05f66d4", func := "dialtone/dialtonelaw10.TimersCancels", spec := "timersCancels", unfollowed := true, recurses := true, apart := false, narrowed := true }
def TimersCancelsUptoSaid : Prop := timersCancelsUptoRow.holds Try.pinned (OpenSpec.upto timersCancelsSpec)

/-- 'dialtonelaw10.TimersOnce', WHERE WHAT IT READS IS OF BULK AT MOST 1048576: true; the input reads as it did. -/
def timersOnceUptoRow : OpenClaim := { program := "ytejppifgljjnmaa", sum := "e67e712e88b00cf0c30579f062e09c8bce5253ed8ada3419e64aa3b4c05f66d4", func := "dialtone/dialtonelaw10.TimersOnce", spec := "timersOnce", unfollowed := true, recurses := true, apart := false, narrowed := true }
def TimersOnceUptoSaid : Prop := timersOnceUptoRow.holds Try.pinned (OpenSpec.upto timersOnceSpec)

/-- 'dialtonelaw10.TimersKnown', WHERE WHAT IT READS IS OF BULK AT MOST 1048576: true; the input reads as it did. -/
def timersKnownUptoRow : OpenClaim := { program := "ytejppifgljjnmaa", sum := "e67e712e88b00cf0c30579f062e09c8bce5253ed8ada3419e64aa3b4c05f66d4", func := "dialtone/dialtonelaw10.TimersKnown", spec := "timersKnown", unfollowed := true, recurses := true, apart := false, narrowed := true }
def TimersKnownUptoSaid : Prop := timersKnownUptoRow.holds Try.pinned (OpenSpec.upto timersKnownSpec)

end Rows
end Go.Proofs.Ytejppifgljjnmaa
