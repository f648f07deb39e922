/-
  No cell of these rows narrows 'for every input' (looked for: loops, veiled, ifaces, maps, wideKeys, modest, calm, conditions, laid).
  DERIVED. THE GIVEN ROWS OF THIS SEAT. 5 by the template 'for every input the law returns true; each argument reads behind the call as it read before'; 0 by the template 'total and deterministic' (their statements: YtkpijdndakljjaaTotals.lean).
  GIVEN WITH THE SEED: the statements are not yours to turn. If you find one false, say at which input.
  Laid BY PROGRAM, IN A SANDBOX (cutbox-rows.mjs): the forced cells as the released guide's own fill.sh prints them over the translation 2241d0783ce3edda… (all of the seat's roots in one cut). By AI agents, Wed Nov 11 2026. No macro, syntax, notation, axiom, sorry.
-/
import Derived.Test.YtkpijdndakljjaaChecked
import GoSem.Claim
import GoSem.ClaimJoined
import GoSem.ClaimMapViews
import Derived.JoinedTies
import Derived.KernelRfl
namespace Go.Proofs.Ytkpijdndakljjaa
/- THE CELL 'sum', in the pinned program and in every row, IS THE sha256 OF THE DUMP (.gsa) THAT YtkpijdndakljjaaProg.lean LOADS. Nothing in Lean hashes anything: it is a label: what it is worth is what the hold of that sum in a sandbox is worth. -/
noncomputable def Try.pinned : Pinned := { name := "ytkpijdndakljjaa", sum := "2241d0783ce3edda2040be91868404d550feeb69a302a84474b03139e5bed3ba", checked := Try.checked }
namespace Rows
def none {H : Type} : Left H := { results := [], args := [] }

/-- 'dialtonelaw38.BillingNotes': WHATEVER THE INPUT: true; the input reads as it did. -/
def billingNotesSpec : ChangeSpec := { name := "billingNotes", fn := fun _ => fun
  | [d1, d2] => { results := [.lit (.bool true)], args := [d1, d2] }
  | _ => none }
def billingNotesRow : OpenClaim := { program := "ytkpijdndakljjaa", sum := "2241d0783ce3edda2040be91868404d550feeb69a302a84474b03139e5bed3ba", func := "dialtone/dialtonelaw38.BillingNotes", spec := "billingNotes", inPlace := ["slices.overlaps[dialtone/api.Bill]"], unfollowed := true, recurses := true, apart := false }
def BillingNotesSaid : Prop := billingNotesRow.holds Try.pinned (OpenSpec.ofChange billingNotesSpec)

/-- ITS FALSE NEIGHBOUR: 'it returns false'. Refute it at one input. -/
def billingNotesWrong : ChangeSpec := { name := "billingNotes", fn := fun _ => fun
  | [d1, d2] => { results := [.lit (.bool false)], args := [d1, d2] }
  | _ => none }
def BillingNotesWrongFalsely : Prop := billingNotesRow.holds Try.pinned (OpenSpec.ofChange billingNotesWrong)

/-- 'dialtonelaw38.BillingEnds': WHATEVER THE INPUT: true; the input reads as it did. -/
def billingEndsSpec : ChangeSpec := { name := "billingEnds", fn := fun _ => fun
  | [d1, d2, d3] => { results := [.lit (.bool true)], args := [d1, d2, d3] }
  | _ => none }
def billingEndsRow : OpenClaim := { program := "ytkpijdndakljjaa", sum := "2241d0783ce3edda2040be91868404d550feeb69a302a84474b03139e5bed3ba", func := "dialtone/dialtonelaw38.BillingEnds", spec := "billingEnds", inPlace := ["slices.overlaps[dialtone/api.Bill]"], unfollowed := true, recurses := true, apart := false }
def BillingEndsSaid : Prop := billingEndsRow.holds Try.pinned (OpenSpec.ofChange billingEndsSpec)

/-- ITS FALSE NEIGHBOUR: 'it returns false'. Refute it at one input. -/
def billingEndsWrong : ChangeSpec := { name := "billingEnds", fn := fun _ => fun
  | [d1, d2, d3] => { results := [.lit (.bool false)], args := [d1, d2, d3] }
  | _ => none }
def BillingEndsWrongFalsely : Prop := billingEndsRow.holds Try.pinned (OpenSpec.ofChange billingEndsWrong)

/-- 'dialtonelaw38.BillingKnown': WHATEVER THE INPUT: true; the input reads as it did. -/
def billingKnownSpec : ChangeSpec := { name := "billingKnown", fn := fun _ => fun
  | [] => { results := [.lit (.bool true)], args := [] }
  | _ => none }
def billingKnownRow : OpenClaim := { program := "ytkpijdndakljjaa", sum := "2241d0783ce3edda2040be91868404d550feeb69a302a84474b03139e5bed3ba", func := "dialtone/dialtonelaw38.BillingKnown", spec := "billingKnown", inPlace := ["slices.overlaps[dialtone/api.Bill]"], unfollowed := true, recurses := true, apart := false }
def BillingKnownSaid : Prop := billingKnownRow.holds Try.pinned (OpenSpec.ofChange billingKnownSpec)

/-- ITS FALSE NEIGHBOUR: 'it returns false'. Refute it at one input. -/
def billingKnownWrong : ChangeSpec := { name := "billingKnown", fn := fun _ => fun
  | [] => { results := [.lit (.bool false)], args := [] }
  | _ => none }
def BillingKnownWrongFalsely : Prop := billingKnownRow.holds Try.pinned (OpenSpec.ofChange billingKnownWrong)

/-- 'dialtonelaw38.BillingCrash': WHATEVER THE INPUT: true; the input reads as it did. -/
def billingCrashSpec : ChangeSpec := { name := "billingCrash", fn := fun _ => fun
  | [d1, d2] => { results := [.lit (.bool true)], args := [d1, d2] }
  | _ => none }
def billingCrashRow : OpenClaim := { program := "ytkpijdndakljjaa", sum := "2241d0783ce3edda2040be91868404d550feeb69a302a84474b03139e5bed3ba", func := "dialtone/dialtonelaw38.BillingCrash", spec := "billingCrash", inPlace := ["slices.overlaps[dialtone/api.Bill]"], unfollowed := true, recurses := true, apart := false }
def BillingCrashSaid : Prop := billingCrashRow.holds Try.pinned (OpenSpec.ofChange billingCrashSpec)

/-- ITS FALSE NEIGHBOUR: 'it returns false'. Refute it at one input. -/
def billingCrashWrong : ChangeSpec := { name := "billingCrash", fn := fun _ => fun
  | [d1, d2] => { results := [.lit (.bool false)], args := [d1, d2] }
  | _ => none }
def BillingCrashWrongFalsely : Prop := billingCrashRow.holds Try.pinned (OpenSpec.ofChange billingCrashWrong)

/-- 'dialtonelaw38.BillingOnce': WHATEVER THE INPUT: true; the input reads as it did. -/
def billingOnceSpec : ChangeSpec := { name := "billingOnce", fn := fun _ => fun
  | [d] => { results := [.lit (.bool true)], args := [d] }
  | _ => none }
def billingOnceRow : OpenClaim := { program := "ytkpijdndakljjaa", sum := "2241d0783ce3edda2040be91868404d550feeb69a302a84474b03139e5bed3ba", func := "dialtone/dialtonelaw38.BillingOnce", spec := "billingOnce", inPlace := ["slices.overlaps[dialtone/api.Bill]"], unfollowed := true, recurses := true, apart := false }
def BillingOnceSaid : Prop := billingOnceRow.holds Try.pinned (OpenSpec.ofChange billingOnceSpec)

/-- ITS FALSE NEIGHBOUR: 'it returns false'. Refute it at one input. -/
def billingOnceWrong : ChangeSpec := { name := "billingOnce", fn := fun _ => fun
  | [d] => { results := [.lit (.bool false)], args := [d] }
  | _ => none }
def BillingOnceWrongFalsely : Prop := billingOnceRow.holds Try.pinned (OpenSpec.ofChange billingOnceWrong)

/- THE SECOND FORM. 'bulk': how many values and letters a reading holds, each counted each time it is reached (what is shared counts as often as it is met; a slice's spare places count too). A statement '..UptoSaid' is the law's where the arguments, and the package variables that the reading takes, are together of bulk at most 1048576: NARROWER than '..Said'. Prove '..Said' where nothing that the law and all that it calls make is longer than what came in: it says more and counts as full. Else prove '..UptoSaid'. A law counts once. -/
mutual
def uptoBulk {H : Type} : DataW H → Nat
  | .lit (.string bytes) => bytes.length + 1
  | .lit _ => 1
  | .nil => 1
  | .ptr d => uptoBulk d + 1
  | .slice elems spare => uptoBulkAll elems + uptoBulkAll spare + 1
  | .agg parts => uptoBulkAll parts + 1
  | .iface _ d => uptoBulk d + 1
  | .map entries => uptoBulkEntries entries + 1
  | .held _ => 1
def uptoBulkAll {H : Type} : List (DataW H) → Nat
  | [] => 0
  | d :: r => uptoBulk d + uptoBulkAll r
def uptoBulkEntries {H : Type} : List (Lit × DataW H) → Nat
  | [] => 0
  | x :: r => uptoBulkEntry x + uptoBulkEntries r
def uptoBulkEntry {H : Type} : Lit × DataW H → Nat
  | (.string bytes, d) => bytes.length + uptoBulk d + 1
  | (_, d) => uptoBulk d + 1
 end
def uptoSmall : (H : Type) → List (DataW H) → Bool := fun _ ds => decide (uptoBulkAll ds ≤ 1048576)
def OpenSpec.upto (s : _root_.Go.ChangeSpec) : _root_.Go.OpenSpec := { _root_.Go.OpenSpec.ofChange s with cond := some uptoSmall }

/-- 'dialtonelaw38.BillingNotes', WHERE WHAT IT READS IS OF BULK AT MOST 1048576: true; the input reads as it did. -/
def billingNotesUptoRow : OpenClaim := { program := "ytkpijdndakljjaa", sum := "2241d0783ce3edda2040be91868404d550feeb69a302a84474b03139e5bed3ba", func := "dialtone/dialtonelaw38.BillingNotes", spec := "billingNotes", inPlace := ["slices.overlaps[dialtone/api.Bill]"], unfollowed := true, recurses := true, apart := false, narrowed := true }
def BillingNotesUptoSaid : Prop := billingNotesUptoRow.holds Try.pinned (OpenSpec.upto billingNotesSpec)

/-- 'dialtonelaw38.BillingEnds', WHERE WHAT IT READS IS OF BULK AT MOST 1048576: true; the input reads as it did. -/
def billingEndsUptoRow : OpenClaim := { program := "ytkpijdndakljjaa", sum := "2241d0783ce3edda2040be91868404d550feeb69a302a84474b03139e5bed3ba", func := "dialtone/dialtonelaw38.BillingEnds", spec := "billingEnds", inPlace := ["slices.overlaps[dialtone/api.Bill]"], unfollowed := true, recurses := true, apart := false, narrowed := true }
def BillingEndsUptoSaid : Prop := billingEndsUptoRow.holds Try.pinned (OpenSpec.upto billingEndsSpec)

/-- 'dialtonelaw38.BillingKnown', WHERE WHAT IT READS IS OF BULK AT MOST 1048576: true; the input reads as it did. -/
def billingKnownUptoRow : OpenClaim := { program := "ytkpijdndakljjaa", sum := "2241d0783ce3edda2040be91868404d550feeb69a302a84474b03139e5bed3ba", func := "dialtone/dialtonelaw38.BillingKnown", spec := "billingKnown", inPlace := ["slices.overlaps[dialtone/api.Bill]"], unfollowed := true, recurses := true, apart := false, narrowed := true }
def BillingKnownUptoSaid : Prop := billingKnownUptoRow.holds Try.pinned (OpenSpec.upto billingKnownSpec)

/-- 'dialtonelaw38.BillingCrash', WHERE WHAT IT READS IS OF BULK AT MOST 1048576: true; the input reads as it did. -/
def billingCrashUptoRow : OpenClaim := { program := "ytkpijdndakljjaa", sum := "2241d0783ce3edda2040be91868404d550feeb69a302a84474b03139e5bed3ba", func := "dialtone/dialtonelaw38.BillingCrash", spec := "billingCrash", inPlace := ["slices.overlaps[dialtone/api.Bill]"], unfollowed := true, recurses := true, apart := false, narrowed := true }
def BillingCrashUptoSaid : Prop := billingCrashUptoRow.holds Try.pinned (OpenSpec.upto billingCrashSpec)

/-- 'dialtonelaw38.BillingOnce', WHERE WHAT IT READS IS OF BULK AT MOST 1048576: true; the input reads as it did. -/
def billingOnceUptoRow : OpenClaim := { program := "ytkpijdndakljjaa", sum := "2241d0783ce3edda2040be91868404d550feeb69a302a84474b03139e5bed3ba", func := "dialtone/dialtonelaw38.BillingOnce", spec := "billingOnce", inPlace := ["slices.overlaps[dialtone/api.Bill]"], unfollowed := true, recurses := true, apart := false, narrowed := true }
def BillingOnceUptoSaid : Prop := billingOnceUptoRow.holds Try.pinned (OpenSpec.upto billingOnceSpec)

end Rows
end Go.Proofs.Ytkpijdndakljjaa
