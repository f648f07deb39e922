/-
  No cell of these rows narrows 'for every input' (looked for: loops, veiled, ifaces, maps, wideKeys, modest, calm, conditions, laid).
  DERIVED. THE GIVEN ROWS OF THIS SEAT. 7 by the template 'for every input the law returns true; each argument reads behind the call as it read before'; 0 by the template 'total and deterministic' (their statements: YtkmfgldoljegoaaTotals.lean).
  GIVEN WITH THE SEED: the statements are not yours to turn. If you find one false, say at which input.
  Laid BY PROGRAM, IN A SANDBOX (cutbox-rows.mjs): the forced cells as the released guide's own fill.sh prints them over the translation 5d5e7cc8494f0b27… (all of the seat's roots in one cut). By AI agents, Wed Nov 11 2026. No macro, syntax, notation, axiom, sorry.
-/
import Derived.Test.YtkmfgldoljegoaaChecked
import GoSem.Claim
import GoSem.ClaimJoined
import GoSem.ClaimMapViews
import Derived.JoinedTies
import Derived.KernelRfl
namespace Go.Proofs.Ytkmfgldoljegoaa
/- THE CELL 'sum', in the pinned program and in every row, IS THE sha256 OF THE DUMP (.gsa) THAT YtkmfgldoljegoaaProg.lean LOADS. Nothing in Lean hashes anything: it is a label: what it is worth is what the hold of that sum in a sandbox is worth. -/
noncomputable def Try.pinned : Pinned := { name := "ytkmfgldoljegoaa", sum := "5d5e7cc8494f0b27f78df376004bed7832df6c00d6dd6d46429a240e8425f87c", checked := Try.checked }
namespace Rows
def none {H : Type} : Left H := { results := [], args := [] }

/-- 'dialtonelaw36.QueuesFair': WHATEVER THE INPUT: true; the input reads as it did. -/
def queuesFairSpec : ChangeSpec := { name := "queuesFair", fn := fun _ => fun
  | [d1, d2] => { results := [.lit (.bool true)], args := [d1, d2] }
  | _ => none }
def queuesFairRow : OpenClaim := { program := "ytkmfgldoljegoaa", sum := "5d5e7cc8494f0b27f78df376004bed7832df6c00d6dd6d46429a240e8425f87c", func := "dialtone/dialtonelaw36.QueuesFair", spec := "queuesFair", unfollowed := true, recurses := true, apart := false }
def QueuesFairSaid : Prop := queuesFairRow.holds Try.pinned (OpenSpec.ofChange queuesFairSpec)

/-- ITS FALSE NEIGHBOUR: 'it returns false'. Refute it at one input. -/
def queuesFairWrong : ChangeSpec := { name := "queuesFair", fn := fun _ => fun
  | [d1, d2] => { results := [.lit (.bool false)], args := [d1, d2] }
  | _ => none }
def QueuesFairWrongFalsely : Prop := queuesFairRow.holds Try.pinned (OpenSpec.ofChange queuesFairWrong)

/-- 'dialtonelaw36.QueuesRaw': WHATEVER THE INPUT: true; the input reads as it did. -/
def queuesRawSpec : ChangeSpec := { name := "queuesRaw", fn := fun _ => fun
  | [d1, d2] => { results := [.lit (.bool true)], args := [d1, d2] }
  | _ => none }
def queuesRawRow : OpenClaim := { program := "ytkmfgldoljegoaa", sum := "5d5e7cc8494f0b27f78df376004bed7832df6c00d6dd6d46429a240e8425f87c", func := "dialtone/dialtonelaw36.QueuesRaw", spec := "queuesRaw", unfollowed := true, recurses := true, apart := false }
def QueuesRawSaid : Prop := queuesRawRow.holds Try.pinned (OpenSpec.ofChange queuesRawSpec)

/-- ITS FALSE NEIGHBOUR: 'it returns false'. Refute it at one input. -/
def queuesRawWrong : ChangeSpec := { name := "queuesRaw", fn := fun _ => fun
  | [d1, d2] => { results := [.lit (.bool false)], args := [d1, d2] }
  | _ => none }
def QueuesRawWrongFalsely : Prop := queuesRawRow.holds Try.pinned (OpenSpec.ofChange queuesRawWrong)

/-- 'dialtonelaw36.QueuesPlays': WHATEVER THE INPUT: true; the input reads as it did. -/
def queuesPlaysSpec : ChangeSpec := { name := "queuesPlays", fn := fun _ => fun
  | [d1, d2] => { results := [.lit (.bool true)], args := [d1, d2] }
  | _ => none }
def queuesPlaysRow : OpenClaim := { program := "ytkmfgldoljegoaa", sum := "5d5e7cc8494f0b27f78df376004bed7832df6c00d6dd6d46429a240e8425f87c", func := "dialtone/dialtonelaw36.QueuesPlays", spec := "queuesPlays", unfollowed := true, recurses := true, apart := false }
def QueuesPlaysSaid : Prop := queuesPlaysRow.holds Try.pinned (OpenSpec.ofChange queuesPlaysSpec)

/-- ITS FALSE NEIGHBOUR: 'it returns false'. Refute it at one input. -/
def queuesPlaysWrong : ChangeSpec := { name := "queuesPlays", fn := fun _ => fun
  | [d1, d2] => { results := [.lit (.bool false)], args := [d1, d2] }
  | _ => none }
def QueuesPlaysWrongFalsely : Prop := queuesPlaysRow.holds Try.pinned (OpenSpec.ofChange queuesPlaysWrong)

/-- 'dialtonelaw36.QueuesOne': WHATEVER THE INPUT: true; the input reads as it did. -/
def queuesOneSpec : ChangeSpec := { name := "queuesOne", fn := fun _ => fun
  | [d] => { results := [.lit (.bool true)], args := [d] }
  | _ => none }
def queuesOneRow : OpenClaim := { program := "ytkmfgldoljegoaa", sum := "5d5e7cc8494f0b27f78df376004bed7832df6c00d6dd6d46429a240e8425f87c", func := "dialtone/dialtonelaw36.QueuesOne", spec := "queuesOne", unfollowed := true, recurses := true, apart := false }
def QueuesOneSaid : Prop := queuesOneRow.holds Try.pinned (OpenSpec.ofChange queuesOneSpec)

/-- ITS FALSE NEIGHBOUR: 'it returns false'. Refute it at one input. -/
def queuesOneWrong : ChangeSpec := { name := "queuesOne", fn := fun _ => fun
  | [d] => { results := [.lit (.bool false)], args := [d] }
  | _ => none }
def QueuesOneWrongFalsely : Prop := queuesOneRow.holds Try.pinned (OpenSpec.ofChange queuesOneWrong)

/-- 'dialtonelaw36.QueuesParks': WHATEVER THE INPUT: true; the input reads as it did. -/
def queuesParksSpec : ChangeSpec := { name := "queuesParks", fn := fun _ => fun
  | [d1, d2, d3] => { results := [.lit (.bool true)], args := [d1, d2, d3] }
  | _ => none }
def queuesParksRow : OpenClaim := { program := "ytkmfgldoljegoaa", sum := "5d5e7cc8494f0b27f78df376004bed7832df6c00d6dd6d46429a240e8425f87c", func := "dialtone/dialtonelaw36.QueuesParks", spec := "queuesParks", unfollowed := true, recurses := true, apart := false }
def QueuesParksSaid : Prop := queuesParksRow.holds Try.pinned (OpenSpec.ofChange queuesParksSpec)

/-- ITS FALSE NEIGHBOUR: 'it returns false'. Refute it at one input. -/
def queuesParksWrong : ChangeSpec := { name := "queuesParks", fn := fun _ => fun
  | [d1, d2, d3] => { results := [.lit (.bool false)], args := [d1, d2, d3] }
  | _ => none }
def QueuesParksWrongFalsely : Prop := queuesParksRow.holds Try.pinned (OpenSpec.ofChange queuesParksWrong)

/-- 'dialtonelaw36.QueuesMails': WHATEVER THE INPUT: true; the input reads as it did. -/
def queuesMailsSpec : ChangeSpec := { name := "queuesMails", fn := fun _ => fun
  | [d1, d2, d3] => { results := [.lit (.bool true)], args := [d1, d2, d3] }
  | _ => none }
def queuesMailsRow : OpenClaim := { program := "ytkmfgldoljegoaa", sum := "5d5e7cc8494f0b27f78df376004bed7832df6c00d6dd6d46429a240e8425f87c", func := "dialtone/dialtonelaw36.QueuesMails", spec := "queuesMails", unfollowed := true, recurses := true, apart := false }
def QueuesMailsSaid : Prop := queuesMailsRow.holds Try.pinned (OpenSpec.ofChange queuesMailsSpec)

/-- ITS FALSE NEIGHBOUR: 'it returns false'. Refute it at one input. -/
def queuesMailsWrong : ChangeSpec := { name := "queuesMails", fn := fun _ => fun
  | [d1, d2, d3] => { results := [.lit (.bool false)], args := [d1, d2, d3] }
  | _ => none }
def QueuesMailsWrongFalsely : Prop := queuesMailsRow.holds Try.pinned (OpenSpec.ofChange queuesMailsWrong)

/-- 'dialtonelaw36.QueuesKnown': WHATEVER THE INPUT: true; the input reads as it did. -/
def queuesKnownSpec : ChangeSpec := { name := "queuesKnown", fn := fun _ => fun
  | [] => { results := [.lit (.bool true)], args := [] }
  | _ => none }
def queuesKnownRow : OpenClaim := { program := "ytkmfgldoljegoaa", sum := "5d5e7cc8494f0b27f78df376004bed7832df6c00d6dd6d46429a240e8425f87c", func := "dialtone/dialtonelaw36.QueuesKnown", spec := "queuesKnown", unfollowed := true, recurses := true, apart := false }
def QueuesKnownSaid : Prop := queuesKnownRow.holds Try.pinned (OpenSpec.ofChange queuesKnownSpec)

/-- ITS FALSE NEIGHBOUR: 'it returns false'. Refute it at one input. -/
def queuesKnownWrong : ChangeSpec := { name := "queuesKnown", fn := fun _ => fun
  | [] => { results := [.lit (.bool false)], args := [] }
  | _ => none }
def QueuesKnownWrongFalsely : Prop := queuesKnownRow.holds Try.pinned (OpenSpec.ofChange queuesKnownWrong)

/- THE SECOND FORM. 'bulk': how many values and letters a reading holds, each counted each time it is reached (what is shared counts as often as it is met; a slice's spare places count too). A statement '..UptoSaid' is the law's where the arguments, and the package variables that the reading takes, are together of bulk at most 1048576: NARROWER than '..Said'. Prove '..Said' where nothing that the law and all that it calls make is longer than what came in: it says more and counts as full. Else prove '..UptoSaid'. A law counts once. -/
mutual
def uptoBulk {H : Type} : DataW H → Nat
  | .lit (.string bytes) => bytes.length + 1
  | .lit _ => 1
  | .nil => 1
  | .ptr d => uptoBulk d + 1
  | .slice elems spare => uptoBulkAll elems + uptoBulkAll spare + 1
  | .agg parts => uptoBulkAll parts + 1
  | .iface _ d => uptoBulk d + 1
  | .map entries => uptoBulkEntries entries + 1
  | .held _ => 1
def uptoBulkAll {H : Type} : List (DataW H) → Nat
  | [] => 0
  | d :: r => uptoBulk d + uptoBulkAll r
def uptoBulkEntries {H : Type} : List (Lit × DataW H) → Nat
  | [] => 0
  | x :: r => uptoBulkEntry x + uptoBulkEntries r
def uptoBulkEntry {H : Type} : Lit × DataW H → Nat
  | (.string bytes, d) => bytes.length + uptoBulk d + 1
  | (_, d) => uptoBulk d + 1
 end
def uptoSmall : (H : Type) → List (DataW H) → Bool := fun _ ds => decide (uptoBulkAll ds ≤ 1048576)
def OpenSpec.upto (s : _root_.Go.ChangeSpec) : _root_.Go.OpenSpec := { _root_.Go.OpenSpec.ofChange s with cond := some uptoSmall }

/-- 'dialtonelaw36.QueuesFair', WHERE WHAT IT READS IS OF BULK AT MOST 1048576: true; the input reads as it did. -/
def queuesFairUptoRow : OpenClaim := { program := "ytkmfgldoljegoaa", sum := "5d5e7cc8494f0b27f78df376004bed7832df6c00d6dd6d46429a240e8425f87c", func := "dialtone/dialtonelaw36.QueuesFair", spec := "queuesFair", unfollowed := true, recurses := true, apart := false, narrowed := true }
def QueuesFairUptoSaid : Prop := queuesFairUptoRow.holds Try.pinned (OpenSpec.upto queuesFairSpec)

/-- 'dialtonelaw36.QueuesRaw', WHERE WHAT IT READS IS OF BULK AT MOST 1048576: true; the input reads as it did. -/
def queuesRawUptoRow : OpenClaim := { program := "ytkmfgldoljegoaa", sum := "5d5e7cc8494f0b27f78df376004bed7832df6c00d6dd6d46429a240e8425f87c", func := "dialtone/dialtonelaw36.QueuesRaw", spec := "queuesRaw", unfollowed := true, recurses := true, apart := false, narrowed := true }
def QueuesRawUptoSaid : Prop := queuesRawUptoRow.holds Try.pinned (OpenSpec.upto queuesRawSpec)

/-- 'dialtonelaw36.QueuesPlays', WHERE WHAT IT READS IS OF BULK AT MOST 1048576: true; the input reads as it did. -/
def queuesPlaysUptoRow : OpenClaim := { program := "ytkmfgldoljegoaa", sum := "5d5e7cc8494f0b27f78df376004bed7832df6c00d6dd6d46429a240e8425f87c", func := "dialtone/dialtonelaw36.QueuesPlays", spec := "queuesPlays", unfollowed := true, recurses := true, apart := false, narrowed := true }
def QueuesPlaysUptoSaid : Prop := queuesPlaysUptoRow.holds Try.pinned (OpenSpec.upto queuesPlaysSpec)

/-- 'dialtonelaw36.QueuesOne', WHERE WHAT IT READS IS OF BULK AT MOST 1048576: true; the input reads as it did. -/
def queuesOneUptoRow : OpenClaim := { program := "ytkmfgldoljegoaa", sum := "5d5e7cc8494f0b27f78df376004bed7832df6c00d6dd6d46429a240e8425f87c", func := "dialtone/dialtonelaw36.QueuesOne", spec := "queuesOne", unfollowed := true, recurses := true, apart := false, narrowed := true }
def QueuesOneUptoSaid : Prop := queuesOneUptoRow.holds Try.pinned (OpenSpec.upto queuesOneSpec)

/-- 'dialtonelaw36.QueuesParks', WHERE WHAT IT READS IS OF BULK AT MOST 1048576: true; the input reads as it did. -/
def queuesParksUptoRow : OpenClaim := { program := "ytkmfgldoljegoaa", sum := "5d5e7cc8494f0b27f78df376004bed7832df6c00d6dd6d46429a240e8425f87c", func := "dialtone/dialtonelaw36.QueuesParks", spec := "queuesParks", unfollowed := true, recurses := true, apart := false, narrowed := true }
def QueuesParksUptoSaid : Prop := queuesParksUptoRow.holds Try.pinned (OpenSpec.upto queuesParksSpec)

/-- 'dialtonelaw36.QueuesMails', WHERE WHAT IT READS IS OF BULK AT MOST 1048576: true; the input reads as it did. -/
def queuesMailsUptoRow : OpenClaim := { program := "ytkmfgldoljegoaa", sum := "5d5e7cc8494f0b27f78df376004bed7832df6c00d6dd6d46429a240e8425f87c", func := "dialtone/dialtonelaw36.QueuesMails", spec := "queuesMails", unfollowed := true, recurses := true, apart := false, narrowed := true }
def QueuesMailsUptoSaid : Prop := queuesMailsUptoRow.holds Try.pinned (OpenSpec.upto queuesMailsSpec)

/-- 'dialtonelaw36.QueuesKnown', WHERE WHAT IT READS IS OF BULK AT MOST 1048576: true; the input reads as it did. -/
def queuesKnownUptoRow : OpenClaim := { program := "ytkmfgldoljegoaa", sum := "5d5e7cc8494f0b27f78df376004bed7832df6c00d6dd6d46429a240e8425f87c", func := "dialtone/dialtonelaw36.QueuesKnown", spec := "queuesKnown", unfollowed := true, recurses := true, apart := false, narrowed := true }
def QueuesKnownUptoSaid : Prop := queuesKnownUptoRow.holds Try.pinned (OpenSpec.upto queuesKnownSpec)

end Rows
end Go.Proofs.Ytkmfgldoljegoaa
