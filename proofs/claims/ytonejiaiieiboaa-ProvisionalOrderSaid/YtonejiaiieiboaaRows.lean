/-
  No cell of these rows narrows 'for every input' (looked for: loops, veiled, ifaces, maps, wideKeys, modest, calm, conditions, laid).
  DERIVED. THE GIVEN ROWS OF THIS SEAT. 5 by the template 'for every input the law returns true; each argument reads behind the call as it read before'; 0 by the template 'total and deterministic' (their statements: YtonejiaiieiboaaTotals.lean).
  GIVEN WITH THE SEED: the statements are not yours to turn. If you find one false, say at which input.
  Laid BY PROGRAM, IN A SANDBOX (cutbox-rows.mjs): the forced cells as the released guide's own fill.sh prints them over the translation a4f8419f85fcd9f2… (all of the seat's roots in one cut). By AI agents, Wed Nov 11 2026. No macro, syntax, notation, axiom, sorry.
-/
import Derived.Test.YtonejiaiieiboaaChecked
import GoSem.Claim
import GoSem.ClaimJoined
import GoSem.ClaimMapViews
import Derived.JoinedTies
import Derived.KernelRfl
namespace Go.Proofs.Ytonejiaiieiboaa
/- THE CELL 'sum', in the pinned program and in every row, IS THE sha256 OF THE DUMP (.gsa) THAT YtonejiaiieiboaaProg.lean LOADS. Nothing in Lean hashes anything: it is a label: what it is worth is what the hold of that sum in a sandbox is worth. -/
noncomputable def Try.pinned : Pinned := { name := "ytonejiaiieiboaa", sum := "a4f8419f85fcd9f2d9db2317c0aa82c6c3d2ca4943be47687975080625c944af", checked := Try.checked }
namespace Rows
def none {H : Type} : Left H := { results := [], args := [] }

/-- 'dialtonelaw18.ProvisionalAccepts': WHATEVER THE INPUT: true; the input reads as it did. -/
def provisionalAcceptsSpec : ChangeSpec := { name := "provisionalAccepts", fn := fun _ => fun
  | [d1, d2] => { results := [.lit (.bool true)], args := [d1, d2] }
  | _ => none }
def provisionalAcceptsRow : OpenClaim := { program := "ytonejiaiieiboaa", sum := "a4f8419f85fcd9f2d9db2317c0aa82c6c3d2ca4943be47687975080625c944af", func := "dialtone/dialtonelaw18.ProvisionalAccepts", spec := "provisionalAccepts", apart := false }
def ProvisionalAcceptsSaid : Prop := provisionalAcceptsRow.holds Try.pinned (OpenSpec.ofChange provisionalAcceptsSpec)

/-- ITS FALSE NEIGHBOUR: 'it returns false'. Refute it at one input. -/
def provisionalAcceptsWrong : ChangeSpec := { name := "provisionalAccepts", fn := fun _ => fun
  | [d1, d2] => { results := [.lit (.bool false)], args := [d1, d2] }
  | _ => none }
def ProvisionalAcceptsWrongFalsely : Prop := provisionalAcceptsRow.holds Try.pinned (OpenSpec.ofChange provisionalAcceptsWrong)

/-- 'dialtonelaw18.ProvisionalNumbers': WHATEVER THE INPUT: true; the input reads as it did. -/
def provisionalNumbersSpec : ChangeSpec := { name := "provisionalNumbers", fn := fun _ => fun
  | [d] => { results := [.lit (.bool true)], args := [d] }
  | _ => none }
def provisionalNumbersRow : OpenClaim := { program := "ytonejiaiieiboaa", sum := "a4f8419f85fcd9f2d9db2317c0aa82c6c3d2ca4943be47687975080625c944af", func := "dialtone/dialtonelaw18.ProvisionalNumbers", spec := "provisionalNumbers", apart := false }
def ProvisionalNumbersSaid : Prop := provisionalNumbersRow.holds Try.pinned (OpenSpec.ofChange provisionalNumbersSpec)

/-- ITS FALSE NEIGHBOUR: 'it returns false'. Refute it at one input. -/
def provisionalNumbersWrong : ChangeSpec := { name := "provisionalNumbers", fn := fun _ => fun
  | [d] => { results := [.lit (.bool false)], args := [d] }
  | _ => none }
def ProvisionalNumbersWrongFalsely : Prop := provisionalNumbersRow.holds Try.pinned (OpenSpec.ofChange provisionalNumbersWrong)

/-- 'dialtonelaw18.ProvisionalOrder': WHATEVER THE INPUT: true; the input reads as it did. -/
def provisionalOrderSpec : ChangeSpec := { name := "provisionalOrder", fn := fun _ => fun
  | [d1, d2] => { results := [.lit (.bool true)], args := [d1, d2] }
  | _ => none }
def provisionalOrderRow : OpenClaim := { program := "ytonejiaiieiboaa", sum := "a4f8419f85fcd9f2d9db2317c0aa82c6c3d2ca4943be47687975080625c944af", func := "dialtone/dialtonelaw18.ProvisionalOrder", spec := "provisionalOrder", unfollowed := true, recurses := true, apart := false }
def ProvisionalOrderSaid : Prop := provisionalOrderRow.holds Try.pinned (OpenSpec.ofChange provisionalOrderSpec)

/-- ITS FALSE NEIGHBOUR: 'it returns false'. Refute it at one input. -/
def provisionalOrderWrong : ChangeSpec := { name := "provisionalOrder", fn := fun _ => fun
  | [d1, d2] => { results := [.lit (.bool false)], args := [d1, d2] }
  | _ => none }
def ProvisionalOrderWrongFalsely : Prop := provisionalOrderRow.holds Try.pinned (OpenSpec.ofChange provisionalOrderWrong)

/-- 'dialtonelaw18.ProvisionalKnown': WHATEVER THE INPUT: true; the input reads as it did. -/
def provisionalKnownSpec : ChangeSpec := { name := "provisionalKnown", fn := fun _ => fun
  | [] => { results := [.lit (.bool true)], args := [] }
  | _ => none }
def provisionalKnownRow : OpenClaim := { program := "ytonejiaiieiboaa", sum := "a4f8419f85fcd9f2d9db2317c0aa82c6c3d2ca4943be47687975080625c944af", func := "dialtone/dialtonelaw18.ProvisionalKnown", spec := "provisionalKnown", apart := false }
def ProvisionalKnownSaid : Prop := provisionalKnownRow.holds Try.pinned (OpenSpec.ofChange provisionalKnownSpec)

/-- ITS FALSE NEIGHBOUR: 'it returns false'. Refute it at one input. -/
def provisionalKnownWrong : ChangeSpec := { name := "provisionalKnown", fn := fun _ => fun
  | [] => { results := [.lit (.bool false)], args := [] }
  | _ => none }
def ProvisionalKnownWrongFalsely : Prop := provisionalKnownRow.holds Try.pinned (OpenSpec.ofChange provisionalKnownWrong)

/-- 'dialtonelaw18.ProvisionalSteps': WHATEVER THE INPUT: true; the input reads as it did. -/
def provisionalStepsSpec : ChangeSpec := { name := "provisionalSteps", fn := fun _ => fun
  | [d1, d2, d3] => { results := [.lit (.bool true)], args := [d1, d2, d3] }
  | _ => none }
def provisionalStepsRow : OpenClaim := { program := "ytonejiaiieiboaa", sum := "a4f8419f85fcd9f2d9db2317c0aa82c6c3d2ca4943be47687975080625c944af", func := "dialtone/dialtonelaw18.ProvisionalSteps", spec := "provisionalSteps", apart := false }
def ProvisionalStepsSaid : Prop := provisionalStepsRow.holds Try.pinned (OpenSpec.ofChange provisionalStepsSpec)

/-- ITS FALSE NEIGHBOUR: 'it returns false'. Refute it at one input. -/
def provisionalStepsWrong : ChangeSpec := { name := "provisionalSteps", fn := fun _ => fun
  | [d1, d2, d3] => { results := [.lit (.bool false)], args := [d1, d2, d3] }
  | _ => none }
def ProvisionalStepsWrongFalsely : Prop := provisionalStepsRow.holds Try.pinned (OpenSpec.ofChange provisionalStepsWrong)

/- THE SECOND FORM. 'bulk': how many values and letters a reading holds, each counted each time it is reached (what is shared counts as often as it is met; a slice's spare places count too). A statement '..UptoSaid' is the law's where the arguments, and the package variables that the reading takes, are together of bulk at most 1048576: NARROWER than '..Said'. Prove '..Said' where nothing that the law and all that it calls make is longer than what came in: it says more and counts as full. Else prove '..UptoSaid'. A law counts once. -/
mutual
def uptoBulk {H : Type} : DataW H → Nat
  | .lit (.string bytes) => bytes.length + 1
  | .lit _ => 1
  | .nil => 1
  | .ptr d => uptoBulk d + 1
  | .slice elems spare => uptoBulkAll elems + uptoBulkAll spare + 1
  | .agg parts => uptoBulkAll parts + 1
  | .iface _ d => uptoBulk d + 1
  | .map entries => uptoBulkEntries entries + 1
  | .held _ => 1
def uptoBulkAll {H : Type} : List (DataW H) → Nat
  | [] => 0
  | d :: r => uptoBulk d + uptoBulkAll r
def uptoBulkEntries {H : Type} : List (Lit × DataW H) → Nat
  | [] => 0
  | x :: r => uptoBulkEntry x + uptoBulkEntries r
def uptoBulkEntry {H : Type} : Lit × DataW H → Nat
  | (.string bytes, d) => bytes.length + uptoBulk d + 1
  | (_, d) => uptoBulk d + 1
 end
def uptoSmall : (H : Type) → List (DataW H) → Bool := fun _ ds => decide (uptoBulkAll ds ≤ 1048576)
def OpenSpec.upto (s : _root_.Go.ChangeSpec) : _root_.Go.OpenSpec := { _root_.Go.OpenSpec.ofChange s with cond := some uptoSmall }

/-- 'dialtonelaw18.ProvisionalAccepts', WHERE WHAT IT READS IS OF BULK AT MOST 1048576: true; the input reads as it did. -/
def provisionalAcceptsUptoRow : OpenClaim := { program := "ytonejiaiieiboaa", sum := "a4f8419f85fcd9f2d9db2317c0aa82c6c3d2ca4943be47687975080625c944af", func := "dialtone/dialtonelaw18.ProvisionalAccepts", spec := "provisionalAccepts", apart := false, narrowed := true }
def ProvisionalAcceptsUptoSaid : Prop := provisionalAcceptsUptoRow.holds Try.pinned (OpenSpec.upto provisionalAcceptsSpec)

/-- 'dialtonelaw18.ProvisionalNumbers', WHERE WHAT IT READS IS OF BULK AT MOST 1048576: true; the input reads as it did. -/
def provisionalNumbersUptoRow : OpenClaim := { program := "ytonejiaiieiboaa", sum := "a4f8419f85fcd9f2d9db2317c0aa82c6c3d2ca4943be47687975080625c944af", func := "dialtone/dialtonelaw18.ProvisionalNumbers", spec := "provisionalNumbers", apart := false, narrowed := true }
def ProvisionalNumbersUptoSaid : Prop := provisionalNumbersUptoRow.holds Try.pinned (OpenSpec.upto provisionalNumbersSpec)

/-- 'dialtonelaw18.ProvisionalOrder', WHERE WHAT IT READS IS OF BULK AT MOST 1048576: true; the input reads as it did. -/
def provisionalOrderUptoRow : OpenClaim := { program := "ytonejiaiieiboaa", sum := "a4f8419f85fcd9f2d9db2317c0aa82c6c3d2ca4943be47687975080625c944af", func := "dialtone/dialtonelaw18.ProvisionalOrder", spec := "provisionalOrder", unfollowed := true, recurses := true, apart := false, narrowed := true }
def ProvisionalOrderUptoSaid : Prop := provisionalOrderUptoRow.holds Try.pinned (OpenSpec.upto provisionalOrderSpec)

/-- 'dialtonelaw18.ProvisionalKnown', WHERE WHAT IT READS IS OF BULK AT MOST 1048576: true; the input reads as it did. -/
def provisionalKnownUptoRow : OpenClaim := { program := "ytonejiaiieiboaa", sum := "a4f8419f85fcd9f2d9db2317c0aa82c6c3d2ca4943be47687975080625c944af", func := "dialtone/dialtonelaw18.ProvisionalKnown", spec := "provisionalKnown", apart := false, narrowed := true }
def ProvisionalKnownUptoSaid : Prop := provisionalKnownUptoRow.holds Try.pinned (OpenSpec.upto provisionalKnownSpec)

/-- 'dialtonelaw18.ProvisionalSteps', WHERE WHAT IT READS IS OF BULK AT MOST 1048576: true; the input reads as it did. -/
def provisionalStepsUptoRow : OpenClaim := { program := "ytonejiaiieiboaa", sum := "a4f8419f85fcd9f2d9db2317c0aa82c6c3d2ca4943be47687975080625c944af", func := "dialtone/dialtonelaw18.ProvisionalSteps", spec := "provisionalSteps", apart := false, narrowed := true }
def ProvisionalStepsUptoSaid : Prop := provisionalStepsUptoRow.holds Try.pinned (OpenSpec.upto provisionalStepsSpec)

end Rows
end Go.Proofs.Ytonejiaiieiboaa
