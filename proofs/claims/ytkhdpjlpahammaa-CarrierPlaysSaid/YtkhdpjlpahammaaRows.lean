/-
  No cell of these rows narrows 'for every input' (looked for: loops, veiled, ifaces, maps, wideKeys, modest, calm, conditions, laid).
  DERIVED. THE GIVEN ROWS OF THIS SEAT. 4 by the template 'for every input the law returns true; each argument reads behind the call as it read before'; 0 by the template 'total and deterministic' (their statements: YtkhdpjlpahammaaTotals.lean).
  GIVEN WITH THE SEED: the statements are not yours to turn. If you find one false, say at which input.
  Laid BY PROGRAM, IN A SANDBOX (cutbox-rows.mjs): the forced cells as the released guide's own fill.sh prints them over the translation 6150c442a4a0d2fe… (all of the seat's roots in one cut). By AI agents, Wed Nov 11 2026. No macro, syntax, notation, axiom, sorry.
-/
import Derived.Test.YtkhdpjlpahammaaChecked
import GoSem.Claim
import GoSem.ClaimJoined
import GoSem.ClaimMapViews
import Derived.JoinedTies
import Derived.KernelRfl
namespace Go.Proofs.Ytkhdpjlpahammaa
/- THE CELL 'sum', in the pinned program and in every row, IS THE sha256 OF THE DUMP (.gsa) THAT YtkhdpjlpahammaaProg.lean LOADS. Nothing in Lean hashes anything: it is a label: what it is worth is what the hold of that sum in a sandbox is worth. -/
noncomputable def Try.pinned : Pinned := { name := "ytkhdpjlpahammaa", sum := "6150c442a4a0d2fe3a651aae19ee64c6ff65ce4399ef580fa9a2e00bd2ceb823", checked := Try.checked }
namespace Rows
def none {H : Type} : Left H := { results := [], args := [] }

/-- 'dialtonelaw11.CarrierDelivers': WHATEVER THE INPUT: true; the input reads as it did. -/
def carrierDeliversSpec : ChangeSpec := { name := "carrierDelivers", fn := fun _ => fun
  | [d1, d2] => { results := [.lit (.bool true)], args := [d1, d2] }
  | _ => none }
def carrierDeliversRow : OpenClaim := { program := "ytkhdpjlpahammaa", sum := "6150c442a4a0d2fe3a651aae19ee64c6ff65ce4399ef580fa9a2e00bd2ceb823", func := "dialtone/dialtonelaw11.CarrierDelivers", spec := "carrierDelivers", unfollowed := true, recurses := true, apart := false }
def CarrierDeliversSaid : Prop := carrierDeliversRow.holds Try.pinned (OpenSpec.ofChange carrierDeliversSpec)

/-- ITS FALSE NEIGHBOUR: 'it returns false'. Refute it at one input. -/
def carrierDeliversWrong : ChangeSpec := { name := "carrierDelivers", fn := fun _ => fun
  | [d1, d2] => { results := [.lit (.bool false)], args := [d1, d2] }
  | _ => none }
def CarrierDeliversWrongFalsely : Prop := carrierDeliversRow.holds Try.pinned (OpenSpec.ofChange carrierDeliversWrong)

/-- 'dialtonelaw11.CarrierFull': WHATEVER THE INPUT: true; the input reads as it did. -/
def carrierFullSpec : ChangeSpec := { name := "carrierFull", fn := fun _ => fun
  | [] => { results := [.lit (.bool true)], args := [] }
  | _ => none }
def carrierFullRow : OpenClaim := { program := "ytkhdpjlpahammaa", sum := "6150c442a4a0d2fe3a651aae19ee64c6ff65ce4399ef580fa9a2e00bd2ceb823", func := "dialtone/dialtonelaw11.CarrierFull", spec := "carrierFull", unfollowed := true, recurses := true, apart := false }
def CarrierFullSaid : Prop := carrierFullRow.holds Try.pinned (OpenSpec.ofChange carrierFullSpec)

/-- ITS FALSE NEIGHBOUR: 'it returns false'. Refute it at one input. -/
def carrierFullWrong : ChangeSpec := { name := "carrierFull", fn := fun _ => fun
  | [] => { results := [.lit (.bool false)], args := [] }
  | _ => none }
def CarrierFullWrongFalsely : Prop := carrierFullRow.holds Try.pinned (OpenSpec.ofChange carrierFullWrong)

/-- 'dialtonelaw11.CarrierKnown': WHATEVER THE INPUT: true; the input reads as it did. -/
def carrierKnownSpec : ChangeSpec := { name := "carrierKnown", fn := fun _ => fun
  | [] => { results := [.lit (.bool true)], args := [] }
  | _ => none }
def carrierKnownRow : OpenClaim := { program := "ytkhdpjlpahammaa", sum := "6150c442a4a0d2fe3a651aae19ee64c6ff65ce4399ef580fa9a2e00bd2ceb823", func := "dialtone/dialtonelaw11.CarrierKnown", spec := "carrierKnown", unfollowed := true, recurses := true, apart := false }
def CarrierKnownSaid : Prop := carrierKnownRow.holds Try.pinned (OpenSpec.ofChange carrierKnownSpec)

/-- ITS FALSE NEIGHBOUR: 'it returns false'. Refute it at one input. -/
def carrierKnownWrong : ChangeSpec := { name := "carrierKnown", fn := fun _ => fun
  | [] => { results := [.lit (.bool false)], args := [] }
  | _ => none }
def CarrierKnownWrongFalsely : Prop := carrierKnownRow.holds Try.pinned (OpenSpec.ofChange carrierKnownWrong)

/-- 'dialtonelaw11.CarrierPlays': WHATEVER THE INPUT: true; the input reads as it did. -/
def carrierPlaysSpec : ChangeSpec := { name := "carrierPlays", fn := fun _ => fun
  | [d1, d2] => { results := [.lit (.bool true)], args := [d1, d2] }
  | _ => none }
def carrierPlaysRow : OpenClaim := { program := "ytkhdpjlpahammaa", sum := "6150c442a4a0d2fe3a651aae19ee64c6ff65ce4399ef580fa9a2e00bd2ceb823", func := "dialtone/dialtonelaw11.CarrierPlays", spec := "carrierPlays", unfollowed := true, recurses := true, apart := false }
def CarrierPlaysSaid : Prop := carrierPlaysRow.holds Try.pinned (OpenSpec.ofChange carrierPlaysSpec)

/-- ITS FALSE NEIGHBOUR: 'it returns false'. Refute it at one input. -/
def carrierPlaysWrong : ChangeSpec := { name := "carrierPlays", fn := fun _ => fun
  | [d1, d2] => { results := [.lit (.bool false)], args := [d1, d2] }
  | _ => none }
def CarrierPlaysWrongFalsely : Prop := carrierPlaysRow.holds Try.pinned (OpenSpec.ofChange carrierPlaysWrong)

/- THE SECOND FORM. 'bulk': how many values and letters a reading holds, each counted each time it is reached (what is shared counts as often as it is met; a slice's spare places count too). A statement '..UptoSaid' is the law's where the arguments, and the package variables that the reading takes, are together of bulk at most 1048576: NARROWER than '..Said'. Prove '..Said' where nothing that the law and all that it calls make is longer than what came in: it says more and counts as full. Else prove '..UptoSaid'. A law counts once. -/
mutual
def uptoBulk {H : Type} : DataW H → Nat
  | .lit (.string bytes) => bytes.length + 1
  | .lit _ => 1
  | .nil => 1
  | .ptr d => uptoBulk d + 1
  | .slice elems spare => uptoBulkAll elems + uptoBulkAll spare + 1
  | .agg parts => uptoBulkAll parts + 1
  | .iface _ d => uptoBulk d + 1
  | .map entries => uptoBulkEntries entries + 1
  | .held _ => 1
def uptoBulkAll {H : Type} : List (DataW H) → Nat
  | [] => 0
  | d :: r => uptoBulk d + uptoBulkAll r
def uptoBulkEntries {H : Type} : List (Lit × DataW H) → Nat
  | [] => 0
  | x :: r => uptoBulkEntry x + uptoBulkEntries r
def uptoBulkEntry {H : Type} : Lit × DataW H → Nat
  | (.string bytes, d) => bytes.length + uptoBulk d + 1
  | (_, d) => uptoBulk d + 1
 end
def uptoSmall : (H : Type) → List (DataW H) → Bool := fun _ ds => decide (uptoBulkAll ds ≤ 1048576)
def OpenSpec.upto (s : _root_.Go.ChangeSpec) : _root_.Go.OpenSpec := { _root_.Go.OpenSpec.ofChange s with cond := some uptoSmall }

/-- 'dialtonelaw11.CarrierDelivers', WHERE WHAT IT READS IS OF BULK AT MOST 1048576: true; the input reads as it did. -/
def carrierDeliversUptoRow : OpenClaim := { program := "ytkhdpjlpahammaa", sum := "6150c442a4a0d2fe3a651aae19ee64c6ff65ce4399ef580fa9a2e00bd2ceb823", func := "dialtone/dialtonelaw11.CarrierDelivers", spec := "carrierDelivers", unfollowed := true, recurses := true, apart := false, narrowed := true }
def CarrierDeliversUptoSaid : Prop := carrierDeliversUptoRow.holds Try.pinned (OpenSpec.upto carrierDeliversSpec)

/-- 'dialtonelaw11.CarrierFull', WHERE WHAT IT READS IS OF BULK AT MOST 1048576: true; the input reads as it did. -/
def carrierFullUptoRow : OpenClaim := { program := "ytkhdpjlpahammaa", sum := "6150c442a4a0d2fe3a651aae19ee64c6ff65ce4399ef580fa9a2e00bd2ceb823", func := "dialtone/dialtonelaw11.CarrierFull", spec := "carrierFull", unfollowed := true, recurses := true, apart := false, narrowed := true }
def CarrierFullUptoSaid : Prop := carrierFullUptoRow.holds Try.pinned (OpenSpec.upto carrierFullSpec)

/-- 'dialtonelaw11.CarrierKnown', WHERE WHAT IT READS IS OF BULK AT MOST 1048576: true; the input reads as it did. -/
def carrierKnownUptoRow : OpenClaim := { program := "ytkhdpjlpahammaa", sum := "6150c442a4a0d2fe3a651aae19ee64c6ff65ce4399ef580fa9a2e00bd2ceb823", func := "dialtone/dialtonelaw11.CarrierKnown", spec := "carrierKnown", unfollowed := true, recurses := true, apart := false, narrowed := true }
def CarrierKnownUptoSaid : Prop := carrierKnownUptoRow.holds Try.pinned (OpenSpec.upto carrierKnownSpec)

/-- 'dialtonelaw11.CarrierPlays', WHERE WHAT IT READS IS OF BULK AT MOST 1048576: true; the input reads as it did. -/
def carrierPlaysUptoRow : OpenClaim := { program := "ytkhdpjlpahammaa", sum := "6150c442a4a0d2fe3a651aae19ee64c6ff65ce4399ef580fa9a2e00bd2ceb823", func := "dialtone/dialtonelaw11.CarrierPlays", spec := "carrierPlays", unfollowed := true, recurses := true, apart := false, narrowed := true }
def CarrierPlaysUptoSaid : Prop := carrierPlaysUptoRow.holds Try.pinned (OpenSpec.upto carrierPlaysSpec)

end Rows
end Go.Proofs.Ytkhdpjlpahammaa
