/-
  No cell of these rows narrows 'for every input' (looked for: loops, veiled, ifaces, maps, wideKeys, modest, calm, conditions, laid).
  DERIVED. THE GIVEN ROWS OF THIS SEAT. 7 by the template 'for every input the law returns true; each argument reads behind the call as it read before'; 0 by the template 'total and deterministic' (their statements: YtbckoncbimljeaaTotals.lean).
  GIVEN WITH THE SEED: the statements are not yours to turn. If you find one false, say at which input.
  Laid BY PROGRAM, IN A SANDBOX (cutbox-rows.mjs): the forced cells as the released guide's own fill.sh prints them over the translation c42f7e018eae6d2a… (all of the seat's roots in one cut). By AI agents, Wed Nov 11 2026. No macro, syntax, notation, axiom, sorry.
-/
import Derived.Test.YtbckoncbimljeaaChecked
import GoSem.Claim
import GoSem.ClaimJoined
import GoSem.ClaimMapViews
import Derived.JoinedTies
import Derived.KernelRfl
namespace Go.Proofs.Ytbckoncbimljeaa
/- THE CELL 'sum', in the pinned program and in every row, IS THE sha256 OF THE DUMP (.gsa) THAT YtbckoncbimljeaaProg.lean LOADS. Nothing in Lean hashes anything: it is a label: what it is worth is what the hold of that sum in a sandbox is worth. -/
noncomputable def Try.pinned : Pinned := { name := "ytbckoncbimljeaa", sum := "c42f7e018eae6d2ad049061c3a898d5c39df1ed6ed43702b7a4b3abaa6c24aa3", checked := Try.checked }
namespace Rows
def none {H : Type} : Left H := { results := [], args := [] }

/-- 'dialtonelaw37.RatingFinds': WHATEVER THE INPUT: true; the input reads as it did. -/
def ratingFindsSpec : ChangeSpec := { name := "ratingFinds", fn := fun _ => fun
  | [d1, d2] => { results := [.lit (.bool true)], args := [d1, d2] }
  | _ => none }
def ratingFindsRow : OpenClaim := { program := "ytbckoncbimljeaa", sum := "c42f7e018eae6d2ad049061c3a898d5c39df1ed6ed43702b7a4b3abaa6c24aa3", func := "dialtone/dialtonelaw37.RatingFinds", spec := "ratingFinds", unfollowed := true, recurses := true, apart := false }
def RatingFindsSaid : Prop := ratingFindsRow.holds Try.pinned (OpenSpec.ofChange ratingFindsSpec)

/-- ITS FALSE NEIGHBOUR: 'it returns false'. Refute it at one input. -/
def ratingFindsWrong : ChangeSpec := { name := "ratingFinds", fn := fun _ => fun
  | [d1, d2] => { results := [.lit (.bool false)], args := [d1, d2] }
  | _ => none }
def RatingFindsWrongFalsely : Prop := ratingFindsRow.holds Try.pinned (OpenSpec.ofChange ratingFindsWrong)

/-- 'dialtonelaw37.RatingPieces': WHATEVER THE INPUT: true; the input reads as it did. -/
def ratingPiecesSpec : ChangeSpec := { name := "ratingPieces", fn := fun _ => fun
  | [d1, d2, d3] => { results := [.lit (.bool true)], args := [d1, d2, d3] }
  | _ => none }
def ratingPiecesRow : OpenClaim := { program := "ytbckoncbimljeaa", sum := "c42f7e018eae6d2ad049061c3a898d5c39df1ed6ed43702b7a4b3abaa6c24aa3", func := "dialtone/dialtonelaw37.RatingPieces", spec := "ratingPieces", unfollowed := true, recurses := true, apart := false }
def RatingPiecesSaid : Prop := ratingPiecesRow.holds Try.pinned (OpenSpec.ofChange ratingPiecesSpec)

/-- ITS FALSE NEIGHBOUR: 'it returns false'. Refute it at one input. -/
def ratingPiecesWrong : ChangeSpec := { name := "ratingPieces", fn := fun _ => fun
  | [d1, d2, d3] => { results := [.lit (.bool false)], args := [d1, d2, d3] }
  | _ => none }
def RatingPiecesWrongFalsely : Prop := ratingPiecesRow.holds Try.pinned (OpenSpec.ofChange ratingPiecesWrong)

/-- 'dialtonelaw37.RatingCosts': WHATEVER THE INPUT: true; the input reads as it did. -/
def ratingCostsSpec : ChangeSpec := { name := "ratingCosts", fn := fun _ => fun
  | [d1, d2, d3, d4] => { results := [.lit (.bool true)], args := [d1, d2, d3, d4] }
  | _ => none }
def ratingCostsRow : OpenClaim := { program := "ytbckoncbimljeaa", sum := "c42f7e018eae6d2ad049061c3a898d5c39df1ed6ed43702b7a4b3abaa6c24aa3", func := "dialtone/dialtonelaw37.RatingCosts", spec := "ratingCosts", unfollowed := true, recurses := true, apart := false }
def RatingCostsSaid : Prop := ratingCostsRow.holds Try.pinned (OpenSpec.ofChange ratingCostsSpec)

/-- ITS FALSE NEIGHBOUR: 'it returns false'. Refute it at one input. -/
def ratingCostsWrong : ChangeSpec := { name := "ratingCosts", fn := fun _ => fun
  | [d1, d2, d3, d4] => { results := [.lit (.bool false)], args := [d1, d2, d3, d4] }
  | _ => none }
def RatingCostsWrongFalsely : Prop := ratingCostsRow.holds Try.pinned (OpenSpec.ofChange ratingCostsWrong)

/-- 'dialtonelaw37.RatingGrows': WHATEVER THE INPUT: true; the input reads as it did. -/
def ratingGrowsSpec : ChangeSpec := { name := "ratingGrows", fn := fun _ => fun
  | [d1, d2, d3, d4] => { results := [.lit (.bool true)], args := [d1, d2, d3, d4] }
  | _ => none }
def ratingGrowsRow : OpenClaim := { program := "ytbckoncbimljeaa", sum := "c42f7e018eae6d2ad049061c3a898d5c39df1ed6ed43702b7a4b3abaa6c24aa3", func := "dialtone/dialtonelaw37.RatingGrows", spec := "ratingGrows", unfollowed := true, recurses := true, apart := false }
def RatingGrowsSaid : Prop := ratingGrowsRow.holds Try.pinned (OpenSpec.ofChange ratingGrowsSpec)

/-- ITS FALSE NEIGHBOUR: 'it returns false'. Refute it at one input. -/
def ratingGrowsWrong : ChangeSpec := { name := "ratingGrows", fn := fun _ => fun
  | [d1, d2, d3, d4] => { results := [.lit (.bool false)], args := [d1, d2, d3, d4] }
  | _ => none }
def RatingGrowsWrongFalsely : Prop := ratingGrowsRow.holds Try.pinned (OpenSpec.ofChange ratingGrowsWrong)

/-- 'dialtonelaw37.RatingFlat': WHATEVER THE INPUT: true; the input reads as it did. -/
def ratingFlatSpec : ChangeSpec := { name := "ratingFlat", fn := fun _ => fun
  | [d1, d2, d3, d4] => { results := [.lit (.bool true)], args := [d1, d2, d3, d4] }
  | _ => none }
def ratingFlatRow : OpenClaim := { program := "ytbckoncbimljeaa", sum := "c42f7e018eae6d2ad049061c3a898d5c39df1ed6ed43702b7a4b3abaa6c24aa3", func := "dialtone/dialtonelaw37.RatingFlat", spec := "ratingFlat", unfollowed := true, recurses := true, apart := false }
def RatingFlatSaid : Prop := ratingFlatRow.holds Try.pinned (OpenSpec.ofChange ratingFlatSpec)

/-- ITS FALSE NEIGHBOUR: 'it returns false'. Refute it at one input. -/
def ratingFlatWrong : ChangeSpec := { name := "ratingFlat", fn := fun _ => fun
  | [d1, d2, d3, d4] => { results := [.lit (.bool false)], args := [d1, d2, d3, d4] }
  | _ => none }
def RatingFlatWrongFalsely : Prop := ratingFlatRow.holds Try.pinned (OpenSpec.ofChange ratingFlatWrong)

/-- 'dialtonelaw37.RatingKnown': WHATEVER THE INPUT: true; the input reads as it did. -/
def ratingKnownSpec : ChangeSpec := { name := "ratingKnown", fn := fun _ => fun
  | [] => { results := [.lit (.bool true)], args := [] }
  | _ => none }
def ratingKnownRow : OpenClaim := { program := "ytbckoncbimljeaa", sum := "c42f7e018eae6d2ad049061c3a898d5c39df1ed6ed43702b7a4b3abaa6c24aa3", func := "dialtone/dialtonelaw37.RatingKnown", spec := "ratingKnown", unfollowed := true, recurses := true, apart := false }
def RatingKnownSaid : Prop := ratingKnownRow.holds Try.pinned (OpenSpec.ofChange ratingKnownSpec)

/-- ITS FALSE NEIGHBOUR: 'it returns false'. Refute it at one input. -/
def ratingKnownWrong : ChangeSpec := { name := "ratingKnown", fn := fun _ => fun
  | [] => { results := [.lit (.bool false)], args := [] }
  | _ => none }
def RatingKnownWrongFalsely : Prop := ratingKnownRow.holds Try.pinned (OpenSpec.ofChange ratingKnownWrong)

/-- 'dialtonelaw37.RatingTimes': WHATEVER THE INPUT: true; the input reads as it did. -/
def ratingTimesSpec : ChangeSpec := { name := "ratingTimes", fn := fun _ => fun
  | [d1, d2, d3, d4] => { results := [.lit (.bool true)], args := [d1, d2, d3, d4] }
  | _ => none }
def ratingTimesRow : OpenClaim := { program := "ytbckoncbimljeaa", sum := "c42f7e018eae6d2ad049061c3a898d5c39df1ed6ed43702b7a4b3abaa6c24aa3", func := "dialtone/dialtonelaw37.RatingTimes", spec := "ratingTimes", unfollowed := true, recurses := true, apart := false }
def RatingTimesSaid : Prop := ratingTimesRow.holds Try.pinned (OpenSpec.ofChange ratingTimesSpec)

/-- ITS FALSE NEIGHBOUR: 'it returns false'. Refute it at one input. -/
def ratingTimesWrong : ChangeSpec := { name := "ratingTimes", fn := fun _ => fun
  | [d1, d2, d3, d4] => { results := [.lit (.bool false)], args := [d1, d2, d3, d4] }
  | _ => none }
def RatingTimesWrongFalsely : Prop := ratingTimesRow.holds Try.pinned (OpenSpec.ofChange ratingTimesWrong)

/- THE SECOND FORM. 'bulk': how many values and letters a reading holds, each counted each time it is reached (what is shared counts as often as it is met; a slice's spare places count too). A statement '..UptoSaid' is the law's where the arguments, and the package variables that the reading takes, are together of bulk at most 1048576: NARROWER than '..Said'. Prove '..Said' where nothing that the law and all that it calls make is longer than what came in: it says more and counts as full. Else prove '..UptoSaid'. A law counts once. -/
mutual
def uptoBulk {H : Type} : DataW H → Nat
  | .lit (.string bytes) => bytes.length + 1
  | .lit _ => 1
  | .nil => 1
  | .ptr d => uptoBulk d + 1
  | .slice elems spare => uptoBulkAll elems + uptoBulkAll spare + 1
  | .agg parts => uptoBulkAll parts + 1
  | .iface _ d => uptoBulk d + 1
  | .map entries => uptoBulkEntries entries + 1
  | .held _ => 1
def uptoBulkAll {H : Type} : List (DataW H) → Nat
  | [] => 0
  | d :: r => uptoBulk d + uptoBulkAll r
def uptoBulkEntries {H : Type} : List (Lit × DataW H) → Nat
  | [] => 0
  | x :: r => uptoBulkEntry x + uptoBulkEntries r
def uptoBulkEntry {H : Type} : Lit × DataW H → Nat
  | (.string bytes, d) => bytes.length + uptoBulk d + 1
  | (_, d) => uptoBulk d + 1
 end
def uptoSmall : (H : Type) → List (DataW H) → Bool := fun _ ds => decide (uptoBulkAll ds ≤ 1048576)
def OpenSpec.upto (s : _root_.Go.ChangeSpec) : _root_.Go.OpenSpec := { _root_.Go.OpenSpec.ofChange s with cond := some uptoSmall }

/-- 'dialtonelaw37.RatingFinds', WHERE WHAT IT READS IS OF BULK AT MOST 1048576: true; the input reads as it did. -/
def ratingFindsUptoRow : OpenClaim := { program := "ytbckoncbimljeaa", sum := "c42f7e018eae6d2ad049061c3a898d5c39df1ed6ed43702b7a4b3abaa6c24aa3", func := "dialtone/dialtonelaw37.RatingFinds", spec := "ratingFinds", unfollowed := true, recurses := true, apart := false, narrowed := true }
def RatingFindsUptoSaid : Prop := ratingFindsUptoRow.holds Try.pinned (OpenSpec.upto ratingFindsSpec)

/-- 'dialtonelaw37.RatingPieces', WHERE WHAT IT READS IS OF BULK AT MOST 1048576: true; the input reads as it did. -/
def ratingPiecesUptoRow : OpenClaim := { program := "ytbckoncbimljeaa", sum := "c42f7e018eae6d2ad049061c3a898d5c39df1ed6ed43702b7a4b3abaa6c24aa3", func := "dialtone/dialtonelaw37.RatingPieces", spec := "ratingPieces", unfollowed := true, recurses := true, apart := false, narrowed := true }
def RatingPiecesUptoSaid : Prop := ratingPiecesUptoRow.holds Try.pinned (OpenSpec.upto ratingPiecesSpec)

/-- 'dialtonelaw37.RatingCosts', WHERE WHAT IT READS IS OF BULK AT MOST 1048576: true; the input reads as it did. -/
def ratingCostsUptoRow : OpenClaim := { program := "ytbckoncbimljeaa", sum := "c42f7e018eae6d2ad049061c3a898d5c39df1ed6ed43702b7a4b3abaa6c24aa3", func := "dialtone/dialtonelaw37.RatingCosts", spec := "ratingCosts", unfollowed := true, recurses := true, apart := false, narrowed := true }
def RatingCostsUptoSaid : Prop := ratingCostsUptoRow.holds Try.pinned (OpenSpec.upto ratingCostsSpec)

/-- 'dialtonelaw37.RatingGrows', WHERE WHAT IT READS IS OF BULK AT MOST 1048576: true; the input reads as it did. -/
def ratingGrowsUptoRow : OpenClaim := { program := "ytbckoncbimljeaa", sum := "c42f7e018eae6d2ad049061c3a898d5c39df1ed6ed43702b7a4b3abaa6c24aa3", func := "dialtone/dialtonelaw37.RatingGrows", spec := "ratingGrows", unfollowed := true, recurses := true, apart := false, narrowed := true }
def RatingGrowsUptoSaid : Prop := ratingGrowsUptoRow.holds Try.pinned (OpenSpec.upto ratingGrowsSpec)

/-- 'dialtonelaw37.RatingFlat', WHERE WHAT IT READS IS OF BULK AT MOST 1048576: true; the input reads as it did. -/
def ratingFlatUptoRow : OpenClaim := { program := "ytbckoncbimljeaa", sum := "c42f7e018eae6d2ad049061c3a898d5c39df1ed6ed43702b7a4b3abaa6c24aa3", func := "dialtone/dialtonelaw37.RatingFlat", spec := "ratingFlat", unfollowed := true, recurses := true, apart := false, narrowed := true }
def RatingFlatUptoSaid : Prop := ratingFlatUptoRow.holds Try.pinned (OpenSpec.upto ratingFlatSpec)

/-- 'dialtonelaw37.RatingKnown', WHERE WHAT IT READS IS OF BULK AT MOST 1048576: true; the input reads as it did. -/
def ratingKnownUptoRow : OpenClaim := { program := "ytbckoncbimljeaa", sum := "c42f7e018eae6d2ad049061c3a898d5c39df1ed6ed43702b7a4b3abaa6c24aa3", func := "dialtone/dialtonelaw37.RatingKnown", spec := "ratingKnown", unfollowed := true, recurses := true, apart := false, narrowed := true }
def RatingKnownUptoSaid : Prop := ratingKnownUptoRow.holds Try.pinned (OpenSpec.upto ratingKnownSpec)

/-- 'dialtonelaw37.RatingTimes', WHERE WHAT IT READS IS OF BULK AT MOST 1048576: true; the input reads as it did. -/
def ratingTimesUptoRow : OpenClaim := { program := "ytbckoncbimljeaa", sum := "c42f7e018eae6d2ad049061c3a898d5c39df1ed6ed43702b7a4b3abaa6c24aa3", func := "dialtone/dialtonelaw37.RatingTimes", spec := "ratingTimes", unfollowed := true, recurses := true, apart := false, narrowed := true }
def RatingTimesUptoSaid : Prop := ratingTimesUptoRow.holds Try.pinned (OpenSpec.upto ratingTimesSpec)

end Rows
end Go.Proofs.Ytbckoncbimljeaa
