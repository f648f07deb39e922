/-
  No cell of these rows narrows 'for every input' (looked for: loops, veiled, ifaces, maps, wideKeys, modest, calm, conditions, laid).
  DERIVED. THE GIVEN ROWS OF THIS SEAT. 5 by the template 'for every input the law returns true; each argument reads behind the call as it read before'; 0 by the template 'total and deterministic' (their statements: YtlaccfegaoaakaaTotals.lean).
  GIVEN WITH THE SEED: the statements are not yours to turn. If you find one false, say at which input.
  Laid BY PROGRAM, IN A SANDBOX (cutbox-rows.mjs): the forced cells as the released guide's own fill.sh prints them over the translation 3a84178c90a06ffc… (all of the seat's roots in one cut). By AI agents, Wed Nov 11 2026. No macro, syntax, notation, axiom, sorry.
-/
import Derived.Test.YtlaccfegaoaakaaChecked
import GoSem.Claim
import GoSem.ClaimJoined
import GoSem.ClaimMapViews
import Derived.JoinedTies
import Derived.KernelRfl
namespace Go.Proofs.Ytlaccfegaoaakaa
/- THE CELL 'sum', in the pinned program and in every row, IS THE sha256 OF THE DUMP (.gsa) THAT YtlaccfegaoaakaaProg.lean LOADS. Nothing in Lean hashes anything: it is a label: what it is worth is what the hold of that sum in a sandbox is worth. -/
noncomputable def Try.pinned : Pinned := { name := "ytlaccfegaoaakaa", sum := "3a84178c90a06ffcf752699c730f68c1e0b4213032b38581669bc0222df9e4d0", checked := Try.checked }
namespace Rows
def none {H : Type} : Left H := { results := [], args := [] }

/-- 'dialtonelaw22.RegistrarForms': WHATEVER THE INPUT: true; the input reads as it did. -/
def registrarFormsSpec : ChangeSpec := { name := "registrarForms", fn := fun _ => fun
  | [d1, d2] => { results := [.lit (.bool true)], args := [d1, d2] }
  | _ => none }
def registrarFormsRow : OpenClaim := { program := "ytlaccfegaoaakaa", sum := "3a84178c90a06ffcf752699c730f68c1e0b4213032b38581669bc0222df9e4d0", func := "dialtone/dialtonelaw22.RegistrarForms", spec := "registrarForms", unfollowed := true, recurses := true, apart := false }
def RegistrarFormsSaid : Prop := registrarFormsRow.holds Try.pinned (OpenSpec.ofChange registrarFormsSpec)

/-- ITS FALSE NEIGHBOUR: 'it returns false'. Refute it at one input. -/
def registrarFormsWrong : ChangeSpec := { name := "registrarForms", fn := fun _ => fun
  | [d1, d2] => { results := [.lit (.bool false)], args := [d1, d2] }
  | _ => none }
def RegistrarFormsWrongFalsely : Prop := registrarFormsRow.holds Try.pinned (OpenSpec.ofChange registrarFormsWrong)

/-- 'dialtonelaw22.RegistrarRuns': WHATEVER THE INPUT: true; the input reads as it did. -/
def registrarRunsSpec : ChangeSpec := { name := "registrarRuns", fn := fun _ => fun
  | [d1, d2] => { results := [.lit (.bool true)], args := [d1, d2] }
  | _ => none }
def registrarRunsRow : OpenClaim := { program := "ytlaccfegaoaakaa", sum := "3a84178c90a06ffcf752699c730f68c1e0b4213032b38581669bc0222df9e4d0", func := "dialtone/dialtonelaw22.RegistrarRuns", spec := "registrarRuns", unfollowed := true, recurses := true, apart := false }
def RegistrarRunsSaid : Prop := registrarRunsRow.holds Try.pinned (OpenSpec.ofChange registrarRunsSpec)

/-- ITS FALSE NEIGHBOUR: 'it returns false'. Refute it at one input. -/
def registrarRunsWrong : ChangeSpec := { name := "registrarRuns", fn := fun _ => fun
  | [d1, d2] => { results := [.lit (.bool false)], args := [d1, d2] }
  | _ => none }
def RegistrarRunsWrongFalsely : Prop := registrarRunsRow.holds Try.pinned (OpenSpec.ofChange registrarRunsWrong)

/-- 'dialtonelaw22.RegistrarActs': WHATEVER THE INPUT: true; the input reads as it did. -/
def registrarActsSpec : ChangeSpec := { name := "registrarActs", fn := fun _ => fun
  | [d1, d2, d3] => { results := [.lit (.bool true)], args := [d1, d2, d3] }
  | _ => none }
def registrarActsRow : OpenClaim := { program := "ytlaccfegaoaakaa", sum := "3a84178c90a06ffcf752699c730f68c1e0b4213032b38581669bc0222df9e4d0", func := "dialtone/dialtonelaw22.RegistrarActs", spec := "registrarActs", unfollowed := true, recurses := true, apart := false }
def RegistrarActsSaid : Prop := registrarActsRow.holds Try.pinned (OpenSpec.ofChange registrarActsSpec)

/-- ITS FALSE NEIGHBOUR: 'it returns false'. Refute it at one input. -/
def registrarActsWrong : ChangeSpec := { name := "registrarActs", fn := fun _ => fun
  | [d1, d2, d3] => { results := [.lit (.bool false)], args := [d1, d2, d3] }
  | _ => none }
def RegistrarActsWrongFalsely : Prop := registrarActsRow.holds Try.pinned (OpenSpec.ofChange registrarActsWrong)

/-- 'dialtonelaw22.RegistrarKnown': WHATEVER THE INPUT: true; the input reads as it did. -/
def registrarKnownSpec : ChangeSpec := { name := "registrarKnown", fn := fun _ => fun
  | [] => { results := [.lit (.bool true)], args := [] }
  | _ => none }
def registrarKnownRow : OpenClaim := { program := "ytlaccfegaoaakaa", sum := "3a84178c90a06ffcf752699c730f68c1e0b4213032b38581669bc0222df9e4d0", func := "dialtone/dialtonelaw22.RegistrarKnown", spec := "registrarKnown", unfollowed := true, recurses := true, apart := false }
def RegistrarKnownSaid : Prop := registrarKnownRow.holds Try.pinned (OpenSpec.ofChange registrarKnownSpec)

/-- ITS FALSE NEIGHBOUR: 'it returns false'. Refute it at one input. -/
def registrarKnownWrong : ChangeSpec := { name := "registrarKnown", fn := fun _ => fun
  | [] => { results := [.lit (.bool false)], args := [] }
  | _ => none }
def RegistrarKnownWrongFalsely : Prop := registrarKnownRow.holds Try.pinned (OpenSpec.ofChange registrarKnownWrong)

/-- 'dialtonelaw22.RegistrarCrashes': WHATEVER THE INPUT: true; the input reads as it did. -/
def registrarCrashesSpec : ChangeSpec := { name := "registrarCrashes", fn := fun _ => fun
  | [d1, d2] => { results := [.lit (.bool true)], args := [d1, d2] }
  | _ => none }
def registrarCrashesRow : OpenClaim := { program := "ytlaccfegaoaakaa", sum := "3a84178c90a06ffcf752699c730f68c1e0b4213032b38581669bc0222df9e4d0", func := "dialtone/dialtonelaw22.RegistrarCrashes", spec := "registrarCrashes", unfollowed := true, recurses := true, apart := false }
def RegistrarCrashesSaid : Prop := registrarCrashesRow.holds Try.pinned (OpenSpec.ofChange registrarCrashesSpec)

/-- ITS FALSE NEIGHBOUR: 'it returns false'. Refute it at one input. -/
def registrarCrashesWrong : ChangeSpec := { name := "registrarCrashes", fn := fun _ => fun
  | [d1, d2] => { results := [.lit (.bool false)], args := [d1, d2] }
  | _ => none }
def RegistrarCrashesWrongFalsely : Prop := registrarCrashesRow.holds Try.pinned (OpenSpec.ofChange registrarCrashesWrong)

/- THE SECOND FORM. 'bulk': how many values and letters a reading holds, each counted each time it is reached (what is shared counts as often as it is met; a slice's spare places count too). A statement '..UptoSaid' is the law's where the arguments, and the package variables that the reading takes, are together of bulk at most 1048576: NARROWER than '..Said'. Prove '..Said' where nothing that the law and all that it calls make is longer than what came in: it says more and counts as full. Else prove '..UptoSaid'. A law counts once. -/
mutual
def uptoBulk {H : Type} : DataW H → Nat
  | .lit (.string bytes) => bytes.length + 1
  | .lit _ => 1
  | .nil => 1
  | .ptr d => uptoBulk d + 1
  | .slice elems spare => uptoBulkAll elems + uptoBulkAll spare + 1
  | .agg parts => uptoBulkAll parts + 1
  | .iface _ d => uptoBulk d + 1
  | .map entries => uptoBulkEntries entries + 1
  | .held _ => 1
def uptoBulkAll {H : Type} : List (DataW H) → Nat
  | [] => 0
  | d :: r => uptoBulk d + uptoBulkAll r
def uptoBulkEntries {H : Type} : List (Lit × DataW H) → Nat
  | [] => 0
  | x :: r => uptoBulkEntry x + uptoBulkEntries r
def uptoBulkEntry {H : Type} : Lit × DataW H → Nat
  | (.string bytes, d) => bytes.length + uptoBulk d + 1
  | (_, d) => uptoBulk d + 1
 end
def uptoSmall : (H : Type) → List (DataW H) → Bool := fun _ ds => decide (uptoBulkAll ds ≤ 1048576)
def OpenSpec.upto (s : _root_.Go.ChangeSpec) : _root_.Go.OpenSpec := { _root_.Go.OpenSpec.ofChange s with cond := some uptoSmall }

/-- 'dialtonelaw22.RegistrarForms', WHERE WHAT IT READS IS OF BULK AT MOST 1048576: true; the input reads as it did. -/
def registrarFormsUptoRow : OpenClaim := { program := "ytlaccfegaoaakaa", sum := "3a84178c90a06ffcf752699c730f68c1e0b4213032b38581669bc0222df9e4d0", func := "dialtone/dialtonelaw22.RegistrarForms", spec := "registrarForms", unfollowed := true, recurses := true, apart := false, narrowed := true }
def RegistrarFormsUptoSaid : Prop := registrarFormsUptoRow.holds Try.pinned (OpenSpec.upto registrarFormsSpec)

/-- 'dialtonelaw22.RegistrarRuns', WHERE WHAT IT READS IS OF BULK AT MOST 1048576: true; the input reads as it did. -/
def registrarRunsUptoRow : OpenClaim := { program := "ytlaccfegaoaakaa", sum := "3a84178c90a06ffcf752699c730f68c1e0b4213032b38581669bc0222df9e4d0", func := "dialtone/dialtonelaw22.RegistrarRuns", spec := "registrarRuns", unfollowed := true, recurses := true, apart := false, narrowed := true }
def RegistrarRunsUptoSaid : Prop := registrarRunsUptoRow.holds Try.pinned (OpenSpec.upto registrarRunsSpec)

/-- 'dialtonelaw22.RegistrarActs', WHERE WHAT IT READS IS OF BULK AT MOST 1048576: true; the input reads as it did. -/
def registrarActsUptoRow : OpenClaim := { program := "ytlaccfegaoaakaa", sum := "3a84178c90a06ffcf752699c730f68c1e0b4213032b38581669bc0222df9e4d0", func := "dialtone/dialtonelaw22.RegistrarActs", spec := "registrarActs", unfollowed := true, recurses := true, apart := false, narrowed := true }
def RegistrarActsUptoSaid : Prop := registrarActsUptoRow.holds Try.pinned (OpenSpec.upto registrarActsSpec)

/-- 'dialtonelaw22.RegistrarKnown', WHERE WHAT IT READS IS OF BULK AT MOST 1048576: true; the input reads as it did. -/
def registrarKnownUptoRow : OpenClaim := { program := "ytlaccfegaoaakaa", sum := "3a84178c90a06ffcf752699c730f68c1e0b4213032b38581669bc0222df9e4d0", func := "dialtone/dialtonelaw22.RegistrarKnown", spec := "registrarKnown", unfollowed := true, recurses := true, apart := false, narrowed := true }
def RegistrarKnownUptoSaid : Prop := registrarKnownUptoRow.holds Try.pinned (OpenSpec.upto registrarKnownSpec)

/-- 'dialtonelaw22.RegistrarCrashes', WHERE WHAT IT READS IS OF BULK AT MOST 1048576: true; the input reads as it did. -/
def registrarCrashesUptoRow : OpenClaim := { program := "ytlaccfegaoaakaa", sum := "3a84178c90a06ffcf752699c730f68c1e0b4213032b38581669bc0222df9e4d0", func := "dialtone/dialtonelaw22.RegistrarCrashes", spec := "registrarCrashes", unfollowed := true, recurses := true, apart := false, narrowed := true }
def RegistrarCrashesUptoSaid : Prop := registrarCrashesUptoRow.holds Try.pinned (OpenSpec.upto registrarCrashesSpec)

end Rows
end Go.Proofs.Ytlaccfegaoaakaa
