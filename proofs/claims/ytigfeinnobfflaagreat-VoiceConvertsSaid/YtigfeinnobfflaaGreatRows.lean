/-
  No cell of these rows narrows 'for every input' (looked for: loops, veiled, ifaces, maps, wideKeys, modest, calm, conditions, laid).
  DERIVED. THE GIVEN ROWS OF THIS SEAT. 2 by the template 'for every input the law returns true; each argument reads behind the call as it read before'; 0 by the template 'total and deterministic' (their statements: YtigfeinnobfflaaGreatTotals.lean).
  GIVEN WITH THE SEED: the statements are not yours to turn. If you find one false, say at which input.
  Laid BY PROGRAM, IN A SANDBOX (cutbox-rows.mjs): the forced cells as the released guide's own fill.sh prints them over the translation 59219d4313ec36b6… (all of the seat's roots in one cut). By AI agents, Wed Nov 11 2026. No macro, syntax, notation, axiom, sorry.
-/
import Derived.Test.YtigfeinnobfflaaGreatChecked
import GoSem.Claim
import GoSem.ClaimJoined
import GoSem.ClaimMapViews
import Derived.JoinedTies
import Derived.KernelRfl
namespace Go.Proofs.YtigfeinnobfflaaGreat
/- THE CELL 'sum', in the pinned program and in every row, IS THE sha256 OF THE DUMP (.gsa) THAT YtigfeinnobfflaaGreatProg.lean LOADS. Nothing in Lean hashes anything: it is a label: what it is worth is what the hold of that sum in a sandbox is worth. -/
noncomputable def Tryz.pinned : Pinned := { name := "ytigfeinnobfflaagreat", sum := "59219d4313ec36b6d2ae6b9da07801fad1973cfdf8ef316f4418549d562f52e9", checked := Tryz.checked }
namespace Rows
def none {H : Type} : Left H := { results := [], args := [] }

/-- 'dialtonetop.VoicePlays': WHATEVER THE INPUT: true; the input reads as it did. -/
def voicePlaysSpec : ChangeSpec := { name := "voicePlays", fn := fun _ => fun
  | [d1, d2] => { results := [.lit (.bool true)], args := [d1, d2] }
  | _ => none }
def voicePlaysRow : OpenClaim := { program := "ytigfeinnobfflaagreat", sum := "59219d4313ec36b6d2ae6b9da07801fad1973cfdf8ef316f4418549d562f52e9", func := "dialtone/dialtonetop.VoicePlays", spec := "voicePlays", inPlace := ["slices.overlaps[dialtone/api.Waiting]"], unfollowed := true, recurses := true, apart := false }
def VoicePlaysSaid : Prop := voicePlaysRow.holds Tryz.pinned (OpenSpec.ofChange voicePlaysSpec)

/-- ITS FALSE NEIGHBOUR: 'it returns false'. Refute it at one input. -/
def voicePlaysWrong : ChangeSpec := { name := "voicePlays", fn := fun _ => fun
  | [d1, d2] => { results := [.lit (.bool false)], args := [d1, d2] }
  | _ => none }
def VoicePlaysWrongFalsely : Prop := voicePlaysRow.holds Tryz.pinned (OpenSpec.ofChange voicePlaysWrong)

/-- 'dialtonetop.VoiceConverts': WHATEVER THE INPUT: true; the input reads as it did. -/
def voiceConvertsSpec : ChangeSpec := { name := "voiceConverts", fn := fun _ => fun
  | [d1, d2] => { results := [.lit (.bool true)], args := [d1, d2] }
  | _ => none }
def voiceConvertsRow : OpenClaim := { program := "ytigfeinnobfflaagreat", sum := "59219d4313ec36b6d2ae6b9da07801fad1973cfdf8ef316f4418549d562f52e9", func := "dialtone/dialtonetop.VoiceConverts", spec := "voiceConverts", inPlace := ["slices.overlaps[dialtone/api.Waiting]"], unfollowed := true, recurses := true, apart := false }
def VoiceConvertsSaid : Prop := voiceConvertsRow.holds Tryz.pinned (OpenSpec.ofChange voiceConvertsSpec)

/-- ITS FALSE NEIGHBOUR: 'it returns false'. Refute it at one input. -/
def voiceConvertsWrong : ChangeSpec := { name := "voiceConverts", fn := fun _ => fun
  | [d1, d2] => { results := [.lit (.bool false)], args := [d1, d2] }
  | _ => none }
def VoiceConvertsWrongFalsely : Prop := voiceConvertsRow.holds Tryz.pinned (OpenSpec.ofChange voiceConvertsWrong)

/- THE SECOND FORM. 'bulk': how many values and letters a reading holds, each counted each time it is reached (what is shared counts as often as it is met; a slice's spare places count too). A statement '..UptoSaid' is the law's where the arguments, and the package variables that the reading takes, are together of bulk at most 1048576: NARROWER than '..Said'. Prove '..Said' where nothing that the law and all that it calls make is longer than what came in: it says more and counts as full. Else prove '..UptoSaid'. A law counts once. -/
mutual
def uptoBulk {H : Type} : DataW H → Nat
  | .lit (.string bytes) => bytes.length + 1
  | .lit _ => 1
  | .nil => 1
  | .ptr d => uptoBulk d + 1
  | .slice elems spare => uptoBulkAll elems + uptoBulkAll spare + 1
  | .agg parts => uptoBulkAll parts + 1
  | .iface _ d => uptoBulk d + 1
  | .map entries => uptoBulkEntries entries + 1
  | .held _ => 1
def uptoBulkAll {H : Type} : List (DataW H) → Nat
  | [] => 0
  | d :: r => uptoBulk d + uptoBulkAll r
def uptoBulkEntries {H : Type} : List (Lit × DataW H) → Nat
  | [] => 0
  | x :: r => uptoBulkEntry x + uptoBulkEntries r
def uptoBulkEntry {H : Type} : Lit × DataW H → Nat
  | (.string bytes, d) => bytes.length + uptoBulk d + 1
  | (_, d) => uptoBulk d + 1
 end
def uptoSmall : (H : Type) → List (DataW H) → Bool := fun _ ds => decide (uptoBulkAll ds ≤ 1048576)
def OpenSpec.upto (s : _root_.Go.ChangeSpec) : _root_.Go.OpenSpec := { _root_.Go.OpenSpec.ofChange s with cond := some uptoSmall }

/-- 'dialtonetop.VoicePlays', WHERE WHAT IT READS IS OF BULK AT MOST 1048576: true; the input reads as it did. -/
def voicePlaysUptoRow : OpenClaim := { program := "ytigfeinnobfflaagreat", sum := "59219d4313ec36b6d2ae6b9da07801fad1973cfdf8ef316f4418549d562f52e9", func := "dialtone/dialtonetop.VoicePlays", spec := "voicePlays", inPlace := ["slices.overlaps[dialtone/api.Waiting]"], unfollowed := true, recurses := true, apart := false, narrowed := true }
def VoicePlaysUptoSaid : Prop := voicePlaysUptoRow.holds Tryz.pinned (OpenSpec.upto voicePlaysSpec)

/-- 'dialtonetop.VoiceConverts', WHERE WHAT IT READS IS OF BULK AT MOST 1048576: true; the input reads as it did. -/
def voiceConvertsUptoRow : OpenClaim := { program := "ytigfeinnobfflaagreat", sum := "59219d4313ec36b6d2ae6b9da07801fad1973cfdf8ef316f4418549d562f52e9", func := "dialtone/dialtonetop.VoiceConverts", spec := "voiceConverts", inPlace := ["slices.overlaps[dialtone/api.Waiting]"], unfollowed := true, recurses := true, apart := false, narrowed := true }
def VoiceConvertsUptoSaid : Prop := voiceConvertsUptoRow.holds Tryz.pinned (OpenSpec.upto voiceConvertsSpec)

end Rows
end Go.Proofs.YtigfeinnobfflaaGreat
