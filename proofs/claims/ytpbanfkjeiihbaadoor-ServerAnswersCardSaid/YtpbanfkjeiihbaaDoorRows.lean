/-
  NARROWER THAN 'FOR EVERY INPUT', by the rows' own cells (each row's printed sentence says how): ServerSteps: laid · ServerTable: laid · ServerAnswers: laid · ServerEnds: laid · ServerPlays: laid · ServerKnown: laid.
  DERIVED. THE GIVEN ROWS OF THIS SEAT. 6 by the template 'for every input the law returns true; each argument reads behind the call as it read before'; 0 by the template 'total and deterministic' (their statements: YtpbanfkjeiihbaaDoorTotals.lean).
  GIVEN WITH THE SEED: the statements are not yours to turn. If you find one false, say at which input.
  Laid BY PROGRAM, IN A SANDBOX (cutbox-rows.mjs): the forced cells as the released guide's own fill.sh prints them over the translation a17538437490bb62… (all of the seat's roots in one cut). By AI agents, Wed Nov 11 2026. No macro, syntax, notation, axiom, sorry.
-/
import Derived.Test.YtpbanfkjeiihbaaDoorChecked
import GoSem.Claim
import GoSem.ClaimJoined
import GoSem.ClaimMapViews
import Derived.JoinedTies
import Derived.KernelRfl
namespace Go.Proofs.YtpbanfkjeiihbaaDoor
/- THE CELL 'sum', in the pinned program and in every row, IS THE sha256 OF THE DUMP (.gsa) THAT YtpbanfkjeiihbaaDoorProg.lean LOADS. Nothing in Lean hashes anything: it is a label: what it is worth is what the hold of that sum in a sandbox is worth. -/
noncomputable def Tryd.pinned : Pinned := { name := "ytpbanfkjeiihbaadoor", sum := "a17538437490bb62ec5e1dadf3da324f34523d9e29d003e900c93269bd618bf0", checked := Tryd.checked }
namespace Rows
def none {H : Type} : Left H := { results := [], args := [] }

/- WHAT THE LISTED PACKAGE-LEVEL VARIABLES READ AS WHEN THE CALL BEGINS. Each datum BY PROGRAM (the guide's laid-datum.mjs) off the statement by which the dump's own 'gosem.cut.vars' lays the variable. In a bare row this is a premise. The card (YtpbanfkjeiihbaaDoorCards.lean) ties it to the program's text. -/
def laid_dialtone_server_rows {H : Type} : DataW H := .agg [.agg [.lit (.int .u8 2), .lit (.int .u8 4), .lit (.int .i64 100), .lit (.int .i64 199), .lit (.int .u8 0), .lit (.int .u8 3), .agg [.lit (.int .u8 1), .lit (.int .u8 0)]], .agg [.lit (.int .u8 3), .lit (.int .u8 4), .lit (.int .i64 100), .lit (.int .i64 199), .lit (.int .u8 0), .lit (.int .u8 3), .agg [.lit (.int .u8 1), .lit (.int .u8 0)]], .agg [.lit (.int .u8 2), .lit (.int .u8 4), .lit (.int .i64 200), .lit (.int .i64 699), .lit (.int .u8 0), .lit (.int .u8 5), .agg [.lit (.int .u8 1), .lit (.int .u8 4)]], .agg [.lit (.int .u8 3), .lit (.int .u8 4), .lit (.int .i64 200), .lit (.int .i64 699), .lit (.int .u8 0), .lit (.int .u8 5), .agg [.lit (.int .u8 1), .lit (.int .u8 4)]], .agg [.lit (.int .u8 3), .lit (.int .u8 1), .lit (.int .i64 0), .lit (.int .i64 0), .lit (.int .u8 0), .lit (.int .u8 0), .agg [.lit (.int .u8 1), .lit (.int .u8 0)]], .agg [.lit (.int .u8 5), .lit (.int .u8 1), .lit (.int .i64 0), .lit (.int .i64 0), .lit (.int .u8 0), .lit (.int .u8 0), .agg [.lit (.int .u8 1), .lit (.int .u8 0)]], .agg [.lit (.int .u8 3), .lit (.int .u8 6), .lit (.int .i64 0), .lit (.int .i64 0), .lit (.int .u8 0), .lit (.int .u8 7), .agg [.lit (.int .u8 6), .lit (.int .u8 7)]], .agg [.lit (.int .u8 5), .lit (.int .u8 6), .lit (.int .i64 0), .lit (.int .i64 0), .lit (.int .u8 0), .lit (.int .u8 7), .agg [.lit (.int .u8 6), .lit (.int .u8 7)]], .agg [.lit (.int .u8 5), .lit (.int .u8 5), .lit (.int .i64 0), .lit (.int .i64 0), .lit (.int .u8 10), .lit (.int .u8 7), .agg [.lit (.int .u8 7), .lit (.int .u8 0)]]]

/-- 'dialtonelaw15.ServerSteps': WHATEVER THE INPUT: true; the input reads as it did. -/
def serverStepsSpec : ChangeSpec := { name := "serverSteps", fn := fun _ => fun
  | [d1, d2] => { results := [.lit (.bool true)], args := [d1, d2] }
  | _ => none }
def serverStepsRow : OpenClaim := { program := "ytpbanfkjeiihbaadoor", sum := "a17538437490bb62ec5e1dadf3da324f34523d9e29d003e900c93269bd618bf0", func := "dialtone/dialtonelaw15.ServerSteps", spec := "serverSteps", named := ["dialtone/server.rows"], apart := false, laid := [("dialtone/server.rows", laid_dialtone_server_rows)] }
def ServerStepsSaid : Prop := serverStepsRow.holds Tryd.pinned (OpenSpec.ofChange serverStepsSpec)

/-- ITS FALSE NEIGHBOUR: 'it returns false'. Refute it at one input. -/
def serverStepsWrong : ChangeSpec := { name := "serverSteps", fn := fun _ => fun
  | [d1, d2] => { results := [.lit (.bool false)], args := [d1, d2] }
  | _ => none }
def ServerStepsWrongFalsely : Prop := serverStepsRow.holds Tryd.pinned (OpenSpec.ofChange serverStepsWrong)

/-- 'dialtonelaw15.ServerTable': WHATEVER THE INPUT: true; the input reads as it did. -/
def serverTableSpec : ChangeSpec := { name := "serverTable", fn := fun _ => fun
  | [] => { results := [.lit (.bool true)], args := [] }
  | _ => none }
def serverTableRow : OpenClaim := { program := "ytpbanfkjeiihbaadoor", sum := "a17538437490bb62ec5e1dadf3da324f34523d9e29d003e900c93269bd618bf0", func := "dialtone/dialtonelaw15.ServerTable", spec := "serverTable", named := ["dialtone/server.rows"], apart := false, laid := [("dialtone/server.rows", laid_dialtone_server_rows)] }
def ServerTableSaid : Prop := serverTableRow.holds Tryd.pinned (OpenSpec.ofChange serverTableSpec)

/-- ITS FALSE NEIGHBOUR: 'it returns false'. Refute it at one input. -/
def serverTableWrong : ChangeSpec := { name := "serverTable", fn := fun _ => fun
  | [] => { results := [.lit (.bool false)], args := [] }
  | _ => none }
def ServerTableWrongFalsely : Prop := serverTableRow.holds Tryd.pinned (OpenSpec.ofChange serverTableWrong)

/-- 'dialtonelaw15.ServerAnswers': WHATEVER THE INPUT: true; the input reads as it did. -/
def serverAnswersSpec : ChangeSpec := { name := "serverAnswers", fn := fun _ => fun
  | [d] => { results := [.lit (.bool true)], args := [d] }
  | _ => none }
def serverAnswersRow : OpenClaim := { program := "ytpbanfkjeiihbaadoor", sum := "a17538437490bb62ec5e1dadf3da324f34523d9e29d003e900c93269bd618bf0", func := "dialtone/dialtonelaw15.ServerAnswers", spec := "serverAnswers", named := ["dialtone/server.rows"], apart := false, laid := [("dialtone/server.rows", laid_dialtone_server_rows)] }
def ServerAnswersSaid : Prop := serverAnswersRow.holds Tryd.pinned (OpenSpec.ofChange serverAnswersSpec)

/-- ITS FALSE NEIGHBOUR: 'it returns false'. Refute it at one input. -/
def serverAnswersWrong : ChangeSpec := { name := "serverAnswers", fn := fun _ => fun
  | [d] => { results := [.lit (.bool false)], args := [d] }
  | _ => none }
def ServerAnswersWrongFalsely : Prop := serverAnswersRow.holds Tryd.pinned (OpenSpec.ofChange serverAnswersWrong)

/-- 'dialtonelaw15.ServerEnds': WHATEVER THE INPUT: true; the input reads as it did. -/
def serverEndsSpec : ChangeSpec := { name := "serverEnds", fn := fun _ => fun
  | [d1, d2] => { results := [.lit (.bool true)], args := [d1, d2] }
  | _ => none }
def serverEndsRow : OpenClaim := { program := "ytpbanfkjeiihbaadoor", sum := "a17538437490bb62ec5e1dadf3da324f34523d9e29d003e900c93269bd618bf0", func := "dialtone/dialtonelaw15.ServerEnds", spec := "serverEnds", named := ["dialtone/server.rows"], apart := false, laid := [("dialtone/server.rows", laid_dialtone_server_rows)] }
def ServerEndsSaid : Prop := serverEndsRow.holds Tryd.pinned (OpenSpec.ofChange serverEndsSpec)

/-- ITS FALSE NEIGHBOUR: 'it returns false'. Refute it at one input. -/
def serverEndsWrong : ChangeSpec := { name := "serverEnds", fn := fun _ => fun
  | [d1, d2] => { results := [.lit (.bool false)], args := [d1, d2] }
  | _ => none }
def ServerEndsWrongFalsely : Prop := serverEndsRow.holds Tryd.pinned (OpenSpec.ofChange serverEndsWrong)

/-- 'dialtonelaw15.ServerPlays': WHATEVER THE INPUT: true; the input reads as it did. -/
def serverPlaysSpec : ChangeSpec := { name := "serverPlays", fn := fun _ => fun
  | [d] => { results := [.lit (.bool true)], args := [d] }
  | _ => none }
def serverPlaysRow : OpenClaim := { program := "ytpbanfkjeiihbaadoor", sum := "a17538437490bb62ec5e1dadf3da324f34523d9e29d003e900c93269bd618bf0", func := "dialtone/dialtonelaw15.ServerPlays", spec := "serverPlays", named := ["dialtone/server.rows"], apart := false, laid := [("dialtone/server.rows", laid_dialtone_server_rows)] }
def ServerPlaysSaid : Prop := serverPlaysRow.holds Tryd.pinned (OpenSpec.ofChange serverPlaysSpec)

/-- ITS FALSE NEIGHBOUR: 'it returns false'. Refute it at one input. -/
def serverPlaysWrong : ChangeSpec := { name := "serverPlays", fn := fun _ => fun
  | [d] => { results := [.lit (.bool false)], args := [d] }
  | _ => none }
def ServerPlaysWrongFalsely : Prop := serverPlaysRow.holds Tryd.pinned (OpenSpec.ofChange serverPlaysWrong)

/-- 'dialtonelaw15.ServerKnown': WHATEVER THE INPUT: true; the input reads as it did. -/
def serverKnownSpec : ChangeSpec := { name := "serverKnown", fn := fun _ => fun
  | [] => { results := [.lit (.bool true)], args := [] }
  | _ => none }
def serverKnownRow : OpenClaim := { program := "ytpbanfkjeiihbaadoor", sum := "a17538437490bb62ec5e1dadf3da324f34523d9e29d003e900c93269bd618bf0", func := "dialtone/dialtonelaw15.ServerKnown", spec := "serverKnown", named := ["dialtone/server.rows"], apart := false, laid := [("dialtone/server.rows", laid_dialtone_server_rows)] }
def ServerKnownSaid : Prop := serverKnownRow.holds Tryd.pinned (OpenSpec.ofChange serverKnownSpec)

/-- ITS FALSE NEIGHBOUR: 'it returns false'. Refute it at one input. -/
def serverKnownWrong : ChangeSpec := { name := "serverKnown", fn := fun _ => fun
  | [] => { results := [.lit (.bool false)], args := [] }
  | _ => none }
def ServerKnownWrongFalsely : Prop := serverKnownRow.holds Tryd.pinned (OpenSpec.ofChange serverKnownWrong)

/- THE SECOND FORM. 'bulk': how many values and letters a reading holds, each counted each time it is reached (what is shared counts as often as it is met; a slice's spare places count too). A statement '..UptoSaid' is the law's where the arguments, and the package variables that the reading takes, are together of bulk at most 1048576: NARROWER than '..Said'. Prove '..Said' where nothing that the law and all that it calls make is longer than what came in: it says more and counts as full. Else prove '..UptoSaid'. A law counts once. -/
mutual
def uptoBulk {H : Type} : DataW H → Nat
  | .lit (.string bytes) => bytes.length + 1
  | .lit _ => 1
  | .nil => 1
  | .ptr d => uptoBulk d + 1
  | .slice elems spare => uptoBulkAll elems + uptoBulkAll spare + 1
  | .agg parts => uptoBulkAll parts + 1
  | .iface _ d => uptoBulk d + 1
  | .map entries => uptoBulkEntries entries + 1
  | .held _ => 1
def uptoBulkAll {H : Type} : List (DataW H) → Nat
  | [] => 0
  | d :: r => uptoBulk d + uptoBulkAll r
def uptoBulkEntries {H : Type} : List (Lit × DataW H) → Nat
  | [] => 0
  | x :: r => uptoBulkEntry x + uptoBulkEntries r
def uptoBulkEntry {H : Type} : Lit × DataW H → Nat
  | (.string bytes, d) => bytes.length + uptoBulk d + 1
  | (_, d) => uptoBulk d + 1
 end
def uptoSmall : (H : Type) → List (DataW H) → Bool := fun _ ds => decide (uptoBulkAll ds ≤ 1048576)
def OpenSpec.upto (s : _root_.Go.ChangeSpec) : _root_.Go.OpenSpec := { _root_.Go.OpenSpec.ofChange s with cond := some uptoSmall }

/-- 'dialtonelaw15.ServerSteps', WHERE WHAT IT READS IS OF BULK AT MOST 1048576: true; the input reads as it did. -/
def serverStepsUptoRow : OpenClaim := { program := "ytpbanfkjeiihbaadoor", sum := "a17538437490bb62ec5e1dadf3da324f34523d9e29d003e900c93269bd618bf0", func := "dialtone/dialtonelaw15.ServerSteps", spec := "serverSteps", named := ["dialtone/server.rows"], apart := false, laid := [("dialtone/server.rows", laid_dialtone_server_rows)], narrowed := true }
def ServerStepsUptoSaid : Prop := serverStepsUptoRow.holds Tryd.pinned (OpenSpec.upto serverStepsSpec)

/-- 'dialtonelaw15.ServerTable', WHERE WHAT IT READS IS OF BULK AT MOST 1048576: true; the input reads as it did. -/
def serverTableUptoRow : OpenClaim := { program := "ytpbanfkjeiihbaadoor", sum := "a17538437490bb62ec5e1dadf3da324f34523d9e29d003e900c93269bd618bf0", func := "dialtone/dialtonelaw15.ServerTable", spec := "serverTable", named := ["dialtone/server.rows"], apart := false, laid := [("dialtone/server.rows", laid_dialtone_server_rows)], narrowed := true }
def ServerTableUptoSaid : Prop := serverTableUptoRow.holds Tryd.pinned (OpenSpec.upto serverTableSpec)

/-- 'dialtonelaw15.ServerAnswers', WHERE WHAT IT READS IS OF BULK AT MOST 1048576: true; the input reads as it did. -/
def serverAnswersUptoRow : OpenClaim := { program := "ytpbanfkjeiihbaadoor", sum := "a17538437490bb62ec5e1dadf3da324f34523d9e29d003e900c93269bd618bf0", func := "dialtone/dialtonelaw15.ServerAnswers", spec := "serverAnswers", named := ["dialtone/server.rows"], apart := false, laid := [("dialtone/server.rows", laid_dialtone_server_rows)], narrowed := true }
def ServerAnswersUptoSaid : Prop := serverAnswersUptoRow.holds Tryd.pinned (OpenSpec.upto serverAnswersSpec)

/-- 'dialtonelaw15.ServerEnds', WHERE WHAT IT READS IS OF BULK AT MOST 1048576: true; the input reads as it did. -/
def serverEndsUptoRow : OpenClaim := { program := "ytpbanfkjeiihbaadoor", sum := "a17538437490bb62ec5e1dadf3da324f34523d9e29d003e900c93269bd618bf0", func := "dialtone/dialtonelaw15.ServerEnds", spec := "serverEnds", named := ["dialtone/server.rows"], apart := false, laid := [("dialtone/server.rows", laid_dialtone_server_rows)], narrowed := true }
def ServerEndsUptoSaid : Prop := serverEndsUptoRow.holds Tryd.pinned (OpenSpec.upto serverEndsSpec)

/-- 'dialtonelaw15.ServerPlays', WHERE WHAT IT READS IS OF BULK AT MOST 1048576: true; the input reads as it did. -/
def serverPlaysUptoRow : OpenClaim := { program := "ytpbanfkjeiihbaadoor", sum := "a17538437490bb62ec5e1dadf3da324f34523d9e29d003e900c93269bd618bf0", func := "dialtone/dialtonelaw15.ServerPlays", spec := "serverPlays", named := ["dialtone/server.rows"], apart := false, laid := [("dialtone/server.rows", laid_dialtone_server_rows)], narrowed := true }
def ServerPlaysUptoSaid : Prop := serverPlaysUptoRow.holds Tryd.pinned (OpenSpec.upto serverPlaysSpec)

/-- 'dialtonelaw15.ServerKnown', WHERE WHAT IT READS IS OF BULK AT MOST 1048576: true; the input reads as it did. -/
def serverKnownUptoRow : OpenClaim := { program := "ytpbanfkjeiihbaadoor", sum := "a17538437490bb62ec5e1dadf3da324f34523d9e29d003e900c93269bd618bf0", func := "dialtone/dialtonelaw15.ServerKnown", spec := "serverKnown", named := ["dialtone/server.rows"], apart := false, laid := [("dialtone/server.rows", laid_dialtone_server_rows)], narrowed := true }
def ServerKnownUptoSaid : Prop := serverKnownUptoRow.holds Tryd.pinned (OpenSpec.upto serverKnownSpec)

end Rows
end Go.Proofs.YtpbanfkjeiihbaaDoor
