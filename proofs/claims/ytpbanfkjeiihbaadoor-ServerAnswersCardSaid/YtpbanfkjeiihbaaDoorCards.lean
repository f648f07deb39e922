/-
  DERIVED. GIVEN WITH THE SEED: THE CARDS: each row of YtpbanfkjeiihbaaDoorRows.lean that lists a variable, with what it lists TIED to the program's text (the seventh form; the later family's looks); each row that meets fmt, with fmt's text TOLD by the authors' own Lean function (tested against real Go, not proved from fmt's source: count such statements apart). THE CARD IS WHAT COUNTS. Prove the row's statement (the work); the ties are given (YtpbanfkjeiihbaaDoorTie.lean); close each card by the builder's one call (the guide's Derived/Test/ToyasCard.lean, 'card_holds'). Laid BY PROGRAM, IN A SANDBOX (cutbox-door.mjs). By AI agents, Wed Nov 11 2026. No macro, syntax, notation, axiom, sorry.
-/
import Derived.Test.YtpbanfkjeiihbaaDoorRows
import GoSem.ClaimSeven
namespace Go.Proofs.YtpbanfkjeiihbaaDoor
namespace Rows

/-- THE TIED CARD OF 'dialtonelaw15.ServerSteps'. -/
def serverStepsCard : Claim7 := { stood := { row := serverStepsRow, standIns := [], harness := (true, "a2d4ae7b1565fcea008c727d22566f56b555f77010d9d0d6f90ecc07139cc9c3"), looks := false }, kinds := [], alts := [], laidByText := true, laidKinds := [.data], laidTests := true, laidLooks := .later }
def ServerStepsCardSaid : Prop := Claim7.holds Tryd.pinned (.plain (OpenSpec.ofChange serverStepsSpec)) serverStepsCard

/-- THE TIED CARD OF 'dialtonelaw15.ServerTable'. -/
def serverTableCard : Claim7 := { stood := { row := serverTableRow, standIns := [], harness := (true, "a2d4ae7b1565fcea008c727d22566f56b555f77010d9d0d6f90ecc07139cc9c3"), looks := false }, kinds := [], alts := [], laidByText := true, laidKinds := [.data], laidTests := true, laidLooks := .later }
def ServerTableCardSaid : Prop := Claim7.holds Tryd.pinned (.plain (OpenSpec.ofChange serverTableSpec)) serverTableCard

/-- THE TIED CARD OF 'dialtonelaw15.ServerAnswers'. -/
def serverAnswersCard : Claim7 := { stood := { row := serverAnswersRow, standIns := [], harness := (true, "a2d4ae7b1565fcea008c727d22566f56b555f77010d9d0d6f90ecc07139cc9c3"), looks := false }, kinds := [], alts := [], laidByText := true, laidKinds := [.data], laidTests := true, laidLooks := .later }
def ServerAnswersCardSaid : Prop := Claim7.holds Tryd.pinned (.plain (OpenSpec.ofChange serverAnswersSpec)) serverAnswersCard

/-- THE TIED CARD OF 'dialtonelaw15.ServerEnds'. -/
def serverEndsCard : Claim7 := { stood := { row := serverEndsRow, standIns := [], harness := (true, "a2d4ae7b1565fcea008c727d22566f56b555f77010d9d0d6f90ecc07139cc9c3"), looks := false }, kinds := [], alts := [], laidByText := true, laidKinds := [.data], laidTests := true, laidLooks := .later }
def ServerEndsCardSaid : Prop := Claim7.holds Tryd.pinned (.plain (OpenSpec.ofChange serverEndsSpec)) serverEndsCard

/-- THE TIED CARD OF 'dialtonelaw15.ServerPlays'. -/
def serverPlaysCard : Claim7 := { stood := { row := serverPlaysRow, standIns := [], harness := (true, "a2d4ae7b1565fcea008c727d22566f56b555f77010d9d0d6f90ecc07139cc9c3"), looks := false }, kinds := [], alts := [], laidByText := true, laidKinds := [.data], laidTests := true, laidLooks := .later }
def ServerPlaysCardSaid : Prop := Claim7.holds Tryd.pinned (.plain (OpenSpec.ofChange serverPlaysSpec)) serverPlaysCard

/-- THE TIED CARD OF 'dialtonelaw15.ServerKnown'. -/
def serverKnownCard : Claim7 := { stood := { row := serverKnownRow, standIns := [], harness := (true, "a2d4ae7b1565fcea008c727d22566f56b555f77010d9d0d6f90ecc07139cc9c3"), looks := false }, kinds := [], alts := [], laidByText := true, laidKinds := [.data], laidTests := true, laidLooks := .later }
def ServerKnownCardSaid : Prop := Claim7.holds Tryd.pinned (.plain (OpenSpec.ofChange serverKnownSpec)) serverKnownCard

/-- THE SECOND FORM's CARD OF 'dialtonelaw15.ServerSteps'. -/
def serverStepsUptoCard : Claim7 := { stood := { row := serverStepsUptoRow, standIns := [], harness := (true, "a2d4ae7b1565fcea008c727d22566f56b555f77010d9d0d6f90ecc07139cc9c3"), looks := false }, kinds := [], alts := [], laidByText := true, laidKinds := [.data], laidTests := true, laidLooks := .later }
def ServerStepsUptoCardSaid : Prop := Claim7.holds Tryd.pinned (.plain (OpenSpec.upto serverStepsSpec)) serverStepsUptoCard

/-- THE SECOND FORM's CARD OF 'dialtonelaw15.ServerTable'. -/
def serverTableUptoCard : Claim7 := { stood := { row := serverTableUptoRow, standIns := [], harness := (true, "a2d4ae7b1565fcea008c727d22566f56b555f77010d9d0d6f90ecc07139cc9c3"), looks := false }, kinds := [], alts := [], laidByText := true, laidKinds := [.data], laidTests := true, laidLooks := .later }
def ServerTableUptoCardSaid : Prop := Claim7.holds Tryd.pinned (.plain (OpenSpec.upto serverTableSpec)) serverTableUptoCard

/-- THE SECOND FORM's CARD OF 'dialtonelaw15.ServerAnswers'. -/
def serverAnswersUptoCard : Claim7 := { stood := { row := serverAnswersUptoRow, standIns := [], harness := (true, "a2d4ae7b1565fcea008c727d22566f56b555f77010d9d0d6f90ecc07139cc9c3"), looks := false }, kinds := [], alts := [], laidByText := true, laidKinds := [.data], laidTests := true, laidLooks := .later }
def ServerAnswersUptoCardSaid : Prop := Claim7.holds Tryd.pinned (.plain (OpenSpec.upto serverAnswersSpec)) serverAnswersUptoCard

/-- THE SECOND FORM's CARD OF 'dialtonelaw15.ServerEnds'. -/
def serverEndsUptoCard : Claim7 := { stood := { row := serverEndsUptoRow, standIns := [], harness := (true, "a2d4ae7b1565fcea008c727d22566f56b555f77010d9d0d6f90ecc07139cc9c3"), looks := false }, kinds := [], alts := [], laidByText := true, laidKinds := [.data], laidTests := true, laidLooks := .later }
def ServerEndsUptoCardSaid : Prop := Claim7.holds Tryd.pinned (.plain (OpenSpec.upto serverEndsSpec)) serverEndsUptoCard

/-- THE SECOND FORM's CARD OF 'dialtonelaw15.ServerPlays'. -/
def serverPlaysUptoCard : Claim7 := { stood := { row := serverPlaysUptoRow, standIns := [], harness := (true, "a2d4ae7b1565fcea008c727d22566f56b555f77010d9d0d6f90ecc07139cc9c3"), looks := false }, kinds := [], alts := [], laidByText := true, laidKinds := [.data], laidTests := true, laidLooks := .later }
def ServerPlaysUptoCardSaid : Prop := Claim7.holds Tryd.pinned (.plain (OpenSpec.upto serverPlaysSpec)) serverPlaysUptoCard

/-- THE SECOND FORM's CARD OF 'dialtonelaw15.ServerKnown'. -/
def serverKnownUptoCard : Claim7 := { stood := { row := serverKnownUptoRow, standIns := [], harness := (true, "a2d4ae7b1565fcea008c727d22566f56b555f77010d9d0d6f90ecc07139cc9c3"), looks := false }, kinds := [], alts := [], laidByText := true, laidKinds := [.data], laidTests := true, laidLooks := .later }
def ServerKnownUptoCardSaid : Prop := Claim7.holds Tryd.pinned (.plain (OpenSpec.upto serverKnownSpec)) serverKnownUptoCard
end Rows
end Go.Proofs.YtpbanfkjeiihbaaDoor
