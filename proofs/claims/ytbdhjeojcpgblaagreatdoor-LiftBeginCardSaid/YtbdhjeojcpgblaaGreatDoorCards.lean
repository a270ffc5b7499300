/-
  DERIVED. GIVEN WITH THE SEED: THE CARDS: each row of YtbdhjeojcpgblaaGreatDoorRows.lean that lists a variable, with what it lists TIED to the program's text (the seventh form; the later family's looks); each row that meets fmt, with fmt's text TOLD by the authors' own Lean function (tested against real Go, not proved from fmt's source: count such statements apart). THE CARD IS WHAT COUNTS. Prove the row's statement (the work); the ties are given (YtbdhjeojcpgblaaGreatDoorTie.lean); close each card by the builder's one call (the guide's Derived/Test/ToyasCard.lean, 'card_holds'). Laid BY PROGRAM, IN A SANDBOX (cutbox-door.mjs). By AI agents, Wed Nov 11 2026. No macro, syntax, notation, axiom, sorry.
-/
import Derived.Test.YtbdhjeojcpgblaaGreatDoorRows
import GoSem.ClaimSeven
namespace Go.Proofs.YtbdhjeojcpgblaaGreatDoor
namespace Rows

/-- THE TIED CARD OF 'proofmarklaw23.LiftBegin'. -/
def liftBeginCard : Claim7 := { stood := { row := liftBeginRow, standIns := [], harness := (true, "6c1eeedf7173c7484df023e056f4511f225019b7598798fc9f5f3cf2ddafc41a"), looks := false }, kinds := [], alts := [], laidByText := true, laidKinds := [.data, .data, .data, .data, .data, .data, .data, .data], laidTests := true, laidLooks := .later }
def LiftBeginCardSaid : Prop := Claim7.holds Tryz.pinned (.plain (OpenSpec.ofChange liftBeginSpec)) liftBeginCard

/-- THE TIED CARD OF 'proofmarklaw23.LiftTwice'. -/
def liftTwiceCard : Claim7 := { stood := { row := liftTwiceRow, standIns := [], harness := (true, "6c1eeedf7173c7484df023e056f4511f225019b7598798fc9f5f3cf2ddafc41a"), looks := false }, kinds := [], alts := [], laidByText := true, laidKinds := [.data, .data, .data, .data, .data, .data, .data, .data], laidTests := true, laidLooks := .later }
def LiftTwiceCardSaid : Prop := Claim7.holds Tryz.pinned (.plain (OpenSpec.ofChange liftTwiceSpec)) liftTwiceCard

/-- THE TIED CARD OF 'proofmarklaw23.LiftSteps'. -/
def liftStepsCard : Claim7 := { stood := { row := liftStepsRow, standIns := [], harness := (true, "6c1eeedf7173c7484df023e056f4511f225019b7598798fc9f5f3cf2ddafc41a"), looks := false }, kinds := [], alts := [], laidByText := true, laidKinds := [.data, .data, .data, .data, .data, .data, .data, .data], laidTests := true, laidLooks := .later }
def LiftStepsCardSaid : Prop := Claim7.holds Tryz.pinned (.plain (OpenSpec.ofChange liftStepsSpec)) liftStepsCard

/-- THE TIED CARD OF 'proofmarklaw23.LiftKnown'. -/
def liftKnownCard : Claim7 := { stood := { row := liftKnownRow, standIns := [], harness := (true, "6c1eeedf7173c7484df023e056f4511f225019b7598798fc9f5f3cf2ddafc41a"), looks := false }, kinds := [], alts := [], laidByText := true, laidKinds := [.data, .data, .data, .data, .data, .data, .data, .data], laidTests := true, laidLooks := .later }
def LiftKnownCardSaid : Prop := Claim7.holds Tryz.pinned (.plain (OpenSpec.ofChange liftKnownSpec)) liftKnownCard

/-- THE SECOND FORM's CARD OF 'proofmarklaw23.LiftBegin'. -/
def liftBeginUptoCard : Claim7 := { stood := { row := liftBeginUptoRow, standIns := [], harness := (true, "6c1eeedf7173c7484df023e056f4511f225019b7598798fc9f5f3cf2ddafc41a"), looks := false }, kinds := [], alts := [], laidByText := true, laidKinds := [.data, .data, .data, .data, .data, .data, .data, .data], laidTests := true, laidLooks := .later }
def LiftBeginUptoCardSaid : Prop := Claim7.holds Tryz.pinned (.plain (OpenSpec.upto liftBeginSpec)) liftBeginUptoCard

/-- THE SECOND FORM's CARD OF 'proofmarklaw23.LiftTwice'. -/
def liftTwiceUptoCard : Claim7 := { stood := { row := liftTwiceUptoRow, standIns := [], harness := (true, "6c1eeedf7173c7484df023e056f4511f225019b7598798fc9f5f3cf2ddafc41a"), looks := false }, kinds := [], alts := [], laidByText := true, laidKinds := [.data, .data, .data, .data, .data, .data, .data, .data], laidTests := true, laidLooks := .later }
def LiftTwiceUptoCardSaid : Prop := Claim7.holds Tryz.pinned (.plain (OpenSpec.upto liftTwiceSpec)) liftTwiceUptoCard

/-- THE SECOND FORM's CARD OF 'proofmarklaw23.LiftSteps'. -/
def liftStepsUptoCard : Claim7 := { stood := { row := liftStepsUptoRow, standIns := [], harness := (true, "6c1eeedf7173c7484df023e056f4511f225019b7598798fc9f5f3cf2ddafc41a"), looks := false }, kinds := [], alts := [], laidByText := true, laidKinds := [.data, .data, .data, .data, .data, .data, .data, .data], laidTests := true, laidLooks := .later }
def LiftStepsUptoCardSaid : Prop := Claim7.holds Tryz.pinned (.plain (OpenSpec.upto liftStepsSpec)) liftStepsUptoCard

/-- THE SECOND FORM's CARD OF 'proofmarklaw23.LiftKnown'. -/
def liftKnownUptoCard : Claim7 := { stood := { row := liftKnownUptoRow, standIns := [], harness := (true, "6c1eeedf7173c7484df023e056f4511f225019b7598798fc9f5f3cf2ddafc41a"), looks := false }, kinds := [], alts := [], laidByText := true, laidKinds := [.data, .data, .data, .data, .data, .data, .data, .data], laidTests := true, laidLooks := .later }
def LiftKnownUptoCardSaid : Prop := Claim7.holds Tryz.pinned (.plain (OpenSpec.upto liftKnownSpec)) liftKnownUptoCard
end Rows
end Go.Proofs.YtbdhjeojcpgblaaGreatDoor
