/-
  DERIVED. GIVEN WITH THE SEED: THE CARDS: each row of YtingdebioipemaaGreatDoorRows.lean that lists a variable, with what it lists TIED to the program's text (the seventh form; the later family's looks); each row that meets fmt, with fmt's text TOLD by the authors' own Lean function (tested against real Go, not proved from fmt's source: count such statements apart). THE CARD IS WHAT COUNTS. Prove the row's statement (the work); the ties are given (YtingdebioipemaaGreatDoorTie.lean); close each card by the builder's one call (the guide's Derived/Test/ToyasCard.lean, 'card_holds'). Laid BY PROGRAM, IN A SANDBOX (cutbox-door.mjs). By AI agents, Wed Nov 11 2026. No macro, syntax, notation, axiom, sorry.
-/
import Derived.Test.YtingdebioipemaaGreatDoorRows
import GoSem.ClaimSeven
namespace Go.Proofs.YtingdebioipemaaGreatDoor
namespace Rows

/-- THE TIED CARD OF 'proofmarklaw05.ClauseText'. -/
def clauseTextCard : Claim7 := { stood := { row := clauseTextRow, standIns := [], harness := (true, "89ac9038b4d924938a93617ad8672673fb8136a8192e2ce0cb3f9836946d7d6c"), looks := true }, kinds := [], alts := [], laidByText := true, laidKinds := [.data, .data, .data, .data, .sentinel, .sentinel, .listed, .sentinel, .data, .pinned], laidTests := true, laidLooks := .later }
def ClauseTextCardSaid : Prop := Claim7.holds Tryz.pinned (.plain (OpenSpec.ofChange clauseTextSpec)) clauseTextCard

/-- THE TIED CARD OF 'proofmarklaw05.ClauseKnown'. -/
def clauseKnownCard : Claim7 := { stood := { row := clauseKnownRow, standIns := [], harness := (true, "89ac9038b4d924938a93617ad8672673fb8136a8192e2ce0cb3f9836946d7d6c"), looks := true }, kinds := [], alts := [], laidByText := true, laidKinds := [.data, .data, .data, .data, .sentinel, .sentinel, .listed, .sentinel, .data, .pinned], laidTests := true, laidLooks := .later }
def ClauseKnownCardSaid : Prop := Claim7.holds Tryz.pinned (.plain (OpenSpec.ofChange clauseKnownSpec)) clauseKnownCard

/-- THE SECOND FORM's CARD OF 'proofmarklaw05.ClauseText'. -/
def clauseTextUptoCard : Claim7 := { stood := { row := clauseTextUptoRow, standIns := [], harness := (true, "89ac9038b4d924938a93617ad8672673fb8136a8192e2ce0cb3f9836946d7d6c"), looks := true }, kinds := [], alts := [], laidByText := true, laidKinds := [.data, .data, .data, .data, .sentinel, .sentinel, .listed, .sentinel, .data, .pinned], laidTests := true, laidLooks := .later }
def ClauseTextUptoCardSaid : Prop := Claim7.holds Tryz.pinned (.plain (OpenSpec.upto clauseTextSpec)) clauseTextUptoCard

/-- THE SECOND FORM's CARD OF 'proofmarklaw05.ClauseKnown'. -/
def clauseKnownUptoCard : Claim7 := { stood := { row := clauseKnownUptoRow, standIns := [], harness := (true, "89ac9038b4d924938a93617ad8672673fb8136a8192e2ce0cb3f9836946d7d6c"), looks := true }, kinds := [], alts := [], laidByText := true, laidKinds := [.data, .data, .data, .data, .sentinel, .sentinel, .listed, .sentinel, .data, .pinned], laidTests := true, laidLooks := .later }
def ClauseKnownUptoCardSaid : Prop := Claim7.holds Tryz.pinned (.plain (OpenSpec.upto clauseKnownSpec)) clauseKnownUptoCard
end Rows
end Go.Proofs.YtingdebioipemaaGreatDoor
