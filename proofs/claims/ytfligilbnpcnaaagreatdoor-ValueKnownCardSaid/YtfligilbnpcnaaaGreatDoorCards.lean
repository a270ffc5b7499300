/-
  DERIVED. GIVEN WITH THE SEED: THE CARDS: each row of YtfligilbnpcnaaaGreatDoorRows.lean that lists a variable, with what it lists TIED to the program's text (the seventh form; the later family's looks); each row that meets fmt, with fmt's text TOLD by the authors' own Lean function (tested against real Go, not proved from fmt's source: count such statements apart). THE CARD IS WHAT COUNTS. Prove the row's statement (the work); the ties are given (YtfligilbnpcnaaaGreatDoorTie.lean); close each card by the builder's one call (the guide's Derived/Test/ToyasCard.lean, 'card_holds'). Laid BY PROGRAM, IN A SANDBOX (cutbox-door.mjs). By AI agents, Wed Nov 11 2026. No macro, syntax, notation, axiom, sorry.
-/
import Derived.Test.YtfligilbnpcnaaaGreatDoorRows
import GoSem.ClaimSeven
namespace Go.Proofs.YtfligilbnpcnaaaGreatDoor
namespace Rows

/-- THE TIED CARD OF 'proofmarklaw03.ValueOf'. -/
def valueOfCard : Claim7 := { stood := { row := valueOfRow, standIns := [], harness := (true, "1c7e1a1c11138229b9b7fdcb3d507fa5ddac471e0b01cafebe6e0f31230886e9"), looks := false }, kinds := [], alts := [], laidByText := true, laidKinds := [.data, .data, .data], laidTests := true, laidLooks := .later }
def ValueOfCardSaid : Prop := Claim7.holds Tryz.pinned (.plain (OpenSpec.ofChange valueOfSpec)) valueOfCard

/-- THE TIED CARD OF 'proofmarklaw03.ValueKnown'. -/
def valueKnownCard : Claim7 := { stood := { row := valueKnownRow, standIns := [], harness := (true, "1c7e1a1c11138229b9b7fdcb3d507fa5ddac471e0b01cafebe6e0f31230886e9"), looks := false }, kinds := [], alts := [], laidByText := true, laidKinds := [.data, .data, .data], laidTests := true, laidLooks := .later }
def ValueKnownCardSaid : Prop := Claim7.holds Tryz.pinned (.plain (OpenSpec.ofChange valueKnownSpec)) valueKnownCard

/-- THE SECOND FORM's CARD OF 'proofmarklaw03.ValueOf'. -/
def valueOfUptoCard : Claim7 := { stood := { row := valueOfUptoRow, standIns := [], harness := (true, "1c7e1a1c11138229b9b7fdcb3d507fa5ddac471e0b01cafebe6e0f31230886e9"), looks := false }, kinds := [], alts := [], laidByText := true, laidKinds := [.data, .data, .data], laidTests := true, laidLooks := .later }
def ValueOfUptoCardSaid : Prop := Claim7.holds Tryz.pinned (.plain (OpenSpec.upto valueOfSpec)) valueOfUptoCard

/-- THE SECOND FORM's CARD OF 'proofmarklaw03.ValueKnown'. -/
def valueKnownUptoCard : Claim7 := { stood := { row := valueKnownUptoRow, standIns := [], harness := (true, "1c7e1a1c11138229b9b7fdcb3d507fa5ddac471e0b01cafebe6e0f31230886e9"), looks := false }, kinds := [], alts := [], laidByText := true, laidKinds := [.data, .data, .data], laidTests := true, laidLooks := .later }
def ValueKnownUptoCardSaid : Prop := Claim7.holds Tryz.pinned (.plain (OpenSpec.upto valueKnownSpec)) valueKnownUptoCard
end Rows
end Go.Proofs.YtfligilbnpcnaaaGreatDoor
