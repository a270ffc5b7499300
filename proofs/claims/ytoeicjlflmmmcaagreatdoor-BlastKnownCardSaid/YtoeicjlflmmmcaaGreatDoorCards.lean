/-
  DERIVED. GIVEN WITH THE SEED: THE CARDS: each row of YtoeicjlflmmmcaaGreatDoorRows.lean that lists a variable, with what it lists TIED to the program's text (the seventh form; the later family's looks); each row that meets fmt, with fmt's text TOLD by the authors' own Lean function (tested against real Go, not proved from fmt's source: count such statements apart). THE CARD IS WHAT COUNTS. Prove the row's statement (the work); the ties are given (YtoeicjlflmmmcaaGreatDoorTie.lean); close each card by the builder's one call (the guide's Derived/Test/ToyasCard.lean, 'card_holds'). Laid BY PROGRAM, IN A SANDBOX (cutbox-door.mjs). By AI agents, Wed Nov 11 2026. No macro, syntax, notation, axiom, sorry.
-/
import Derived.Test.YtoeicjlflmmmcaaGreatDoorRows
import GoSem.ClaimSeven
namespace Go.Proofs.YtoeicjlflmmmcaaGreatDoor
namespace Rows

/-- THE TIED CARD OF 'proofmarklaw06.BlastModel'. -/
def blastModelCard : Claim7 := { stood := { row := blastModelRow, standIns := [], harness := (true, "024f61d92114775cb222d63e739d4db47312bf4066b72365cfd8aab0b19b3255"), looks := false }, kinds := [], alts := [], laidByText := true, laidKinds := [.data, .data, .data], laidTests := true, laidLooks := .later }
def BlastModelCardSaid : Prop := Claim7.holds Tryz.pinned (.plain (OpenSpec.ofChange blastModelSpec)) blastModelCard

/-- THE TIED CARD OF 'proofmarklaw06.BlastKnown'. -/
def blastKnownCard : Claim7 := { stood := { row := blastKnownRow, standIns := [], harness := (true, "024f61d92114775cb222d63e739d4db47312bf4066b72365cfd8aab0b19b3255"), looks := false }, kinds := [], alts := [], laidByText := true, laidKinds := [.data, .data, .data], laidTests := true, laidLooks := .later }
def BlastKnownCardSaid : Prop := Claim7.holds Tryz.pinned (.plain (OpenSpec.ofChange blastKnownSpec)) blastKnownCard

/-- THE SECOND FORM's CARD OF 'proofmarklaw06.BlastModel'. -/
def blastModelUptoCard : Claim7 := { stood := { row := blastModelUptoRow, standIns := [], harness := (true, "024f61d92114775cb222d63e739d4db47312bf4066b72365cfd8aab0b19b3255"), looks := false }, kinds := [], alts := [], laidByText := true, laidKinds := [.data, .data, .data], laidTests := true, laidLooks := .later }
def BlastModelUptoCardSaid : Prop := Claim7.holds Tryz.pinned (.plain (OpenSpec.upto blastModelSpec)) blastModelUptoCard

/-- THE SECOND FORM's CARD OF 'proofmarklaw06.BlastKnown'. -/
def blastKnownUptoCard : Claim7 := { stood := { row := blastKnownUptoRow, standIns := [], harness := (true, "024f61d92114775cb222d63e739d4db47312bf4066b72365cfd8aab0b19b3255"), looks := false }, kinds := [], alts := [], laidByText := true, laidKinds := [.data, .data, .data], laidTests := true, laidLooks := .later }
def BlastKnownUptoCardSaid : Prop := Claim7.holds Tryz.pinned (.plain (OpenSpec.upto blastKnownSpec)) blastKnownUptoCard
end Rows
end Go.Proofs.YtoeicjlflmmmcaaGreatDoor
