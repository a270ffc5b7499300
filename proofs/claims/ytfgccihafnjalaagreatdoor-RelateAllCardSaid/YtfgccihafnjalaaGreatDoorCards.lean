/-
  DERIVED. GIVEN WITH THE SEED: THE CARDS: each row of YtfgccihafnjalaaGreatDoorRows.lean that lists a variable, with what it lists TIED to the program's text (the seventh form; the later family's looks); each row that meets fmt, with fmt's text TOLD by the authors' own Lean function (tested against real Go, not proved from fmt's source: count such statements apart). THE CARD IS WHAT COUNTS. Prove the row's statement (the work); the ties are given (YtfgccihafnjalaaGreatDoorTie.lean); close each card by the builder's one call (the guide's Derived/Test/ToyasCard.lean, 'card_holds'). Laid BY PROGRAM, IN A SANDBOX (cutbox-door.mjs). By AI agents, Wed Nov 11 2026. No macro, syntax, notation, axiom, sorry.
-/
import Derived.Test.YtfgccihafnjalaaGreatDoorRows
import GoSem.ClaimSeven
namespace Go.Proofs.YtfgccihafnjalaaGreatDoor
namespace Rows

/-- THE TIED CARD OF 'proofmarklaw25.RelateSets'. -/
def relateSetsCard : Claim7 := { stood := { row := relateSetsRow, standIns := [], harness := (true, "5b4c1721e06d2710699952b9effd48018796c4faa42d249f866fff53bc4165f7"), looks := false }, kinds := [], alts := [], laidByText := true, laidKinds := [.data, .data, .data, .data, .data, .data, .data, .data], laidTests := true, laidLooks := .later }
def RelateSetsCardSaid : Prop := Claim7.holds Tryz.pinned (.plain (OpenSpec.ofChange relateSetsSpec)) relateSetsCard

/-- THE TIED CARD OF 'proofmarklaw25.RelateMeets'. -/
def relateMeetsCard : Claim7 := { stood := { row := relateMeetsRow, standIns := [], harness := (true, "5b4c1721e06d2710699952b9effd48018796c4faa42d249f866fff53bc4165f7"), looks := false }, kinds := [], alts := [], laidByText := true, laidKinds := [.data, .data, .data, .data, .data, .data, .data, .data], laidTests := true, laidLooks := .later }
def RelateMeetsCardSaid : Prop := Claim7.holds Tryz.pinned (.plain (OpenSpec.ofChange relateMeetsSpec)) relateMeetsCard

/-- THE TIED CARD OF 'proofmarklaw25.RelateFresh'. -/
def relateFreshCard : Claim7 := { stood := { row := relateFreshRow, standIns := [], harness := (true, "5b4c1721e06d2710699952b9effd48018796c4faa42d249f866fff53bc4165f7"), looks := false }, kinds := [], alts := [], laidByText := true, laidKinds := [.data, .data, .data, .data, .data, .data, .data, .data], laidTests := true, laidLooks := .later }
def RelateFreshCardSaid : Prop := Claim7.holds Tryz.pinned (.plain (OpenSpec.ofChange relateFreshSpec)) relateFreshCard

/-- THE TIED CARD OF 'proofmarklaw25.RelateAll'. -/
def relateAllCard : Claim7 := { stood := { row := relateAllRow, standIns := [], harness := (true, "5b4c1721e06d2710699952b9effd48018796c4faa42d249f866fff53bc4165f7"), looks := false }, kinds := [], alts := [], laidByText := true, laidKinds := [.data, .data, .data, .data, .data, .data, .data, .data], laidTests := true, laidLooks := .later }
def RelateAllCardSaid : Prop := Claim7.holds Tryz.pinned (.plain (OpenSpec.ofChange relateAllSpec)) relateAllCard

/-- THE TIED CARD OF 'proofmarklaw25.RelateKnown'. -/
def relateKnownCard : Claim7 := { stood := { row := relateKnownRow, standIns := [], harness := (true, "5b4c1721e06d2710699952b9effd48018796c4faa42d249f866fff53bc4165f7"), looks := false }, kinds := [], alts := [], laidByText := true, laidKinds := [.data, .data, .data, .data, .data, .data, .data, .data], laidTests := true, laidLooks := .later }
def RelateKnownCardSaid : Prop := Claim7.holds Tryz.pinned (.plain (OpenSpec.ofChange relateKnownSpec)) relateKnownCard

/-- THE SECOND FORM's CARD OF 'proofmarklaw25.RelateSets'. -/
def relateSetsUptoCard : Claim7 := { stood := { row := relateSetsUptoRow, standIns := [], harness := (true, "5b4c1721e06d2710699952b9effd48018796c4faa42d249f866fff53bc4165f7"), looks := false }, kinds := [], alts := [], laidByText := true, laidKinds := [.data, .data, .data, .data, .data, .data, .data, .data], laidTests := true, laidLooks := .later }
def RelateSetsUptoCardSaid : Prop := Claim7.holds Tryz.pinned (.plain (OpenSpec.upto relateSetsSpec)) relateSetsUptoCard

/-- THE SECOND FORM's CARD OF 'proofmarklaw25.RelateMeets'. -/
def relateMeetsUptoCard : Claim7 := { stood := { row := relateMeetsUptoRow, standIns := [], harness := (true, "5b4c1721e06d2710699952b9effd48018796c4faa42d249f866fff53bc4165f7"), looks := false }, kinds := [], alts := [], laidByText := true, laidKinds := [.data, .data, .data, .data, .data, .data, .data, .data], laidTests := true, laidLooks := .later }
def RelateMeetsUptoCardSaid : Prop := Claim7.holds Tryz.pinned (.plain (OpenSpec.upto relateMeetsSpec)) relateMeetsUptoCard

/-- THE SECOND FORM's CARD OF 'proofmarklaw25.RelateFresh'. -/
def relateFreshUptoCard : Claim7 := { stood := { row := relateFreshUptoRow, standIns := [], harness := (true, "5b4c1721e06d2710699952b9effd48018796c4faa42d249f866fff53bc4165f7"), looks := false }, kinds := [], alts := [], laidByText := true, laidKinds := [.data, .data, .data, .data, .data, .data, .data, .data], laidTests := true, laidLooks := .later }
def RelateFreshUptoCardSaid : Prop := Claim7.holds Tryz.pinned (.plain (OpenSpec.upto relateFreshSpec)) relateFreshUptoCard

/-- THE SECOND FORM's CARD OF 'proofmarklaw25.RelateAll'. -/
def relateAllUptoCard : Claim7 := { stood := { row := relateAllUptoRow, standIns := [], harness := (true, "5b4c1721e06d2710699952b9effd48018796c4faa42d249f866fff53bc4165f7"), looks := false }, kinds := [], alts := [], laidByText := true, laidKinds := [.data, .data, .data, .data, .data, .data, .data, .data], laidTests := true, laidLooks := .later }
def RelateAllUptoCardSaid : Prop := Claim7.holds Tryz.pinned (.plain (OpenSpec.upto relateAllSpec)) relateAllUptoCard

/-- THE SECOND FORM's CARD OF 'proofmarklaw25.RelateKnown'. -/
def relateKnownUptoCard : Claim7 := { stood := { row := relateKnownUptoRow, standIns := [], harness := (true, "5b4c1721e06d2710699952b9effd48018796c4faa42d249f866fff53bc4165f7"), looks := false }, kinds := [], alts := [], laidByText := true, laidKinds := [.data, .data, .data, .data, .data, .data, .data, .data], laidTests := true, laidLooks := .later }
def RelateKnownUptoCardSaid : Prop := Claim7.holds Tryz.pinned (.plain (OpenSpec.upto relateKnownSpec)) relateKnownUptoCard
end Rows
end Go.Proofs.YtfgccihafnjalaaGreatDoor
