/-
  DERIVED. GIVEN WITH THE SEED: THE CARDS: each row of YtaidbdgndljaeaaGreatDoorRows.lean that lists a variable, with what it lists TIED to the program's text (the seventh form; the later family's looks); each row that meets fmt, with fmt's text TOLD by the authors' own Lean function (tested against real Go, not proved from fmt's source: count such statements apart). THE CARD IS WHAT COUNTS. Prove the row's statement (the work); the ties are given (YtaidbdgndljaeaaGreatDoorTie.lean); close each card by the builder's one call (the guide's Derived/Test/ToyasCard.lean, 'card_holds'). Laid BY PROGRAM, IN A SANDBOX (cutbox-door.mjs). By AI agents, Wed Nov 11 2026. No macro, syntax, notation, axiom, sorry.
-/
import Derived.Test.YtaidbdgndljaeaaGreatDoorRows
import GoSem.ClaimSeven
namespace Go.Proofs.YtaidbdgndljaeaaGreatDoor
namespace Rows

/-- THE TIED CARD OF 'proofmarklaw22.RegionsCuts'. -/
def regionsCutsCard : Claim7 := { stood := { row := regionsCutsRow, standIns := [], harness := (true, "7d3defeaafbc6327143347bd163cab479c75ddb72d06916308983dc630e82c4a"), looks := false }, kinds := [], alts := [], laidByText := true, laidKinds := [.data, .data, .data, .data, .data], laidTests := true, laidLooks := .later }
def RegionsCutsCardSaid : Prop := Claim7.holds Tryz.pinned (.plain (OpenSpec.ofChange regionsCutsSpec)) regionsCutsCard

/-- THE TIED CARD OF 'proofmarklaw22.RegionsMoved'. -/
def regionsMovedCard : Claim7 := { stood := { row := regionsMovedRow, standIns := [], harness := (true, "7d3defeaafbc6327143347bd163cab479c75ddb72d06916308983dc630e82c4a"), looks := false }, kinds := [], alts := [], laidByText := true, laidKinds := [.data, .data, .data, .data, .data], laidTests := true, laidLooks := .later }
def RegionsMovedCardSaid : Prop := Claim7.holds Tryz.pinned (.plain (OpenSpec.ofChange regionsMovedSpec)) regionsMovedCard

/-- THE TIED CARD OF 'proofmarklaw22.RegionsCalls'. -/
def regionsCallsCard : Claim7 := { stood := { row := regionsCallsRow, standIns := [], harness := (true, "7d3defeaafbc6327143347bd163cab479c75ddb72d06916308983dc630e82c4a"), looks := false }, kinds := [], alts := [], laidByText := true, laidKinds := [.data, .data, .data, .data, .data], laidTests := true, laidLooks := .later }
def RegionsCallsCardSaid : Prop := Claim7.holds Tryz.pinned (.plain (OpenSpec.ofChange regionsCallsSpec)) regionsCallsCard

/-- THE TIED CARD OF 'proofmarklaw22.RegionsKnown'. -/
def regionsKnownCard : Claim7 := { stood := { row := regionsKnownRow, standIns := [], harness := (true, "7d3defeaafbc6327143347bd163cab479c75ddb72d06916308983dc630e82c4a"), looks := false }, kinds := [], alts := [], laidByText := true, laidKinds := [.data, .data, .data, .data, .data], laidTests := true, laidLooks := .later }
def RegionsKnownCardSaid : Prop := Claim7.holds Tryz.pinned (.plain (OpenSpec.ofChange regionsKnownSpec)) regionsKnownCard

/-- THE SECOND FORM's CARD OF 'proofmarklaw22.RegionsCuts'. -/
def regionsCutsUptoCard : Claim7 := { stood := { row := regionsCutsUptoRow, standIns := [], harness := (true, "7d3defeaafbc6327143347bd163cab479c75ddb72d06916308983dc630e82c4a"), looks := false }, kinds := [], alts := [], laidByText := true, laidKinds := [.data, .data, .data, .data, .data], laidTests := true, laidLooks := .later }
def RegionsCutsUptoCardSaid : Prop := Claim7.holds Tryz.pinned (.plain (OpenSpec.upto regionsCutsSpec)) regionsCutsUptoCard

/-- THE SECOND FORM's CARD OF 'proofmarklaw22.RegionsMoved'. -/
def regionsMovedUptoCard : Claim7 := { stood := { row := regionsMovedUptoRow, standIns := [], harness := (true, "7d3defeaafbc6327143347bd163cab479c75ddb72d06916308983dc630e82c4a"), looks := false }, kinds := [], alts := [], laidByText := true, laidKinds := [.data, .data, .data, .data, .data], laidTests := true, laidLooks := .later }
def RegionsMovedUptoCardSaid : Prop := Claim7.holds Tryz.pinned (.plain (OpenSpec.upto regionsMovedSpec)) regionsMovedUptoCard

/-- THE SECOND FORM's CARD OF 'proofmarklaw22.RegionsCalls'. -/
def regionsCallsUptoCard : Claim7 := { stood := { row := regionsCallsUptoRow, standIns := [], harness := (true, "7d3defeaafbc6327143347bd163cab479c75ddb72d06916308983dc630e82c4a"), looks := false }, kinds := [], alts := [], laidByText := true, laidKinds := [.data, .data, .data, .data, .data], laidTests := true, laidLooks := .later }
def RegionsCallsUptoCardSaid : Prop := Claim7.holds Tryz.pinned (.plain (OpenSpec.upto regionsCallsSpec)) regionsCallsUptoCard

/-- THE SECOND FORM's CARD OF 'proofmarklaw22.RegionsKnown'. -/
def regionsKnownUptoCard : Claim7 := { stood := { row := regionsKnownUptoRow, standIns := [], harness := (true, "7d3defeaafbc6327143347bd163cab479c75ddb72d06916308983dc630e82c4a"), looks := false }, kinds := [], alts := [], laidByText := true, laidKinds := [.data, .data, .data, .data, .data], laidTests := true, laidLooks := .later }
def RegionsKnownUptoCardSaid : Prop := Claim7.holds Tryz.pinned (.plain (OpenSpec.upto regionsKnownSpec)) regionsKnownUptoCard
end Rows
end Go.Proofs.YtaidbdgndljaeaaGreatDoor
