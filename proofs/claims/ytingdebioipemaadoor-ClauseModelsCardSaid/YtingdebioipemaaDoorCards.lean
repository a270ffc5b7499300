/-
  DERIVED. GIVEN WITH THE SEED: THE CARDS: each row of YtingdebioipemaaDoorRows.lean that lists a variable, with what it lists TIED to the program's text (the seventh form; the later family's looks); each row that meets fmt, with fmt's text TOLD by the authors' own Lean function (tested against real Go, not proved from fmt's source: count such statements apart). THE CARD IS WHAT COUNTS. Prove the row's statement (the work); the ties are given (YtingdebioipemaaDoorTie.lean); close each card by the builder's one call (the guide's Derived/Test/ToyasCard.lean, 'card_holds'). Laid BY PROGRAM, IN A SANDBOX (cutbox-door.mjs). By AI agents, Wed Nov 11 2026. No macro, syntax, notation, axiom, sorry.
-/
import Derived.Test.YtingdebioipemaaDoorRows
import GoSem.ClaimSeven
namespace Go.Proofs.YtingdebioipemaaDoor
namespace Rows

/-- THE TIED CARD OF 'proofmarklaw05.ClauseOrder'. -/
def clauseOrderCard : Claim7 := { stood := { row := clauseOrderRow, standIns := [], harness := (true, "5b8072db5a6640c926496562e2803346971f16eeaaee1b88f4aaa05ba3c2476c"), looks := false }, kinds := [], alts := [], laidByText := true, laidKinds := [.data, .data, .data, .sentinel], laidTests := true, laidLooks := .later }
def ClauseOrderCardSaid : Prop := Claim7.holds Tryd.pinned (.plain (OpenSpec.ofChange clauseOrderSpec)) clauseOrderCard

/-- THE TIED CARD OF 'proofmarklaw05.ClauseUnits'. -/
def clauseUnitsCard : Claim7 := { stood := { row := clauseUnitsRow, standIns := [], harness := (true, "5b8072db5a6640c926496562e2803346971f16eeaaee1b88f4aaa05ba3c2476c"), looks := false }, kinds := [], alts := [], laidByText := true, laidKinds := [.data, .data, .data, .sentinel], laidTests := true, laidLooks := .later }
def ClauseUnitsCardSaid : Prop := Claim7.holds Tryd.pinned (.plain (OpenSpec.ofChange clauseUnitsSpec)) clauseUnitsCard

/-- THE TIED CARD OF 'proofmarklaw05.ClauseModels'. -/
def clauseModelsCard : Claim7 := { stood := { row := clauseModelsRow, standIns := [], harness := (true, "5b8072db5a6640c926496562e2803346971f16eeaaee1b88f4aaa05ba3c2476c"), looks := false }, kinds := [], alts := [], laidByText := true, laidKinds := [.data, .data, .data, .sentinel], laidTests := true, laidLooks := .later }
def ClauseModelsCardSaid : Prop := Claim7.holds Tryd.pinned (.plain (OpenSpec.ofChange clauseModelsSpec)) clauseModelsCard

/-- THE SECOND FORM's CARD OF 'proofmarklaw05.ClauseOrder'. -/
def clauseOrderUptoCard : Claim7 := { stood := { row := clauseOrderUptoRow, standIns := [], harness := (true, "5b8072db5a6640c926496562e2803346971f16eeaaee1b88f4aaa05ba3c2476c"), looks := false }, kinds := [], alts := [], laidByText := true, laidKinds := [.data, .data, .data, .sentinel], laidTests := true, laidLooks := .later }
def ClauseOrderUptoCardSaid : Prop := Claim7.holds Tryd.pinned (.plain (OpenSpec.upto clauseOrderSpec)) clauseOrderUptoCard

/-- THE SECOND FORM's CARD OF 'proofmarklaw05.ClauseUnits'. -/
def clauseUnitsUptoCard : Claim7 := { stood := { row := clauseUnitsUptoRow, standIns := [], harness := (true, "5b8072db5a6640c926496562e2803346971f16eeaaee1b88f4aaa05ba3c2476c"), looks := false }, kinds := [], alts := [], laidByText := true, laidKinds := [.data, .data, .data, .sentinel], laidTests := true, laidLooks := .later }
def ClauseUnitsUptoCardSaid : Prop := Claim7.holds Tryd.pinned (.plain (OpenSpec.upto clauseUnitsSpec)) clauseUnitsUptoCard

/-- THE SECOND FORM's CARD OF 'proofmarklaw05.ClauseModels'. -/
def clauseModelsUptoCard : Claim7 := { stood := { row := clauseModelsUptoRow, standIns := [], harness := (true, "5b8072db5a6640c926496562e2803346971f16eeaaee1b88f4aaa05ba3c2476c"), looks := false }, kinds := [], alts := [], laidByText := true, laidKinds := [.data, .data, .data, .sentinel], laidTests := true, laidLooks := .later }
def ClauseModelsUptoCardSaid : Prop := Claim7.holds Tryd.pinned (.plain (OpenSpec.upto clauseModelsSpec)) clauseModelsUptoCard
end Rows
end Go.Proofs.YtingdebioipemaaDoor
