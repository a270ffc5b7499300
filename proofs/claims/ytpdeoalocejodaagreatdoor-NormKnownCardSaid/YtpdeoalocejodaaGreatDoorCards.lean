/-
  DERIVED. GIVEN WITH THE SEED: THE CARDS: each row of YtpdeoalocejodaaGreatDoorRows.lean that lists a variable, with what it lists TIED to the program's text (the seventh form; the later family's looks); each row that meets fmt, with fmt's text TOLD by the authors' own Lean function (tested against real Go, not proved from fmt's source: count such statements apart). THE CARD IS WHAT COUNTS. Prove the row's statement (the work); the ties are given (YtpdeoalocejodaaGreatDoorTie.lean); close each card by the builder's one call (the guide's Derived/Test/ToyasCard.lean, 'card_holds'). Laid BY PROGRAM, IN A SANDBOX (cutbox-door.mjs). By AI agents, Wed Nov 11 2026. No macro, syntax, notation, axiom, sorry.
-/
import Derived.Test.YtpdeoalocejodaaGreatDoorRows
import GoSem.ClaimSeven
namespace Go.Proofs.YtpdeoalocejodaaGreatDoor
namespace Rows

/-- THE TIED CARD OF 'proofmarklaw04.NormSame'. -/
def normSameCard : Claim7 := { stood := { row := normSameRow, standIns := [], harness := (true, "fe1b598cfae0df3bdd1310401700093af20d266d35306f3cad831f50d3ff7613"), looks := false }, kinds := [], alts := [], laidByText := true, laidKinds := [.data, .data, .data], laidTests := true, laidLooks := .later }
def NormSameCardSaid : Prop := Claim7.holds Tryz.pinned (.plain (OpenSpec.ofChange normSameSpec)) normSameCard

/-- THE TIED CARD OF 'proofmarklaw04.NormMoved'. -/
def normMovedCard : Claim7 := { stood := { row := normMovedRow, standIns := [], harness := (true, "fe1b598cfae0df3bdd1310401700093af20d266d35306f3cad831f50d3ff7613"), looks := false }, kinds := [], alts := [], laidByText := true, laidKinds := [.data, .data, .data], laidTests := true, laidLooks := .later }
def NormMovedCardSaid : Prop := Claim7.holds Tryz.pinned (.plain (OpenSpec.ofChange normMovedSpec)) normMovedCard

/-- THE TIED CARD OF 'proofmarklaw04.NormChains'. -/
def normChainsCard : Claim7 := { stood := { row := normChainsRow, standIns := [], harness := (true, "fe1b598cfae0df3bdd1310401700093af20d266d35306f3cad831f50d3ff7613"), looks := false }, kinds := [], alts := [], laidByText := true, laidKinds := [.data, .data, .data], laidTests := true, laidLooks := .later }
def NormChainsCardSaid : Prop := Claim7.holds Tryz.pinned (.plain (OpenSpec.ofChange normChainsSpec)) normChainsCard

/-- THE TIED CARD OF 'proofmarklaw04.NormBin'. -/
def normBinCard : Claim7 := { stood := { row := normBinRow, standIns := [], harness := (true, "fe1b598cfae0df3bdd1310401700093af20d266d35306f3cad831f50d3ff7613"), looks := false }, kinds := [], alts := [], laidByText := true, laidKinds := [.data, .data, .data], laidTests := true, laidLooks := .later }
def NormBinCardSaid : Prop := Claim7.holds Tryz.pinned (.plain (OpenSpec.ofChange normBinSpec)) normBinCard

/-- THE TIED CARD OF 'proofmarklaw04.NormOf'. -/
def normOfCard : Claim7 := { stood := { row := normOfRow, standIns := [], harness := (true, "fe1b598cfae0df3bdd1310401700093af20d266d35306f3cad831f50d3ff7613"), looks := false }, kinds := [], alts := [], laidByText := true, laidKinds := [.data, .data, .data], laidTests := true, laidLooks := .later }
def NormOfCardSaid : Prop := Claim7.holds Tryz.pinned (.plain (OpenSpec.ofChange normOfSpec)) normOfCard

/-- THE TIED CARD OF 'proofmarklaw04.NormKnown'. -/
def normKnownCard : Claim7 := { stood := { row := normKnownRow, standIns := [], harness := (true, "fe1b598cfae0df3bdd1310401700093af20d266d35306f3cad831f50d3ff7613"), looks := false }, kinds := [], alts := [], laidByText := true, laidKinds := [.data, .data, .data], laidTests := true, laidLooks := .later }
def NormKnownCardSaid : Prop := Claim7.holds Tryz.pinned (.plain (OpenSpec.ofChange normKnownSpec)) normKnownCard

/-- THE SECOND FORM's CARD OF 'proofmarklaw04.NormSame'. -/
def normSameUptoCard : Claim7 := { stood := { row := normSameUptoRow, standIns := [], harness := (true, "fe1b598cfae0df3bdd1310401700093af20d266d35306f3cad831f50d3ff7613"), looks := false }, kinds := [], alts := [], laidByText := true, laidKinds := [.data, .data, .data], laidTests := true, laidLooks := .later }
def NormSameUptoCardSaid : Prop := Claim7.holds Tryz.pinned (.plain (OpenSpec.upto normSameSpec)) normSameUptoCard

/-- THE SECOND FORM's CARD OF 'proofmarklaw04.NormMoved'. -/
def normMovedUptoCard : Claim7 := { stood := { row := normMovedUptoRow, standIns := [], harness := (true, "fe1b598cfae0df3bdd1310401700093af20d266d35306f3cad831f50d3ff7613"), looks := false }, kinds := [], alts := [], laidByText := true, laidKinds := [.data, .data, .data], laidTests := true, laidLooks := .later }
def NormMovedUptoCardSaid : Prop := Claim7.holds Tryz.pinned (.plain (OpenSpec.upto normMovedSpec)) normMovedUptoCard

/-- THE SECOND FORM's CARD OF 'proofmarklaw04.NormChains'. -/
def normChainsUptoCard : Claim7 := { stood := { row := normChainsUptoRow, standIns := [], harness := (true, "fe1b598cfae0df3bdd1310401700093af20d266d35306f3cad831f50d3ff7613"), looks := false }, kinds := [], alts := [], laidByText := true, laidKinds := [.data, .data, .data], laidTests := true, laidLooks := .later }
def NormChainsUptoCardSaid : Prop := Claim7.holds Tryz.pinned (.plain (OpenSpec.upto normChainsSpec)) normChainsUptoCard

/-- THE SECOND FORM's CARD OF 'proofmarklaw04.NormBin'. -/
def normBinUptoCard : Claim7 := { stood := { row := normBinUptoRow, standIns := [], harness := (true, "fe1b598cfae0df3bdd1310401700093af20d266d35306f3cad831f50d3ff7613"), looks := false }, kinds := [], alts := [], laidByText := true, laidKinds := [.data, .data, .data], laidTests := true, laidLooks := .later }
def NormBinUptoCardSaid : Prop := Claim7.holds Tryz.pinned (.plain (OpenSpec.upto normBinSpec)) normBinUptoCard

/-- THE SECOND FORM's CARD OF 'proofmarklaw04.NormOf'. -/
def normOfUptoCard : Claim7 := { stood := { row := normOfUptoRow, standIns := [], harness := (true, "fe1b598cfae0df3bdd1310401700093af20d266d35306f3cad831f50d3ff7613"), looks := false }, kinds := [], alts := [], laidByText := true, laidKinds := [.data, .data, .data], laidTests := true, laidLooks := .later }
def NormOfUptoCardSaid : Prop := Claim7.holds Tryz.pinned (.plain (OpenSpec.upto normOfSpec)) normOfUptoCard

/-- THE SECOND FORM's CARD OF 'proofmarklaw04.NormKnown'. -/
def normKnownUptoCard : Claim7 := { stood := { row := normKnownUptoRow, standIns := [], harness := (true, "fe1b598cfae0df3bdd1310401700093af20d266d35306f3cad831f50d3ff7613"), looks := false }, kinds := [], alts := [], laidByText := true, laidKinds := [.data, .data, .data], laidTests := true, laidLooks := .later }
def NormKnownUptoCardSaid : Prop := Claim7.holds Tryz.pinned (.plain (OpenSpec.upto normKnownSpec)) normKnownUptoCard
end Rows
end Go.Proofs.YtpdeoalocejodaaGreatDoor
