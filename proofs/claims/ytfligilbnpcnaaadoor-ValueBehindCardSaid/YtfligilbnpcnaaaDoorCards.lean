/-
  DERIVED. GIVEN WITH THE SEED: THE CARDS: each row of YtfligilbnpcnaaaDoorRows.lean that lists a variable, with what it lists TIED to the program's text (the seventh form; the later family's looks); each row that meets fmt, with fmt's text TOLD by the authors' own Lean function (tested against real Go, not proved from fmt's source: count such statements apart). THE CARD IS WHAT COUNTS. Prove the row's statement (the work); the ties are given (YtfligilbnpcnaaaDoorTie.lean); close each card by the builder's one call (the guide's Derived/Test/ToyasCard.lean, 'card_holds'). Laid BY PROGRAM, IN A SANDBOX (cutbox-door.mjs). By AI agents, Wed Nov 11 2026. No macro, syntax, notation, axiom, sorry.
-/
import Derived.Test.YtfligilbnpcnaaaDoorRows
import GoSem.ClaimSeven
namespace Go.Proofs.YtfligilbnpcnaaaDoor
namespace Rows

/-- THE TIED CARD OF 'proofmarklaw03.ValueNeeds'. -/
def valueNeedsCard : Claim7 := { stood := { row := valueNeedsRow, standIns := [], harness := (true, "54a1c87501b6dfebad4af08337a22291082e64406768d963f97379fa44739330"), looks := false }, kinds := [], alts := [], laidByText := true, laidKinds := [.data, .data, .data], laidTests := true, laidLooks := .later }
def ValueNeedsCardSaid : Prop := Claim7.holds Tryd.pinned (.plain (OpenSpec.ofChange valueNeedsSpec)) valueNeedsCard

/-- THE TIED CARD OF 'proofmarklaw03.ValueNeeded'. -/
def valueNeededCard : Claim7 := { stood := { row := valueNeededRow, standIns := [], harness := (true, "54a1c87501b6dfebad4af08337a22291082e64406768d963f97379fa44739330"), looks := false }, kinds := [], alts := [], laidByText := true, laidKinds := [.data, .data, .data], laidTests := true, laidLooks := .later }
def ValueNeededCardSaid : Prop := Claim7.holds Tryd.pinned (.plain (OpenSpec.ofChange valueNeededSpec)) valueNeededCard

/-- THE TIED CARD OF 'proofmarklaw03.ValueBehind'. -/
def valueBehindCard : Claim7 := { stood := { row := valueBehindRow, standIns := [], harness := (true, "54a1c87501b6dfebad4af08337a22291082e64406768d963f97379fa44739330"), looks := false }, kinds := [], alts := [], laidByText := true, laidKinds := [.data, .data, .data], laidTests := true, laidLooks := .later }
def ValueBehindCardSaid : Prop := Claim7.holds Tryd.pinned (.plain (OpenSpec.ofChange valueBehindSpec)) valueBehindCard

/-- THE SECOND FORM's CARD OF 'proofmarklaw03.ValueNeeds'. -/
def valueNeedsUptoCard : Claim7 := { stood := { row := valueNeedsUptoRow, standIns := [], harness := (true, "54a1c87501b6dfebad4af08337a22291082e64406768d963f97379fa44739330"), looks := false }, kinds := [], alts := [], laidByText := true, laidKinds := [.data, .data, .data], laidTests := true, laidLooks := .later }
def ValueNeedsUptoCardSaid : Prop := Claim7.holds Tryd.pinned (.plain (OpenSpec.upto valueNeedsSpec)) valueNeedsUptoCard

/-- THE SECOND FORM's CARD OF 'proofmarklaw03.ValueNeeded'. -/
def valueNeededUptoCard : Claim7 := { stood := { row := valueNeededUptoRow, standIns := [], harness := (true, "54a1c87501b6dfebad4af08337a22291082e64406768d963f97379fa44739330"), looks := false }, kinds := [], alts := [], laidByText := true, laidKinds := [.data, .data, .data], laidTests := true, laidLooks := .later }
def ValueNeededUptoCardSaid : Prop := Claim7.holds Tryd.pinned (.plain (OpenSpec.upto valueNeededSpec)) valueNeededUptoCard

/-- THE SECOND FORM's CARD OF 'proofmarklaw03.ValueBehind'. -/
def valueBehindUptoCard : Claim7 := { stood := { row := valueBehindUptoRow, standIns := [], harness := (true, "54a1c87501b6dfebad4af08337a22291082e64406768d963f97379fa44739330"), looks := false }, kinds := [], alts := [], laidByText := true, laidKinds := [.data, .data, .data], laidTests := true, laidLooks := .later }
def ValueBehindUptoCardSaid : Prop := Claim7.holds Tryd.pinned (.plain (OpenSpec.upto valueBehindSpec)) valueBehindUptoCard
end Rows
end Go.Proofs.YtfligilbnpcnaaaDoor
