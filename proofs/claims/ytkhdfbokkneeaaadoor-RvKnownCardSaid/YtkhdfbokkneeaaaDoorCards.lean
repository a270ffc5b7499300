/-
  DERIVED. GIVEN WITH THE SEED: THE CARDS: each row of YtkhdfbokkneeaaaDoorRows.lean that lists a variable, with what it lists TIED to the program's text (the seventh form; the later family's looks); each row that meets fmt, with fmt's text TOLD by the authors' own Lean function (tested against real Go, not proved from fmt's source: count such statements apart). THE CARD IS WHAT COUNTS. Prove the row's statement (the work); the ties are given (YtkhdfbokkneeaaaDoorTie.lean); close each card by the builder's one call (the guide's Derived/Test/ToyasCard.lean, 'card_holds'). Laid BY PROGRAM, IN A SANDBOX (cutbox-door.mjs). By AI agents, Wed Nov 11 2026. No macro, syntax, notation, axiom, sorry.
-/
import Derived.Test.YtkhdfbokkneeaaaDoorRows
import GoSem.ClaimSeven
namespace Go.Proofs.YtkhdfbokkneeaaaDoor
namespace Rows

/-- THE TIED CARD OF 'proofmarklaw10.RvDecodes'. -/
def rvDecodesCard : Claim7 := { stood := { row := rvDecodesRow, standIns := [], harness := (true, "b124ef04438f93d639ff764ce3e93c96712b3fa7f3f563a2da7155bfe15a9a2d"), looks := false }, kinds := [], alts := [], laidByText := true, laidKinds := [.data, .data, .data, .data, .data, .data, .data, .data], laidTests := true, laidLooks := .later }
def RvDecodesCardSaid : Prop := Claim7.holds Tryd.pinned (.plain (OpenSpec.ofChange rvDecodesSpec)) rvDecodesCard

/-- THE TIED CARD OF 'proofmarklaw10.RvEncodes'. -/
def rvEncodesCard : Claim7 := { stood := { row := rvEncodesRow, standIns := [], harness := (true, "b124ef04438f93d639ff764ce3e93c96712b3fa7f3f563a2da7155bfe15a9a2d"), looks := false }, kinds := [], alts := [], laidByText := true, laidKinds := [.data, .data, .data, .data, .data, .data, .data, .data], laidTests := true, laidLooks := .later }
def RvEncodesCardSaid : Prop := Claim7.holds Tryd.pinned (.plain (OpenSpec.ofChange rvEncodesSpec)) rvEncodesCard

/-- THE TIED CARD OF 'proofmarklaw10.RvUnlike'. -/
def rvUnlikeCard : Claim7 := { stood := { row := rvUnlikeRow, standIns := [], harness := (true, "b124ef04438f93d639ff764ce3e93c96712b3fa7f3f563a2da7155bfe15a9a2d"), looks := false }, kinds := [], alts := [], laidByText := true, laidKinds := [.data, .data, .data, .data, .data, .data, .data, .data], laidTests := true, laidLooks := .later }
def RvUnlikeCardSaid : Prop := Claim7.holds Tryd.pinned (.plain (OpenSpec.ofChange rvUnlikeSpec)) rvUnlikeCard

/-- THE TIED CARD OF 'proofmarklaw10.RvKnown'. -/
def rvKnownCard : Claim7 := { stood := { row := rvKnownRow, standIns := [], harness := (true, "b124ef04438f93d639ff764ce3e93c96712b3fa7f3f563a2da7155bfe15a9a2d"), looks := false }, kinds := [], alts := [], laidByText := true, laidKinds := [.data, .data, .data, .data, .data, .data, .data, .data], laidTests := true, laidLooks := .later }
def RvKnownCardSaid : Prop := Claim7.holds Tryd.pinned (.plain (OpenSpec.ofChange rvKnownSpec)) rvKnownCard

/-- THE SECOND FORM's CARD OF 'proofmarklaw10.RvDecodes'. -/
def rvDecodesUptoCard : Claim7 := { stood := { row := rvDecodesUptoRow, standIns := [], harness := (true, "b124ef04438f93d639ff764ce3e93c96712b3fa7f3f563a2da7155bfe15a9a2d"), looks := false }, kinds := [], alts := [], laidByText := true, laidKinds := [.data, .data, .data, .data, .data, .data, .data, .data], laidTests := true, laidLooks := .later }
def RvDecodesUptoCardSaid : Prop := Claim7.holds Tryd.pinned (.plain (OpenSpec.upto rvDecodesSpec)) rvDecodesUptoCard

/-- THE SECOND FORM's CARD OF 'proofmarklaw10.RvEncodes'. -/
def rvEncodesUptoCard : Claim7 := { stood := { row := rvEncodesUptoRow, standIns := [], harness := (true, "b124ef04438f93d639ff764ce3e93c96712b3fa7f3f563a2da7155bfe15a9a2d"), looks := false }, kinds := [], alts := [], laidByText := true, laidKinds := [.data, .data, .data, .data, .data, .data, .data, .data], laidTests := true, laidLooks := .later }
def RvEncodesUptoCardSaid : Prop := Claim7.holds Tryd.pinned (.plain (OpenSpec.upto rvEncodesSpec)) rvEncodesUptoCard

/-- THE SECOND FORM's CARD OF 'proofmarklaw10.RvUnlike'. -/
def rvUnlikeUptoCard : Claim7 := { stood := { row := rvUnlikeUptoRow, standIns := [], harness := (true, "b124ef04438f93d639ff764ce3e93c96712b3fa7f3f563a2da7155bfe15a9a2d"), looks := false }, kinds := [], alts := [], laidByText := true, laidKinds := [.data, .data, .data, .data, .data, .data, .data, .data], laidTests := true, laidLooks := .later }
def RvUnlikeUptoCardSaid : Prop := Claim7.holds Tryd.pinned (.plain (OpenSpec.upto rvUnlikeSpec)) rvUnlikeUptoCard

/-- THE SECOND FORM's CARD OF 'proofmarklaw10.RvKnown'. -/
def rvKnownUptoCard : Claim7 := { stood := { row := rvKnownUptoRow, standIns := [], harness := (true, "b124ef04438f93d639ff764ce3e93c96712b3fa7f3f563a2da7155bfe15a9a2d"), looks := false }, kinds := [], alts := [], laidByText := true, laidKinds := [.data, .data, .data, .data, .data, .data, .data, .data], laidTests := true, laidLooks := .later }
def RvKnownUptoCardSaid : Prop := Claim7.holds Tryd.pinned (.plain (OpenSpec.upto rvKnownSpec)) rvKnownUptoCard
end Rows
end Go.Proofs.YtkhdfbokkneeaaaDoor
