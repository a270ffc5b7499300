/-
  DERIVED. GIVEN WITH THE SEED: THE PROGRAM's TIES (one call each: nine closed facts by the kernel) AND EACH ROW's TIE, after the 31st guide's Derived/Test/Toyas{Tie, Card}.lean. No idea stands in it: it is a product of the set-up. Laid BY PROGRAM, IN A SANDBOX (cutbox-door.mjs). By AI agents, Wed Nov 11 2026. No macro, syntax, notation, axiom, sorry.
-/
import Derived.Test.YtaidbdgndljaeaaGreatDoorRows
import Derived.LaidByTextLater
import Derived.SevenTiedAt
import Derived.LaidSub
import Derived.LaidOnce
namespace Go.Proofs.YtaidbdgndljaeaaGreatDoor
open Go
set_option maxRecDepth 100000
theorem seatTie1 : Tryz.prog.laidByTextLater [("proofmark/rv.rd", Rows.laid_proofmark_rv_rd), ("proofmark/rv.f3", Rows.laid_proofmark_rv_f3), ("proofmark/rv.rs1", Rows.laid_proofmark_rv_rs1), ("proofmark/rv.rs2", Rows.laid_proofmark_rv_rs2), ("proofmark/rv.f7", Rows.laid_proofmark_rv_f7)] [.data, .data, .data, .data, .data] true :=
  Program.laidByTextLater_by_one 34 8 3 (by kernel_rfl) (by kernel_rfl) (by kernel_rfl) (by kernel_rfl) (by kernel_rfl) (by kernel_rfl) (fun _ _ => by kernel_rfl)
theorem noOwnUnsafe : Tryz.pinned.checked.prog.headLifts.contains "ownunsafe" = false := by kernel_rfl
theorem tie : Tryz.prog.laidByTextLater [("proofmark/rv.rd", Rows.laid_proofmark_rv_rd), ("proofmark/rv.f3", Rows.laid_proofmark_rv_f3), ("proofmark/rv.rs1", Rows.laid_proofmark_rv_rs1), ("proofmark/rv.rs2", Rows.laid_proofmark_rv_rs2), ("proofmark/rv.f7", Rows.laid_proofmark_rv_f7)] [.data, .data, .data, .data, .data] true :=
  Program.laidByTextLater.sub seatTie1 ["proofmark/rv.rd", "proofmark/rv.f3", "proofmark/rv.rs1", "proofmark/rv.rs2", "proofmark/rv.f7"] (by kernel_rfl) (by kernel_rfl)
theorem regionsCuts_row_tie : Rows.regionsCutsRow.laidByTextAt .later Tryz.pinned [.data, .data, .data, .data, .data] true :=
  OpenClaim.laidByTextAt_later rfl rfl tie noOwnUnsafe
theorem regionsMoved_row_tie : Rows.regionsMovedRow.laidByTextAt .later Tryz.pinned [.data, .data, .data, .data, .data] true :=
  OpenClaim.laidByTextAt_later rfl rfl tie noOwnUnsafe
theorem regionsCalls_row_tie : Rows.regionsCallsRow.laidByTextAt .later Tryz.pinned [.data, .data, .data, .data, .data] true :=
  OpenClaim.laidByTextAt_later rfl rfl tie noOwnUnsafe
theorem regionsKnown_row_tie : Rows.regionsKnownRow.laidByTextAt .later Tryz.pinned [.data, .data, .data, .data, .data] true :=
  OpenClaim.laidByTextAt_later rfl rfl tie noOwnUnsafe
theorem regionsCutsUpto_row_tie : Rows.regionsCutsUptoRow.laidByTextAt .later Tryz.pinned [.data, .data, .data, .data, .data] true :=
  OpenClaim.laidByTextAt_later rfl rfl tie noOwnUnsafe
theorem regionsMovedUpto_row_tie : Rows.regionsMovedUptoRow.laidByTextAt .later Tryz.pinned [.data, .data, .data, .data, .data] true :=
  OpenClaim.laidByTextAt_later rfl rfl tie noOwnUnsafe
theorem regionsCallsUpto_row_tie : Rows.regionsCallsUptoRow.laidByTextAt .later Tryz.pinned [.data, .data, .data, .data, .data] true :=
  OpenClaim.laidByTextAt_later rfl rfl tie noOwnUnsafe
theorem regionsKnownUpto_row_tie : Rows.regionsKnownUptoRow.laidByTextAt .later Tryz.pinned [.data, .data, .data, .data, .data] true :=
  OpenClaim.laidByTextAt_later rfl rfl tie noOwnUnsafe
end Go.Proofs.YtaidbdgndljaeaaGreatDoor
