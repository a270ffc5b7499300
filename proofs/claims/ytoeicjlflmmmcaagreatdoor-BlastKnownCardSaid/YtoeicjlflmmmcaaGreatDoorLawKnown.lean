/- The law BlastKnown, at no arguments. -/
import Derived.Test.YtoeicjlflmmmcaaGreatDoorSeat
import Derived.Test.YtoeicjlflmmmcaaGreatDoorJ19
namespace Go.Proofs.YtoeicjlflmmmcaaGreatDoor
open Go Go.Am
set_option maxRecDepth 100000
theorem QKR:Tryz.f4.params.toList=[]:=by kernel_rfl
theorem hC_blastKnown:∀ l:List V,QBa Tryz.prog 10 Tryz.f4.params.toList l→C Tryz.prog G0 0 4 l ⟨0,[]⟩ fun v _=>v=.bool true:=by
 intro l hl
 rw [QKR] at hl
 cases hl
 exact (Qqm tab_ok F0 SO0 0).conseq fun u σ h=>h.2
end Go.Proofs.YtoeicjlflmmmcaaGreatDoor
