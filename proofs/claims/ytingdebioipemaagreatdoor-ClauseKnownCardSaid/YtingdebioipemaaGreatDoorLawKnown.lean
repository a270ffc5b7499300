/- The law ClauseKnown, at no arguments. -/
import Derived.Test.YtingdebioipemaaGreatDoorSeat
import Derived.Test.YtingdebioipemaaGreatDoorJ14
namespace Go.Proofs.YtingdebioipemaaGreatDoor
open Go Go.Am
set_option maxRecDepth 100000
theorem Qmq:Tryz.f4.params.toList=[]:=by kernel_rfl
theorem hC_clauseKnown:∀ l:List V,QuT Tryz.prog 10 Tryz.f4.params.toList l→C Tryz.prog G0 0 4 l ⟨0,[]⟩ fun v _=>v=.bool true:=by
 intro l hl
 rw [Qmq] at hl
 have hl0:l=[]:=hl
 subst hl0
 exact (Qko tab_ok K0 0).conseq fun u σ h=>h.2
end Go.Proofs.YtingdebioipemaaGreatDoor
