/- The law RegionsKnown. -/
import Derived.Test.YtaidbdgndljaeaaGreatDoorArgs
import Derived.Test.YtaidbdgndljaeaaGreatDoorJ16
namespace Go.Proofs.YtaidbdgndljaeaaGreatDoor
open Go Go.Am Go.Rv Go.Rg
set_option maxRecDepth 100000
theorem QpU:Tryz.f6.params.toList=[]:=by kernel_rfl
theorem hC_regionsKnown:∀ l:List V,QyN Tryz.prog 10 Tryz.f6.params.toList l→C Tryz.prog G0 0 6 l ⟨0,[]⟩ fun v _=>v=.bool true:=by
 intro l hl
 rw [QpU] at hl
 obtain rfl:=hl
 exact (Ql9 tab_ok 0).conseq fun u σ h=>h.2
end Go.Proofs.YtaidbdgndljaeaaGreatDoor
