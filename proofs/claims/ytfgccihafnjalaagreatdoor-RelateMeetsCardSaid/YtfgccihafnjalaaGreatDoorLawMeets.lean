/- The law RelateMeets, at the arguments as they read. -/
import Derived.Test.YtfgccihafnjalaaGreatDoorArgs
import Derived.Test.YtfgccihafnjalaaGreatDoorJ13
namespace Go.Proofs.YtfgccihafnjalaaGreatDoor
open Go Go.Am Go.Re
set_option maxRecDepth 100000
theorem QpI:Tryz.f4.params.toList=[22,22,22]:=by kernel_rfl
theorem hC_relateMeets:∀ l:List V,QwV Tryz.prog 10 Tryz.f4.params.toList l→C Tryz.prog G0 0 4 l ⟨0,[]⟩ fun v _=>v=.bool true:=by
 intro l hl
 rw [QpI] at hl
 obtain ⟨a,_,rfl,ha,b,_,rfl,hb,c,_,rfl,hc,rfl⟩:=hl
 obtain ⟨x,rfl,_⟩:=QmW (n:=6) ha
 obtain ⟨y,rfl,_⟩:=QmW (n:=6) hb
 obtain ⟨z,rfl,_⟩:=QmW (n:=6) hc
 rw [aggPrs]
 exact (Qnu QqD Qy8 QCP x y z false false false 0).conseq fun u σ h=>h.2
end Go.Proofs.YtfgccihafnjalaaGreatDoor
