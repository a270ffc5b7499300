/- The law LiftBegin, at the arguments as they read. -/
import Derived.Test.YtbdhjeojcpgblaaGreatDoorArgs
import Derived.Test.YtbdhjeojcpgblaaGreatDoorLawEnv
import Derived.Test.YtbdhjeojcpgblaaGreatDoorJ20
namespace Go.Proofs.YtbdhjeojcpgblaaGreatDoor
open Go Go.Am Go.Rv Go.Rg
set_option maxRecDepth 100000
theorem QuC:Tryz.f3.params.toList=[25,3,2]:=by kernel_rfl
theorem W0:Am.Pure Tryz.prog G0 Q9 [] fun v=>v=.bool true:=QS0 QBy F0 SO0 B0
theorem hC_liftBegin:∀ l:List V,QGh Tryz.prog 10 Tryz.f3.params.toList l→C Tryz.prog G0 0 3 l ⟨0,[]⟩ fun v _=>v=.bool true:=by
 intro l hl
 rw [QuC] at hl
 obtain ⟨a,_,rfl,ha,b,_,rfl,hb,c,_,rfl,hc,rfl⟩:=hl
 obtain ⟨m,rfl,hS,hw⟩:=img_of (n:=6) ha
 obtain ⟨p,rfl,_⟩:=int_of (n:=9) hb
 obtain ⟨q,rfl,_⟩:=QFo (n:=9) hc
 rw [aggImg,agg3,agg2]
 exact (Qvv QBy F0 W0 m hS hw p q 0).conseq fun u σ h=>h.2
end Go.Proofs.YtbdhjeojcpgblaaGreatDoor
