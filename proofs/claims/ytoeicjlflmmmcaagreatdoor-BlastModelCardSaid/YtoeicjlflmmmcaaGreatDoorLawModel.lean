/- The law BlastModel, at the arguments as they read. -/
import Derived.Test.YtoeicjlflmmmcaaGreatDoorArgs
namespace Go.Proofs.YtoeicjlflmmmcaaGreatDoor
open Go Go.Am
set_option maxRecDepth 100000
theorem QCO:Tryz.f3.params.toList=[22,26,3,3]:=by kernel_rfl
theorem hC_blastModel:∀ l:List V,QvG Tryz.prog 10 Tryz.f3.params.toList l→C Tryz.prog G0 0 3 l ⟨0,[]⟩ fun v _=>v=.bool true:=by
 intro l hl
 rw [QCO] at hl
 obtain ⟨a,_,rfl,ha,b,_,rfl,hb,c,_,rfl,hc,d,_,rfl,hd,rfl⟩:=hl
 obtain ⟨ds,rfl,hlen,hds⟩:=Qup (n:=7) ha
 obtain ⟨S,C,rfl,hS,hC⟩:=env_of (n:=6) hb
 obtain ⟨x,rfl⟩:=QBK (n:=9) hc
 obtain ⟨y,rfl⟩:=QBK (n:=9) hd
 rw [aggNds,aggEnv,aggInt]
 exact (Qmv tab_ok F0 SO0 ds false hds hlen S false C false hS hC x y 0).conseq fun u σ h=>h.2
end Go.Proofs.YtoeicjlflmmmcaaGreatDoor
