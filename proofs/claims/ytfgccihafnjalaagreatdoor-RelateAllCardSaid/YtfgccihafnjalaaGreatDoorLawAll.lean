/- The law RelateAll, at the arguments as they read. -/
import Derived.Test.YtfgccihafnjalaaGreatDoorLawFresh
import Derived.Test.YtfgccihafnjalaaGreatDoorJ19
namespace Go.Proofs.YtfgccihafnjalaaGreatDoor
open Go Go.Am Go.Re
set_option maxRecDepth 100000
theorem QxY:Tryz.f6.params.toList=[57,5,5,3]:=by kernel_rfl
theorem QI2:Tryz.prog.cellsOf 5=1:=by kernel_rfl
theorem QFs:Qp4 Tryz.prog 57=false∧Qp4 Tryz.prog 5=false:=by
 refine ⟨?_,?_⟩ <;> kernel_rfl
theorem u8s_of {n:Nat} {l:List V} (h:VT Tryz.prog (n+2) 57 l):∃ c:List Int,l=[.lst 1 (u8s c) false]∧∀ b∈c,0≤b∧b≤255:=by
 rw [VT] at h
 simp only [Tryz.underlying57] at h
 obtain ⟨q,rfl,hl,hq⟩:=h
 obtain ⟨ds,rfl,hd⟩:=Qs9 (f:=fun b:Int=>[V.int .u8 b]) (p:=fun b=>0≤b∧b≤255) fun x hx=>Qrf (n:=n) (hq x hx)
 exact ⟨ds,by simp [QI2,QFs.2,toV,u8s,Function.comp_def],hd⟩
theorem hC_relateAll:∀ l:List V,Qzg Tryz.prog 10 Tryz.f6.params.toList l→C Tryz.prog G0 0 6 l ⟨0,[]⟩ fun v _=>v=.bool true:=by
 intro l hl
 rw [QxY] at hl
 obtain ⟨a,_,rfl,ha,b,_,rfl,hb,c,_,rfl,hc,d,_,rfl,hd,rfl⟩:=hl
 obtain ⟨x,rfl,hx⟩:=u8s_of (n:=8) ha
 obtain ⟨vars,rfl,hv⟩:=Qrf (n:=9) hb
 obtain ⟨slots,rfl,hs⟩:=Qrf (n:=9) hc
 obtain ⟨params,rfl,_⟩:=Qyq (n:=9) hd
 rw [QFs.1,Qm8.1,Qm8.2.1]
 exact (QtE Qjy kF QxG QyT x false hx hv (by omega) (c_fnA hs.1 hs.2) 0).conseq fun u σ h=>h.2
end Go.Proofs.YtfgccihafnjalaaGreatDoor
