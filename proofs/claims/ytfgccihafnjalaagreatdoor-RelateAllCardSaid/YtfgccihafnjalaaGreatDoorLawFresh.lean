/- The law RelateFresh, at the arguments as they read. -/
import Derived.Test.YtfgccihafnjalaaGreatDoorArgs
import Derived.Test.YtfgccihafnjalaaGreatDoorJ13
import Derived.Test.YtfgccihafnjalaaGreatDoorJ16
namespace Go.Proofs.YtfgccihafnjalaaGreatDoor
open Go Go.Am Go.Re
set_option maxRecDepth 100000
theorem Qs0:Tryz.f5.params.toList=[22,5,5,3,2]:=by kernel_rfl
theorem Qrf {n:Nat} {l:List V} (h:VT Tryz.prog (n+1) 5 l):∃ v:Int,l=[.int .u8 v]∧(0≤v∧v≤255):=by
 simp only [VT,Tryz.underlying5] at h
 obtain ⟨v,rfl,hv⟩:=h
 exact ⟨v,rfl,wf_u8 hv⟩
theorem Qyq {n:Nat} {l:List V} (h:VT Tryz.prog (n+1) 3 l):∃ v:Int,l=[.int .i64 v]∧i64 v:=by
 simp only [VT,Tryz.underlying3] at h
 obtain ⟨v,rfl,hv⟩:=h
 exact ⟨v,rfl,by unfold i64; exact wf_i64 hv⟩
theorem QIt {n:Nat} {l:List V} (h:VT Tryz.prog (n+1) 2 l):∃ v:Int,l=[.int .i64 v]∧i64 v:=by
 simp only [VT,Tryz.underlying2] at h
 obtain ⟨v,rfl,hv⟩:=h
 exact ⟨v,rfl,by unfold i64; exact wf_i64 hv⟩
theorem Qm8:Qp4 Tryz.prog 5=false∧Qp4 Tryz.prog 3=false∧Qp4 Tryz.prog 2=false:=by
 refine ⟨?_,?_,?_⟩ <;> kernel_rfl
theorem hC_relateFresh:∀ l:List V,Qzg Tryz.prog 10 Tryz.f5.params.toList l→C Tryz.prog G0 0 5 l ⟨0,[]⟩ fun v _=>v=.bool true:=by
 intro l hl
 rw [Qs0] at hl
 obtain ⟨a,_,rfl,ha,b,_,rfl,hb,c,_,rfl,hc,d,_,rfl,hd,e,_,rfl,he,rfl⟩:=hl
 obtain ⟨x,rfl,hx⟩:=QAk (n:=6) ha
 obtain ⟨vars,rfl,hv⟩:=Qrf (n:=9) hb
 obtain ⟨slots,rfl,hs⟩:=Qrf (n:=9) hc
 obtain ⟨params,rfl,_⟩:=Qyq (n:=9) hd
 obtain ⟨next,rfl,_⟩:=QIt (n:=9) he
 rw [aggPrs,Qm8.1,Qm8.2.1,Qm8.2.2]
 exact (QpX Qjy kF QxG QyT x false (fun p hp=>by have:=(hx p hp).2.2; unfold i64; exact this) hv (by omega) (c_fnA hs.1 hs.2) 0).conseq fun u σ h=>h.2
end Go.Proofs.YtfgccihafnjalaaGreatDoor
