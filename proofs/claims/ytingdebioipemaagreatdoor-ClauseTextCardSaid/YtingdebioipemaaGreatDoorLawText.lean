/- The law ClauseText, at the arguments as they read. -/
import Derived.Test.YtingdebioipemaaGreatDoorArgs
namespace Go.Proofs.YtingdebioipemaaGreatDoor
open Go Go.Am
set_option maxRecDepth 100000
theorem QjM:Tryz.f3.params.toList=[24,25]:=by kernel_rfl
theorem hC_clauseText:∀ l:List V,Qo9 Tryz.prog 10 Tryz.f3.params.toList l→C Tryz.prog G0 0 3 l ⟨0,[]⟩ fun v _=>v=.bool true:=by
 intro l hl
 rw [QjM] at hl
 obtain ⟨a,_,rfl,ha,c,_,rfl,hc,rfl⟩:=hl
 obtain ⟨v,F,rfl,hv,hF,hFc⟩:=fml_of (n:=6) ha
 obtain ⟨b,rfl,hb⟩:=u8s_of (n:=8) hc
 rw [aggFml,aggU8s]
 exact (Qhz tab_ok K0 v F b false hF (fun c h=>(hFc c h).1) hb 0).conseq fun u σ h=>h.2
end Go.Proofs.YtingdebioipemaaGreatDoor
