/- The law RelateKnown. -/
import Derived.Test.YtfgccihafnjalaaGreatDoorLawAll
import Derived.Test.YtfgccihafnjalaaGreatDoorJ20
namespace Go.Proofs.YtfgccihafnjalaaGreatDoor
open Go Go.Am Go.Re
set_option maxRecDepth 100000
theorem kwl:KwL Tryz.prog G0 where
 works:=QjL
 sets:=Qsz Qem QoU QjL
 fresh:=fun l tg h {_ _ _ _} hv hs=>QiR Qem kF QoU QjL l tg h hv (by omega) (QBT hs.1 hs.2)
 all:=fun picks tg h {_ _ _} hv hs=>Qnt Qem kF QoU QjL picks tg h hv (by omega) (QBT hs.1 hs.2)
theorem QtB:Tryz.f7.params.toList=[]:=by kernel_rfl
theorem hC_relateKnown:∀ l:List V,QwP Tryz.prog 10 Tryz.f7.params.toList l→C Tryz.prog G0 0 7 l ⟨0,[]⟩ fun v _=>v=.bool true:=by
 intro l hl
 rw [QtB] at hl
 obtain rfl:=hl
 exact (Qqy Qem kwl 0).conseq fun u σ h=>h.2
end Go.Proofs.YtfgccihafnjalaaGreatDoor
