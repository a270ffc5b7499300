/- The law RelateSets, at the arguments as they read. -/
import Derived.Test.YtfgccihafnjalaaGreatDoorArgs
import Derived.Test.YtfgccihafnjalaaGreatDoorJ13
namespace Go.Proofs.YtfgccihafnjalaaGreatDoor
open Go Go.Am Go.Re
set_option maxRecDepth 100000
theorem Qsg : Tryz.f3.params.toList = [22, 22] := by kernel_rfl
theorem hC_relateSets : ∀ l : List V, Qxu Tryz.prog 10 Tryz.f3.params.toList l → C Tryz.prog G0 0 3 l ⟨0, []⟩ fun v _ => v = .bool true := by
 intro l hl
 rw [Qsg] at hl
 obtain ⟨a, _, rfl, ha, b, _, rfl, hb, rfl⟩ := hl
 obtain ⟨x, rfl, _⟩ := Qrc (n := 6) ha
 obtain ⟨y, rfl, _⟩ := Qrc (n := 6) hb
 rw [aggPrs]
 exact (Qpa QqV QzJ QDD x y false false 0).conseq fun u σ h => h.2
end Go.Proofs.YtfgccihafnjalaaGreatDoor
