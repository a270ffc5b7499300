/- The law RegionsCalls, at the arguments as they read. -/
import Derived.Test.YtaidbdgndljaeaaGreatDoorArgs
import Derived.Test.YtaidbdgndljaeaaGreatDoorJ10
namespace Go.Proofs.YtaidbdgndljaeaaGreatDoor
open Go Go.Am Go.Rv Go.Rg
set_option maxRecDepth 100000
theorem paramsCalls : Tryz.f5.params.toList = [25] := by kernel_rfl
theorem hC_regionsCalls : ∀ l : List V, VArgs Tryz.prog 10 Tryz.f5.params.toList l → C Tryz.prog G0 0 5 l ⟨0, []⟩ fun v _ => v = .bool true := by
  intro l hl
  rw [paramsCalls] at hl
  obtain ⟨a, _, rfl, ha, rfl⟩ := hl
  obtain ⟨m, rfl, hS, hw⟩ := img_of (n := 6) ha
  rw [aggImg]
  exact (c_RegionsCalls tab_ok m hS hw 0).conseq fun u σ h => h.2
end Go.Proofs.YtaidbdgndljaeaaGreatDoor
