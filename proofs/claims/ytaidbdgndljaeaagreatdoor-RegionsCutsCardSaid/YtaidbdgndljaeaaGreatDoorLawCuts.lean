/- The law RegionsCuts, at the arguments as they read. -/
import Derived.Test.YtaidbdgndljaeaaGreatDoorArgs
namespace Go.Proofs.YtaidbdgndljaeaaGreatDoor
open Go Go.Am Go.Rv Go.Rg
set_option maxRecDepth 100000
theorem paramsCuts : Tryz.f3.params.toList = [25, 26] := by kernel_rfl
theorem hC_regionsCuts : ∀ l : List V, VArgs Tryz.prog 10 Tryz.f3.params.toList l → C Tryz.prog G0 0 3 l ⟨0, []⟩ fun v _ => v = .bool true := by
  intro l hl
  rw [paramsCuts] at hl
  obtain ⟨a, _, rfl, ha, b, _, rfl, hb, rfl⟩ := hl
  obtain ⟨m, rfl, hS, hw⟩ := img_of (n := 6) ha
  obtain ⟨c, rfl, hc⟩ := u8s_of (n := 8) hb
  rw [aggImg, aggU8s]
  exact (c_RegionsCuts tab_ok m c hS hw hc 0).conseq fun u σ h => h.2
end Go.Proofs.YtaidbdgndljaeaaGreatDoor
