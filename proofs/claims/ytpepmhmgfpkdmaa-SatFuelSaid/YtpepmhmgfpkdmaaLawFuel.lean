/- The law SatFuel, at the arguments as they read. -/
import Derived.Test.YtpepmhmgfpkdmaaSeat
import Derived.Test.YtpepmhmgfpkdmaaSq5
namespace Go.Proofs.Ytpepmhmgfpkdmaa
open Go Go.Am Go.Cl
set_option maxRecDepth 100000
theorem paramsFuel : Try.f3.params.toList = [24, 3, 3] := by kernel_rfl
theorem hC_satFuel : ∀ l : List V, VArgs Try.prog 10 Try.f3.params.toList l → C Try.prog G0 0 3 l ⟨0, []⟩ fun v _ => v = .bool true := by
  intro l hl
  rw [paramsFuel] at hl
  obtain ⟨a, _, rfl, ha, b, _, rfl, hb, c, _, rfl, hc, rfl⟩ := hl
  obtain ⟨v, F, rfl, hv, hF, hFc⟩ := fml_of (n := 6) ha
  obtain ⟨fu, rfl, hfu⟩ := int_of (n := 9) hb
  obtain ⟨mo, rfl, hmo⟩ := int_of (n := 9) hc
  rw [aggFml, aggInt]
  exact (c_SatFuel tab_ok v F fu mo hF (fun c h => (hFc c h).1) 0).conseq fun u σ h => h.2
end Go.Proofs.Ytpepmhmgfpkdmaa
