/- The law RupUnits, at the arguments as they read. -/
import Derived.Test.YtingdebioipemaaSeat
import Derived.Test.YtingdebioipemaaRl2
namespace Go.Proofs.Ytingdebioipemaa
open Go Go.Am
set_option maxRecDepth 100000
theorem paramsUnits : Try.f6.params.toList = [24, 22, 25] := by kernel_rfl
theorem hC_rupUnits : ∀ l : List V, VArgs Try.prog 10 Try.f6.params.toList l → C Try.prog G0 0 6 l ⟨0, []⟩ fun v _ => v = .bool true := by
  intro l hl
  rw [paramsUnits] at hl
  obtain ⟨a, _, rfl, ha, b, _, rfl, hb, c, _, rfl, hc, rfl⟩ := hl
  obtain ⟨v, F, rfl, hv, hF, hFc⟩ := fml_of (n := 6) ha
  obtain ⟨Gs, rfl, hG, hGc⟩ := rows_of (n := 7) hb
  obtain ⟨c, rfl, hcl, hcb⟩ := ints_of (n := 8) hc
  rw [aggFml, aggRows, aggInts]
  exact (c_RupUnits tab_ok v F Gs c hF (fun c h => (hFc c h).1) hG (fun c h => (hGc c h).1) hcl (fun c h => (hGc c h).2) hcb 0).conseq fun u σ h => h.2
end Go.Proofs.Ytingdebioipemaa
