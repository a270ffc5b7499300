/- The law ClauseUnits, at the arguments as they read. -/
import Derived.Test.YtingdebioipemaaDoorArgs
namespace Go.Proofs.YtingdebioipemaaDoor
open Go Go.Am
set_option maxRecDepth 100000
theorem paramsUnits : Tryd.f4.params.toList = [24, 28] := by kernel_rfl
theorem hC_clauseUnits : ∀ l : List V, VArgs Tryd.prog 10 Tryd.f4.params.toList l → C Tryd.prog G0 0 4 l ⟨0, []⟩ fun v _ => v = .bool true := by
  intro l hl
  rw [paramsUnits] at hl
  obtain ⟨a, _, rfl, ha, c, _, rfl, hc, rfl⟩ := hl
  obtain ⟨v, F, rfl, hv, hF, hFc⟩ := fml_of (n := 6) ha
  obtain ⟨c, rfl, hcl, hcb⟩ := ints_of (n := 8) hc
  rw [aggFml, aggInts]
  exact (c_ClauseUnits tab_ok K0 It0 v F c hF (fun c h => (hFc c h).1) hcl hcb 0).conseq fun u σ h => h.2
end Go.Proofs.YtingdebioipemaaDoor
