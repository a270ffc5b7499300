/- The law RupTrue, at the arguments as they read. -/
import Derived.Test.YtingdebioipemaaSeat
import Derived.Test.YtingdebioipemaaRl4
namespace Go.Proofs.Ytingdebioipemaa
open Go Go.Am
set_option maxRecDepth 100000
theorem paramsTrue : Try.f4.params.toList = [24, 22] := by kernel_rfl
theorem hC_rupTrue : ∀ l : List V, VArgs Try.prog 10 Try.f4.params.toList l → C Try.prog G0 0 4 l ⟨0, []⟩ fun v _ => v = .bool true := by
  intro l hl
  rw [paramsTrue] at hl
  obtain ⟨a, _, rfl, ha, b, _, rfl, hb, rfl⟩ := hl
  obtain ⟨v, F, rfl, hv, hF, hFc⟩ := fml_of (n := 6) ha
  obtain ⟨Gs, rfl, hG, hGc⟩ := rows_of (n := 7) hb
  rw [aggFml, aggRows]
  exact (c_RupTrue tab_ok v F Gs hF (fun c h => (hFc c h).1) hG (fun c h => (hGc c h).1) (fun c h => (hGc c h).2) 0).conseq fun u σ h => h.2
end Go.Proofs.Ytingdebioipemaa
