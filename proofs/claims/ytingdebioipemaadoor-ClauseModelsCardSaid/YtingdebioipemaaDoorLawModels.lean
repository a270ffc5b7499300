/- The law ClauseModels, at the arguments as they read. -/
import Derived.Test.YtingdebioipemaaDoorArgs
import Derived.Test.YtingdebioipemaaDoorLm3
namespace Go.Proofs.YtingdebioipemaaDoor
open Go Go.Am Go.Cl
set_option maxRecDepth 100000
theorem paramsModels : Tryd.f5.params.toList = [24, 28, 3, 3, 3] := by kernel_rfl
theorem hC_clauseModels : ∀ l : List V, VArgs Tryd.prog 10 Tryd.f5.params.toList l → C Tryd.prog G0 0 5 l ⟨0, []⟩ fun v _ => v = .bool true := by
  intro l hl
  rw [paramsModels] at hl
  obtain ⟨a, _, rfl, ha, b, _, rfl, hb, c, _, rfl, hc, d, _, rfl, hd, e, _, rfl, he, rfl⟩ := hl
  obtain ⟨v, F, rfl, hv, hF, hFc⟩ := fml_of (n := 6) ha
  obtain ⟨L, rfl, hLl, hLb⟩ := ints_of (n := 8) hb
  obtain ⟨i1, rfl, h1⟩ := int_of (n := 9) hc
  obtain ⟨i2, rfl, h2⟩ := int_of (n := 9) hd
  obtain ⟨V, rfl, h3⟩ := int_of (n := 9) he
  rw [aggFml, aggInts, aggInt]
  exact (c_ClauseModels tab_ok K0 It0 v F L i1 i2 V hF (fun c h => (hFc c h).1) hLl hLb h1 h2 h3 0).conseq fun u σ h => h.2
end Go.Proofs.YtingdebioipemaaDoor
