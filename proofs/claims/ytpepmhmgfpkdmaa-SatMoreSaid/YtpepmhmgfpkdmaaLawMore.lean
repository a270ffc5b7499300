/- The law SatMore, at the arguments as they read. -/
import Derived.Test.YtpepmhmgfpkdmaaSeat
import Derived.Test.YtpepmhmgfpkdmaaSm3
namespace Go.Proofs.Ytpepmhmgfpkdmaa
open Go Go.Am Go.Cl
set_option maxRecDepth 100000
theorem aggU8 : aggB Try.prog 5 = false := by kernel_rfl
theorem u8_of {n : Nat} {l : List V} (h : VT Try.prog (n + 1) 5 l) : ∃ x : Int, l = [.int .u8 x] := by
  rw [VT] at h
  simp only [show Try.prog.underlying 5 = some (.int .u8) from Try.underlying5] at h
  obtain ⟨x, rfl, _⟩ := h
  exact ⟨x, rfl⟩
theorem paramsMore : Try.f4.params.toList = [24, 37, 5] := by kernel_rfl
theorem hC_satMore : ∀ l : List V, VArgs Try.prog 10 Try.f4.params.toList l → C Try.prog G0 0 4 l ⟨0, []⟩ fun v _ => v = .bool true := by
  intro l hl
  rw [paramsMore] at hl
  obtain ⟨a, _, rfl, ha, b, _, rfl, hb, c, _, rfl, hc, rfl⟩ := hl
  obtain ⟨v, F, rfl, hv, hF, hFc⟩ := fml_of (n := 6) ha
  obtain ⟨cl, rfl, hcl, _⟩ := ints_of (n := 8) hb
  obtain ⟨T, rfl⟩ := u8_of (n := 9) hc
  rw [aggFml, aggInts, aggU8]
  exact (c_SatMore tab_ok v F cl T hF (fun c h => (hFc c h).1) hcl 0).conseq fun u σ h => h.2
end Go.Proofs.Ytpepmhmgfpkdmaa
