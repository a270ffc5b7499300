/- The law RvDecodes, at the arguments as they read. -/
import Derived.Test.YtkhdfbokkneeaaaDoorSeat
namespace Go.Proofs.YtkhdfbokkneeaaaDoor
open Go Go.Am Go.Rv
set_option maxRecDepth 100000
theorem fmt_2 : fmt10 2 = [50] := by decide +kernel
theorem fmt_16 : fmt10 (-16) = [45, 49, 54] := by decide +kernel
theorem paramsD : Tryd.f3.params.toList = [22] := by kernel_rfl
theorem agg22 : aggB Tryd.prog 22 = false := by kernel_rfl
theorem hC_rvDecodes : ∀ l : List V, VArgs Tryd.prog 10 Tryd.f3.params.toList l → C Tryd.prog G0 0 3 l ⟨0, []⟩ fun v _ => v = .bool true := by
  intro l hl
  rw [paramsD] at hl
  obtain ⟨c, r, rfl, hc, rfl⟩ := hl
  simp only [VT, Tryd.underlying22] at hc
  obtain ⟨i, rfl, hi⟩ := hc
  have h1 : IntKind.u32.min = 0 := by decide
  have h2 : IntKind.u32.max = 4294967295 := by decide
  simp only [Lit.wf, Bool.and_eq_true, decide_eq_true_eq, h1, h2] at hi
  rw [agg22]
  exact c_RvDecodes tab_ok F0 fmt_2 fmt_16 i hi.1 (by omega)
end Go.Proofs.YtkhdfbokkneeaaaDoor
