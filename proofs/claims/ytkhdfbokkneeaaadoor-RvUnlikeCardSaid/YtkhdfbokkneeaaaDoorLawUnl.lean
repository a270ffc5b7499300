/- The law RvUnlike, at the arguments as they read. -/
import Derived.Test.YtkhdfbokkneeaaaDoorLawEnc
import Derived.Test.YtkhdfbokkneeaaaDoorRw16
namespace Go.Proofs.YtkhdfbokkneeaaaDoor
open Go Go.Am Go.Rv
set_option maxRecDepth 100000
theorem paramsU : Tryd.f5.params.toList = [24, 24, 5] := by kernel_rfl
theorem aggU8 : aggB Tryd.prog 5 = false := by kernel_rfl
theorem hC_rvUnlike : ∀ l : List V, VArgs Tryd.prog 10 Tryd.f5.params.toList l → C Tryd.prog G0 0 5 l ⟨0, []⟩ fun v _ => v = .bool true := by
  intro l hl
  rw [paramsU] at hl
  obtain ⟨c, _, rfl, hc, d, _, rfl, hd, e, _, rfl, he, rfl⟩ := hl
  obtain ⟨x, rfl, hx⟩ := inst_of (n := 8) hc
  obtain ⟨y, rfl, hy⟩ := inst_of (n := 8) hd
  simp only [VT, Tryd.underlying5] at he
  obtain ⟨b, rfl, hb⟩ := he
  rw [aggInst, aggU8]
  exact c_RvUnlike tab_ok F0 fmt_2 fmt_16 x y hx hy b (wf8 hb).1
end Go.Proofs.YtkhdfbokkneeaaaDoor
