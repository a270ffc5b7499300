/- The law ValueBehind, at the arguments as they read. -/
import Derived.Test.YtfligilbnpcnaaaDoorLawEnv
import Derived.Test.YtfligilbnpcnaaaDoorX7
import Derived.Test.YtfligilbnpcnaaaDoorTW
namespace Go.Proofs.YtfligilbnpcnaaaDoor
open Go Go.Am
set_option maxRecDepth 100000
theorem params5 : Tryd.f5.params.toList = [22, 40, 30] := by kernel_rfl
theorem hC_valueBehind : ∀ l : List V, VArgs Tryd.prog 10 Tryd.f5.params.toList l → C Tryd.prog G0 0 5 l ⟨0, []⟩ fun v _ => v = .bool true := by
  intro l hl
  rw [params5] at hl
  obtain ⟨c, r, rfl, hc, c2, r2, rfl, hc2, c3, r3, rfl, hc3, rfl⟩ := hl
  obtain ⟨ds, rfl, hd⟩ := nodes_of (n := 7) hc
  obtain ⟨S, C, rfl, hS, hC⟩ := env_of (n := 6) hc2
  obtain ⟨O, rfl, hO⟩ := nums_of (n := 8) hc3
  rw [agg22, agg40, agg30]
  exact c_ValueBehind tab_ok F0 SO0 SI0 (c_works tab_ok) ds false (fun d h => ⟨(hd d h).1, (hd d h).2.1⟩) S false C false O false hS hC hO
end Go.Proofs.YtfligilbnpcnaaaDoor
