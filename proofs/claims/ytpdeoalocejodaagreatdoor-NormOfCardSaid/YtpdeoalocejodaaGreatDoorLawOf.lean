/- The law NormOf, at the arguments as they read. -/
import Derived.Test.YtpdeoalocejodaaGreatDoorLawN
import Derived.Test.YtpdeoalocejodaaGreatDoorW18
namespace Go.Proofs.YtpdeoalocejodaaGreatDoor
open Go Go.Am
set_option maxRecDepth 100000
theorem params7 : Tryz.f7.params.toList = [22, 48] := by kernel_rfl
theorem hC_normOf : ∀ l : List V, VArgs Tryz.prog 10 Tryz.f7.params.toList l → C Tryz.prog G0 0 7 l ⟨0, []⟩ fun v _ => v = .bool true := by
  intro l hl
  rw [params7] at hl
  obtain ⟨c, r, rfl, hc, c2, r2, rfl, hc2, rfl⟩ := hl
  obtain ⟨ds, rfl, hd⟩ := nodes_of (n := 7) hc
  obtain ⟨S, C, rfl, hS, hC⟩ := env_of (n := 6) hc2
  rw [agg22, agg48]
  exact c_NormOf tab_ok F0 SO0 B0 W0 ds false (fun d h => ⟨(hd d h).1, (hd d h).2.1⟩) S false C false hS hC
end Go.Proofs.YtpdeoalocejodaaGreatDoor
