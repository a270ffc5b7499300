/- The law NormBin, at the arguments as they read. -/
import Derived.Test.YtpdeoalocejodaaGreatDoorLawN
import Derived.Test.YtpdeoalocejodaaGreatDoorJ11
namespace Go.Proofs.YtpdeoalocejodaaGreatDoor
open Go Go.Am
set_option maxRecDepth 100000
theorem params6 : Tryz.f6.params.toList = [22, 48, 23, 3, 3] := by kernel_rfl
theorem hC_normBin : ∀ l : List V, VArgs Tryz.prog 10 Tryz.f6.params.toList l → C Tryz.prog G0 0 6 l ⟨0, []⟩ fun v _ => v = .bool true := by
  intro l hl
  rw [params6] at hl
  obtain ⟨c, r, rfl, hc, c2, r2, rfl, hc2, c3, r3, rfl, hc3, c4, r4, rfl, hc4, c5, r5, rfl, hc5, rfl⟩ := hl
  obtain ⟨ds, rfl, hd⟩ := nodes_of (n := 7) hc
  obtain ⟨S, C, rfl, hS, hC⟩ := env_of (n := 6) hc2
  obtain ⟨op, rfl, ho⟩ := op_of (n := 9) hc3
  obtain ⟨a, rfl, _⟩ := int_of (n := 9) hc4
  obtain ⟨b, rfl, _⟩ := int_of (n := 9) hc5
  rw [agg22, agg48, agg23, agg3]
  exact c_NormBin tab_ok F0 SO0 B0 W0 ds false (fun d h => ⟨(hd d h).1, (hd d h).2.1⟩) S false C false op a b ho hS hC
end Go.Proofs.YtpdeoalocejodaaGreatDoor
