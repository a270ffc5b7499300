/- The law NormChains, at the arguments as they read. -/
import Derived.Test.YtpdeoalocejodaaGreatDoorLawN
import Derived.Test.YtpdeoalocejodaaGreatDoorJ14
namespace Go.Proofs.YtpdeoalocejodaaGreatDoor
open Go Go.Am
set_option maxRecDepth 100000
theorem params5 : Tryz.f5.params.toList = [22, 3, 5, 35, 3] := by kernel_rfl
theorem hC_normChains : ∀ l : List V, VArgs Tryz.prog 10 Tryz.f5.params.toList l → C Tryz.prog G0 0 5 l ⟨0, []⟩ fun v _ => v = .bool true := by
  intro l hl
  rw [params5] at hl
  obtain ⟨c, r, rfl, hc, c3, r3, rfl, hc3, c4, r4, rfl, hc4, c5, r5, rfl, hc5, c6, r6, rfl, hc6, rfl⟩ := hl
  obtain ⟨ds, rfl, hd⟩ := nodes_of (n := 7) hc
  obtain ⟨x, rfl, _⟩ := int_of (n := 9) hc3
  obtain ⟨w, rfl, hw⟩ := u8_of (n := 9) hc4
  obtain ⟨ns, rfl, hn⟩ := nums_of (n := 8) hc5
  obtain ⟨tu, rfl, _⟩ := int_of (n := 9) hc6
  rw [agg22, agg3, agg5, agg35]
  exact c_NormChains tab_ok F0 SO0 B0 W0 ds false (fun d h => ⟨(hd d h).1, (hd d h).2.1⟩) x w hw ns false hn tu
end Go.Proofs.YtpdeoalocejodaaGreatDoor
