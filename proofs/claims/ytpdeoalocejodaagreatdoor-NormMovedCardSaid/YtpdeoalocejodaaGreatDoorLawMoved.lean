/- The law NormMoved, at the arguments as they read. -/
import Derived.Test.YtpdeoalocejodaaGreatDoorLawN
import Derived.Test.YtpdeoalocejodaaGreatDoorW21
namespace Go.Proofs.YtpdeoalocejodaaGreatDoor
open Go Go.Am
set_option maxRecDepth 100000
theorem params4 : Tryz.f4.params.toList = [22, 3, 3, 2, 2] := by kernel_rfl
theorem hC_normMoved : ∀ l : List V, VArgs Tryz.prog 10 Tryz.f4.params.toList l → C Tryz.prog G0 0 4 l ⟨0, []⟩ fun v _ => v = .bool true := by
  intro l hl
  rw [params4] at hl
  obtain ⟨c, r, rfl, hc, c3, r3, rfl, hc3, c4, r4, rfl, hc4, c5, r5, rfl, hc5, c6, r6, rfl, hc6, rfl⟩ := hl
  obtain ⟨ds, rfl, hd⟩ := nodes_of (n := 7) hc
  obtain ⟨x, rfl, _⟩ := int_of (n := 9) hc3
  obtain ⟨y, rfl, _⟩ := int_of (n := 9) hc4
  obtain ⟨m, rfl, hm⟩ := num_of (n := 9) hc5
  obtain ⟨n, rfl, hn⟩ := num_of (n := 9) hc6
  rw [agg22, agg3, agg2]
  exact c_NormMoved tab_ok F0 SO0 B0 W0 ds false (fun d h => ⟨(hd d h).1, (hd d h).2.1⟩) x y m n hm hn
end Go.Proofs.YtpdeoalocejodaaGreatDoor
