/- The law ValueOf, at the arguments as they read. -/
import Derived.Test.YtfligilbnpcnaaaGreatDoorLawEnv
import Derived.Test.YtfligilbnpcnaaaGreatDoorB11
import Derived.Test.YtfligilbnpcnaaaGreatDoorTW
namespace Go.Proofs.YtfligilbnpcnaaaGreatDoor
open Go Go.Am
set_option maxRecDepth 100000
theorem aggI : aggB Tryz.prog 3 = false := by kernel_rfl
theorem int_of {n : Nat} {l : List V} (h : VT Tryz.prog (n + 1) 3 l) : ∃ x : Int, l = [.int .i64 x] := by
  simp only [VT, Tryz.underlying3] at h
  obtain ⟨x, rfl, _⟩ := h
  exact ⟨x, rfl⟩
theorem params3 : Tryz.f3.params.toList = [22, 26, 2, 2, 2, 3] := by kernel_rfl
theorem hC_valueOf : ∀ l : List V, VArgs Tryz.prog 10 Tryz.f3.params.toList l → C Tryz.prog G0 0 3 l ⟨0, []⟩ fun v _ => v = .bool true := by
  intro l hl
  rw [params3] at hl
  obtain ⟨c, r, rfl, hc, c2, r2, rfl, hc2, c3, r3, rfl, hc3, c4, r4, rfl, hc4, c5, r5, rfl, hc5, c6, r6, rfl, hc6, rfl⟩ := hl
  obtain ⟨ds, rfl, hd⟩ := nodes_of (n := 7) hc
  obtain ⟨S, C, rfl, hS, hC⟩ := env_of (n := 6) hc2
  obtain ⟨k, rfl, _⟩ := num_of (n := 9) hc3
  obtain ⟨v, rfl, _⟩ := num_of (n := 9) hc4
  obtain ⟨a, rfl, _⟩ := num_of (n := 9) hc5
  obtain ⟨b, rfl⟩ := int_of (n := 9) hc6
  rw [agg22, agg26, agg2, aggI]
  exact c_ValueOf tab_ok F0 SO0 (c_works tab_ok) ds false (fun d h => ⟨(hd d h).1, (hd d h).2.1⟩) S false C false k v a b hS hC
end Go.Proofs.YtfligilbnpcnaaaGreatDoor
