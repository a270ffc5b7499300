/- The law RegionsMoved, at the arguments as they read. -/
import Derived.Test.YtaidbdgndljaeaaGreatDoorArgs
import Derived.Test.YtaidbdgndljaeaaGreatDoorG12
namespace Go.Proofs.YtaidbdgndljaeaaGreatDoor
open Go Go.Am Go.Rv Go.Rg
set_option maxRecDepth 100000
theorem cellsInst : Tryz.prog.cellsOf 47 = 5 := by kernel_rfl
theorem aggInst : aggB Tryz.prog 47 = true := by kernel_rfl
theorem aggInsts : aggB Tryz.prog 34 = false := by kernel_rfl
theorem inst_of {n : Nat} {l : List V} (h : VT Tryz.prog (n + 2) 47 l) : ∃ x : In, l = inC x ∧ InOk x := by
  have m1 : IntKind.u8.min = 0 := by decide
  have m2 : IntKind.u8.max = 255 := by decide
  have m3 : IntKind.i64.min = -9223372036854775808 := by decide
  have m4 : IntKind.i64.max = 9223372036854775807 := by decide
  simp only [VT, Tryz.underlying47, VTs, Tryz.underlying5, Tryz.underlying2] at h
  obtain ⟨_, _, rfl, ⟨a, rfl, ha⟩, _, _, rfl, ⟨b, rfl, hb⟩, _, _, rfl, ⟨c, rfl, hc⟩, _, _, rfl, ⟨d, rfl, hd⟩, _, _, rfl, ⟨e, rfl, he⟩, rfl⟩ := h
  simp only [Lit.wf, Bool.and_eq_true, decide_eq_true_eq, m1, m2, m3, m4] at ha hb hc hd he
  exact ⟨⟨a, b, c, d, e⟩, rfl, ha, hb, hc, hd, by unfold i64; exact he⟩
theorem insts_of {n : Nat} {l : List V} (h : VT Tryz.prog (n + 3) 34 l) : ∃ c : List In, l = [insV c] ∧ ∀ x ∈ c, InOk x := by
  rw [VT] at h
  simp only [Tryz.underlying34] at h
  obtain ⟨q, rfl, hl, hq⟩ := h
  obtain ⟨ds, rfl, hd⟩ := list_of (f := inC) fun x hx => inst_of (hq x hx)
  exact ⟨ds, by simp [cellsInst, aggInst, toV, insV, Function.comp_def], hd⟩
theorem paramsMoved : Tryz.f4.params.toList = [34, 34] := by kernel_rfl
theorem hC_regionsMoved : ∀ l : List V, VArgs Tryz.prog 10 Tryz.f4.params.toList l → C Tryz.prog G0 0 4 l ⟨0, []⟩ fun v _ => v = .bool true := by
  intro l hl
  rw [paramsMoved] at hl
  obtain ⟨a, _, rfl, ha, b, _, rfl, hb, rfl⟩ := hl
  obtain ⟨c, rfl, hc⟩ := insts_of (n := 7) ha
  obtain ⟨d, rfl, hd⟩ := insts_of (n := 7) hb
  rw [aggInsts]
  exact (c_RegionsMoved tab_ok c d hc hd 0).conseq fun u σ h => h.2
end Go.Proofs.YtaidbdgndljaeaaGreatDoor
