/- What the laws of chapter 04 share: arguments as they read; the examples. -/
import Derived.Test.YtpdeoalocejodaaGreatDoorLawEnv
import Derived.Test.YtpdeoalocejodaaGreatDoorJ10
namespace Go.Proofs.YtpdeoalocejodaaGreatDoor
open Go Go.Am
set_option maxRecDepth 100000
theorem agg3 : Qlg Tryz.prog 3 = false := by kernel_rfl
theorem agg23 : Qlg Tryz.prog 23 = false := by kernel_rfl
theorem agg5 : Qlg Tryz.prog 5 = false := by kernel_rfl
theorem int_of {n : Nat} {l : List V} (h : VT Tryz.prog (n + 1) 3 l) : ∃ x : Int, l = [.int .i64 x] ∧ i64 x := by
 simp only [VT, Tryz.underlying3] at h
 obtain ⟨x, rfl, hx⟩ := h
 exact ⟨x, rfl, wf_i64 hx⟩
theorem wf_u8 {n : Int} (h : (Lit.int .u8 n).wf = true) : 0 ≤ n ∧ n ≤ 255 := by
 have h1 : IntKind.u8.min = 0 := by decide
 have h2 : IntKind.u8.max = 255 := by decide
 simp only [Lit.wf, Bool.and_eq_true, decide_eq_true_eq, h1, h2] at h
 exact h
theorem op_of {n : Nat} {l : List V} (h : VT Tryz.prog (n + 1) 23 l) : ∃ x : Int, l = [.int .u8 x] ∧ 0 ≤ x ∧ x ≤ 255 := by
 simp only [VT, Tryz.underlying23] at h
 obtain ⟨x, rfl, hx⟩ := h
 exact ⟨x, rfl, wf_u8 hx⟩
theorem u8_of {n : Nat} {l : List V} (h : VT Tryz.prog (n + 1) 5 l) : ∃ x : Int, l = [.int .u8 x] ∧ 0 ≤ x ∧ x ≤ 255 := by
 simp only [VT, Tryz.underlying5] at h
 obtain ⟨x, rfl, hx⟩ := h
 exact ⟨x, rfl, wf_u8 hx⟩
theorem W0 : Pure Tryz.prog G0 Qz [] fun v => v = .bool true := Qy9 QrS F0 SO0 B0 rfl
end Go.Proofs.YtpdeoalocejodaaGreatDoor
