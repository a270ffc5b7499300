/- The law RvEncodes, at the arguments as they read. -/
import Derived.Test.YtkhdfbokkneeaaaDoorLawDec
namespace Go.Proofs.YtkhdfbokkneeaaaDoor
open Go Go.Am Go.Rv
set_option maxRecDepth 100000
theorem paramsE : Tryd.f4.params.toList = [24] := by kernel_rfl
theorem aggInst : aggB Tryd.prog 24 = true := by kernel_rfl
theorem wf8 {n : Int} (h : (Lit.int .u8 n).wf = true) : 0 ≤ n ∧ n ≤ 255 := by
  have h1 : IntKind.u8.min = 0 := by decide
  have h2 : IntKind.u8.max = 255 := by decide
  simpa only [Lit.wf, Bool.and_eq_true, decide_eq_true_eq, h1, h2] using h
theorem wf64 {n : Int} (h : (Lit.int .i64 n).wf = true) : i64 n := by
  have h1 : IntKind.i64.min = -9223372036854775808 := by decide
  have h2 : IntKind.i64.max = 9223372036854775807 := by decide
  simp only [Lit.wf, Bool.and_eq_true, decide_eq_true_eq, h1, h2] at h
  exact h
theorem inst_of {n : Nat} {l : List V} (h : VT Tryd.prog (n + 2) 24 l) : ∃ x : In, l = inC x ∧ InOk x := by
  simp only [VT, Tryd.underlying24, VTs, Tryd.underlying5, Tryd.underlying1] at h
  obtain ⟨_, _, rfl, ⟨o, rfl, ho⟩, _, _, rfl, ⟨a, rfl, ha⟩, _, _, rfl, ⟨b, rfl, hb⟩, _, _, rfl, ⟨c, rfl, hc⟩, _, _, rfl, ⟨i, rfl, hi⟩, rfl⟩ := h
  exact ⟨⟨o, a, b, c, i⟩, rfl, wf8 ho, wf8 ha, wf8 hb, wf8 hc, wf64 hi⟩
theorem hC_rvEncodes : ∀ l : List V, VArgs Tryd.prog 10 Tryd.f4.params.toList l → C Tryd.prog G0 0 4 l ⟨0, []⟩ fun v _ => v = .bool true := by
  intro l hl
  rw [paramsE] at hl
  obtain ⟨c, r, rfl, hc, rfl⟩ := hl
  obtain ⟨x, rfl, hx⟩ := inst_of (n := 8) hc
  rw [aggInst]
  exact c_RvEncodes tab_ok F0 fmt_2 fmt_16 x hx
end Go.Proofs.YtkhdfbokkneeaaaDoor
