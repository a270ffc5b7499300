/- The law ClauseOrder, at the arguments as they read. -/
import Derived.Test.YtingdebioipemaaDoorArgs
import Derived.Test.YtingdebioipemaaDoorJ9
namespace Go.Proofs.YtingdebioipemaaDoor
open Go Go.Am Go.Cl
set_option maxRecDepth 100000
theorem cellsBool : Tryd.prog.cellsOf 4 = 1 := by kernel_rfl
theorem aggBool : aggB Tryd.prog 4 = false := by kernel_rfl
theorem aggBools : aggB Tryd.prog 25 = false := by kernel_rfl
theorem aggU8 : aggB Tryd.prog 5 = false := by kernel_rfl
theorem bool_of {n : Nat} {l : List V} (h : VT Tryd.prog (n + 1) 4 l) : ∃ b : Bool, l = [.bool b] ∧ True := by
  rw [VT] at h
  simp only [Tryd.underlying4] at h
  obtain ⟨x, rfl⟩ := h
  exact ⟨x, rfl, trivial⟩
theorem u8_of {n : Nat} {l : List V} (h : VT Tryd.prog (n + 1) 5 l) : ∃ x : Int, l = [.int .u8 x] ∧ 0 ≤ x ∧ x ≤ 255 := by
  rw [VT] at h
  simp only [Tryd.underlying5] at h
  obtain ⟨x, rfl, hx⟩ := h
  have h1 : IntKind.u8.min = 0 := by decide
  have h2 : IntKind.u8.max = 255 := by decide
  simp only [Lit.wf, Bool.and_eq_true, decide_eq_true_eq, h1, h2] at hx
  exact ⟨x, rfl, hx⟩
theorem bools_of {n : Nat} {l : List V} (h : VT Tryd.prog (n + 2) 25 l) : ∃ c : List Bool, l = [bools c] ∧ c.length ≤ 9223372036854775807 := by
  rw [VT] at h
  simp only [Tryd.underlying25] at h
  obtain ⟨q, rfl, hl, hq⟩ := h
  obtain ⟨ds, rfl, hd⟩ := list_of (f := fun b : Bool => [V.bool b]) (p := fun _ => True) fun x hx => bool_of (hq x hx)
  refine ⟨ds, ?_, ?_⟩
  · simp [cellsBool, aggBool, toV, bools]
  · have hm : maxLen ≤ 9223372036854775807 := by decide
    simp only [List.length_map] at hl
    omega
theorem paramsOrder : Tryd.f3.params.toList = [24, 25, 5] := by kernel_rfl
theorem hC_clauseOrder : ∀ l : List V, VArgs Tryd.prog 10 Tryd.f3.params.toList l → C Tryd.prog G0 0 3 l ⟨0, []⟩ fun v _ => v = .bool true := by
  intro l hl
  rw [paramsOrder] at hl
  obtain ⟨a, _, rfl, ha, b, _, rfl, hb, c, _, rfl, hc, rfl⟩ := hl
  obtain ⟨v, F, rfl, hv, hF, hFc⟩ := fml_of (n := 6) ha
  obtain ⟨m, rfl, hm⟩ := bools_of (n := 8) hb
  obtain ⟨tn, rfl, ht⟩ := u8_of (n := 9) hc
  rw [aggFml, aggBools, aggU8]
  exact (c_ClauseOrder tab_ok K0 It0 v F m tn hF (fun c h => (hFc c h).1) hm ht 0).conseq fun u σ h => h.2
end Go.Proofs.YtingdebioipemaaDoor
