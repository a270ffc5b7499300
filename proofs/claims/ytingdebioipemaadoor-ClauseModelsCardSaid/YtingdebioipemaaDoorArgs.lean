/- The arguments of the laws, as they read. -/
import Derived.Test.YtingdebioipemaaDoorSeat
namespace Go.Proofs.YtingdebioipemaaDoor
open Go Go.Am Go.Cl
set_option maxRecDepth 100000
def inI (n : Int) : Prop := -9223372036854775808 ≤ n ∧ n ≤ 9223372036854775807
theorem wf_i64 {n : Int} (h : (Lit.int .i64 n).wf = true) : inI n := by
  have h1 : IntKind.i64.min = -9223372036854775808 := by decide
  have h2 : IntKind.i64.max = 9223372036854775807 := by decide
  simp only [Lit.wf, Bool.and_eq_true, decide_eq_true_eq, h1, h2] at h
  exact h
theorem list_of {α : Type} {p : α → Prop} {f : α → List V} : ∀ {q : List (List V)}, (∀ x ∈ q, ∃ d, x = f d ∧ p d) → ∃ ds : List α, q = ds.map f ∧ ∀ d ∈ ds, p d
  | [], _ => ⟨[], rfl, by simp⟩
  | x :: q, h => by
    obtain ⟨d, hd, hp⟩ := h x (by simp)
    obtain ⟨ds, h1, h2⟩ := list_of (q := q) fun y hy => h y (by simp [hy])
    exact ⟨d :: ds, by simp [hd, h1], by simpa [hp] using h2⟩
theorem cellsInt : Tryd.prog.cellsOf 3 = 1 := by kernel_rfl
theorem aggInt : aggB Tryd.prog 3 = false := by kernel_rfl
theorem cellsInts : Tryd.prog.cellsOf 28 = 1 := by kernel_rfl
theorem aggInts : aggB Tryd.prog 28 = false := by kernel_rfl
theorem aggRows : aggB Tryd.prog 22 = false := by kernel_rfl
theorem aggFml : aggB Tryd.prog 24 = true := by kernel_rfl
theorem int_of {n : Nat} {l : List V} (h : VT Tryd.prog (n + 1) 3 l) : ∃ x : Int, l = [.int .i64 x] ∧ inI x := by
  rw [VT] at h
  simp only [show Tryd.prog.underlying 3 = some (.int .i64) from Tryd.underlying3] at h
  obtain ⟨x, rfl, hx⟩ := h
  exact ⟨x, rfl, wf_i64 hx⟩
theorem ints_of {n : Nat} {l : List V} (h : VT Tryd.prog (n + 2) 28 l) : ∃ c : List Int, l = [row c] ∧ c.length ≤ 9223372036854775807 ∧ ∀ x ∈ c, inI x := by
  rw [VT] at h
  simp only [show Tryd.prog.underlying 28 = some (.slice 3) from Tryd.underlying28] at h
  obtain ⟨q, rfl, hl, hq⟩ := h
  obtain ⟨ds, rfl, hd⟩ := list_of fun x hx => int_of (hq x hx)
  refine ⟨ds, ?_, ?_, hd⟩
  · simp [cellsInt, aggInt, toV, row, ints]
  · have hm : maxLen ≤ 9223372036854775807 := by decide
    simp only [List.length_map] at hl
    omega
theorem rows_of {n : Nat} {l : List V} (h : VT Tryd.prog (n + 3) 22 l) : ∃ F : List (List Int), l = [rows F] ∧ F.length ≤ 9223372036854775807 ∧ ∀ c ∈ F, c.length ≤ 9223372036854775807 ∧ ∀ x ∈ c, inI x := by
  rw [VT] at h
  simp only [show Tryd.prog.underlying 22 = some (.slice 28) from Tryd.underlying22] at h
  obtain ⟨q, rfl, hl, hq⟩ := h
  obtain ⟨ds, rfl, hd⟩ := list_of (f := fun c => [row c]) fun x hx => ints_of (hq x hx)
  refine ⟨ds, ?_, ?_, hd⟩
  · simp [cellsInts, aggInts, toV, rows]
  · have hm : maxLen ≤ 9223372036854775807 := by decide
    simp only [List.length_map] at hl
    omega
theorem fml_of {n : Nat} {l : List V} (h : VT Tryd.prog (n + 4) 24 l) : ∃ v F, l = [.int .i64 v, rows F] ∧ inI v ∧ F.length ≤ 9223372036854775807 ∧ ∀ c ∈ F, c.length ≤ 9223372036854775807 ∧ ∀ x ∈ c, inI x := by
  rw [VT] at h
  simp only [show Tryd.prog.underlying 24 = _ from Tryd.underlying24, VTs] at h
  obtain ⟨_, _, rfl, h1, _, _, rfl, h2, rfl⟩ := h
  obtain ⟨v, rfl, hv⟩ := int_of (n := n + 2) h1
  obtain ⟨F, rfl, h3, h4⟩ := rows_of (n := n) h2
  exact ⟨v, F, by simp, hv, h3, h4⟩
end Go.Proofs.YtingdebioipemaaDoor
