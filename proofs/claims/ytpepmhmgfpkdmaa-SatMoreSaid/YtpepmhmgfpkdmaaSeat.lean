/- What the seat's laws share: a world for the witness; the arguments of the laws. -/
import Derived.Test.YtpepmhmgfpkdmaaRows
import Derived.WalkKit
import Derived.ProofKit
import Derived.OpenShut
import Derived.Deep.DeepHandedRow
import Derived.Lib.LaidTab
import Derived.Stop.LaidErr
import Derived.Test.YtpepmhmgfpkdmaaAmD
import Derived.Test.YtpepmhmgfpkdmaaTabEq
import Derived.Test.YtpepmhmgfpkdmaaCw1
namespace Go.Proofs.Ytpepmhmgfpkdmaa
open Go Go.Am Go.ChangeShapes Go.WideShapes Go.ChangeAt Go.RowKit
set_option maxRecDepth 100000

theorem own : ownKnob Try.prog.godebug = none := by kernel_rfl
theorem hlaid : laidOutB Try.prog = true := by kernel_rfl
abbrev tBool : TypeId := 4
def G0 : Nat → Option V := fun _ => none
theorem hG0 {W : World} : ∀ g x, G0 g = some x → VR (immOf W) noNames (.ref x 0) (.pointer (some ⟨g, 0, none⟩)) ∧ Gv W g x := fun g x h => by cases h
noncomputable def laidWorld (os : Os) : World := World.holding Try.prog os ⟨#[], #[], []⟩

def inI (n : Int) : Prop := -9223372036854775808 ≤ n ∧ n ≤ 9223372036854775807
theorem wf_i64 {n : Int} (h : (Lit.int .i64 n).wf = true) : inI n := by
  have h1 : IntKind.i64.min = -9223372036854775808 := by decide
  have h2 : IntKind.i64.max = 9223372036854775807 := by decide
  simp only [Lit.wf, Bool.and_eq_true, decide_eq_true_eq, h1, h2] at h
  exact h
theorem list_of {α : Type} {p : α → Prop} {f : α → List V} : ∀ {q : List (List V)}, (∀ x ∈ q, ∃ d, x = f d ∧ p d) → ∃ ds : List α, q = ds.map f ∧ ∀ d ∈ ds, p d
  | [], _ => ⟨[], rfl, by simp⟩
  | x :: q, h => by
    obtain ⟨d, hd, hp⟩ := h x (by simp)
    obtain ⟨ds, h1, h2⟩ := list_of (q := q) fun y hy => h y (by simp [hy])
    exact ⟨d :: ds, by simp [hd, h1], by simpa [hp] using h2⟩
theorem cellsInt : Try.prog.cellsOf 3 = 1 := by kernel_rfl
theorem aggInt : aggB Try.prog 3 = false := by kernel_rfl
theorem cellsInts : Try.prog.cellsOf 37 = 1 := by kernel_rfl
theorem aggInts : aggB Try.prog 37 = false := by kernel_rfl
theorem aggRows : aggB Try.prog 22 = false := by kernel_rfl
theorem aggFml : aggB Try.prog 24 = true := by kernel_rfl
theorem int_of {n : Nat} {l : List V} (h : VT Try.prog (n + 1) 3 l) : ∃ x : Int, l = [.int .i64 x] ∧ inI x := by
  rw [VT] at h
  simp only [show Try.prog.underlying 3 = some (.int .i64) from Try.underlying3] at h
  obtain ⟨x, rfl, hx⟩ := h
  exact ⟨x, rfl, wf_i64 hx⟩
theorem ints_of {n : Nat} {l : List V} (h : VT Try.prog (n + 2) 37 l) : ∃ c : List Int, l = [row c] ∧ c.length ≤ 9223372036854775807 ∧ ∀ x ∈ c, inI x := by
  rw [VT] at h
  simp only [show Try.prog.underlying 37 = some (.slice 3) from Try.underlying37] at h
  obtain ⟨q, rfl, hl, hq⟩ := h
  obtain ⟨ds, rfl, hd⟩ := list_of fun x hx => int_of (hq x hx)
  refine ⟨ds, ?_, ?_, hd⟩
  · simp [cellsInt, aggInt, toV, row, ints]
  · have hm : maxLen ≤ 9223372036854775807 := by decide
    simp only [List.length_map] at hl
    omega
theorem rows_of {n : Nat} {l : List V} (h : VT Try.prog (n + 3) 22 l) : ∃ F : List (List Int), l = [rows F] ∧ F.length ≤ 9223372036854775807 ∧ ∀ c ∈ F, c.length ≤ 9223372036854775807 ∧ ∀ x ∈ c, inI x := by
  rw [VT] at h
  simp only [show Try.prog.underlying 22 = some (.slice 37) from Try.underlying22] at h
  obtain ⟨q, rfl, hl, hq⟩ := h
  obtain ⟨ds, rfl, hd⟩ := list_of (f := fun c => [row c]) fun x hx => ints_of (hq x hx)
  refine ⟨ds, ?_, ?_, hd⟩
  · simp [cellsInts, aggInts, toV, rows]
  · have hm : maxLen ≤ 9223372036854775807 := by decide
    simp only [List.length_map] at hl
    omega
theorem fml_of {n : Nat} {l : List V} (h : VT Try.prog (n + 4) 24 l) : ∃ v F, l = [.int .i64 v, rows F] ∧ inI v ∧ F.length ≤ 9223372036854775807 ∧ ∀ c ∈ F, c.length ≤ 9223372036854775807 ∧ ∀ x ∈ c, inI x := by
  rw [VT] at h
  simp only [show Try.prog.underlying 24 = _ from Try.underlying24, VTs] at h
  obtain ⟨_, _, rfl, h1, _, _, rfl, h2, rfl⟩ := h
  obtain ⟨v, rfl, hv⟩ := int_of (n := n + 2) h1
  obtain ⟨F, rfl, h3, h4⟩ := rows_of (n := n) h2
  exact ⟨v, F, by simp, hv, h3, h4⟩
end Go.Proofs.Ytpepmhmgfpkdmaa
