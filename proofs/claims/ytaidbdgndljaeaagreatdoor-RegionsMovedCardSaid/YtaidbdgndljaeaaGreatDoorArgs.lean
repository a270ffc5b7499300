/- The arguments of the laws: images, rows of bytes. -/
import Derived.Test.YtaidbdgndljaeaaGreatDoorSeat
import Derived.Test.YtaidbdgndljaeaaGreatDoorJ9
namespace Go.Proofs.YtaidbdgndljaeaaGreatDoor
open Go Go.Am Go.Rv Go.Rg
set_option maxRecDepth 100000

theorem cellsU32 : Tryz.prog.cellsOf 43 = 1 := by kernel_rfl
theorem cellsU8 : Tryz.prog.cellsOf 5 = 1 := by kernel_rfl
theorem cellsSym : Tryz.prog.cellsOf 60 = 2 := by kernel_rfl
theorem aggU32 : aggB Tryz.prog 43 = false := by kernel_rfl
theorem aggU8 : aggB Tryz.prog 5 = false := by kernel_rfl
theorem aggSym : aggB Tryz.prog 60 = true := by kernel_rfl
theorem aggImg : aggB Tryz.prog 25 = true := by kernel_rfl
theorem aggU8s : aggB Tryz.prog 26 = false := by kernel_rfl
theorem list_of {α : Type} {p : α → Prop} {f : α → List V} : ∀ {q : List (List V)}, (∀ x ∈ q, ∃ d, x = f d ∧ p d) → ∃ ds : List α, q = ds.map f ∧ ∀ d ∈ ds, p d
  | [], _ => ⟨[], rfl, by simp⟩
  | x :: q, h => by
    obtain ⟨d, hd, hp⟩ := h x (by simp)
    obtain ⟨ds, h1, h2⟩ := list_of (q := q) fun y hy => h y (by simp [hy])
    exact ⟨d :: ds, by simp [hd, h1], by simpa [hp] using h2⟩
theorem u8_of {n : Nat} {l : List V} (h : VT Tryz.prog (n + 1) 5 l) : ∃ x : Int, l = [.int .u8 x] ∧ (0 ≤ x ∧ x ≤ 255) := by
  rw [VT] at h
  simp only [Tryz.underlying5] at h
  obtain ⟨x, rfl, hx⟩ := h
  have h1 : IntKind.u8.min = 0 := by decide
  have h2 : IntKind.u8.max = 255 := by decide
  simp only [Lit.wf, Bool.and_eq_true, decide_eq_true_eq, h1, h2] at hx
  exact ⟨x, rfl, hx⟩
theorem u32_of {n : Nat} {l : List V} (h : VT Tryz.prog (n + 1) 43 l) : ∃ x : Int, l = [.int .u32 x] ∧ (0 ≤ x ∧ x < 4294967296) := by
  rw [VT] at h
  simp only [Tryz.underlying43] at h
  obtain ⟨x, rfl, hx⟩ := h
  have h1 : IntKind.u32.min = 0 := by decide
  have h2 : IntKind.u32.max = 4294967295 := by decide
  simp only [Lit.wf, Bool.and_eq_true, decide_eq_true_eq, h1, h2] at hx
  exact ⟨x, rfl, by omega⟩
theorem u8s_of {n : Nat} {l : List V} (h : VT Tryz.prog (n + 2) 26 l) : ∃ c : List Int, l = [.lst 1 (us c) false] ∧ ∀ x ∈ c, 0 ≤ x ∧ x ≤ 255 := by
  rw [VT] at h
  simp only [Tryz.underlying26] at h
  obtain ⟨q, rfl, hl, hq⟩ := h
  obtain ⟨ds, rfl, hd⟩ := list_of (f := fun x : Int => [V.int .u8 x]) fun x hx => u8_of (hq x hx)
  exact ⟨ds, by simp [cellsU8, aggU8, toV, us], hd⟩
theorem u32s_of {n : Nat} {l : List V} (h : VT Tryz.prog (n + 2) 23 l) : ∃ c : List Int, l = [codeV c] ∧ ∀ x ∈ c, 0 ≤ x ∧ x < 4294967296 := by
  rw [VT] at h
  simp only [Tryz.underlying23] at h
  obtain ⟨q, rfl, hl, hq⟩ := h
  obtain ⟨ds, rfl, hd⟩ := list_of (f := fun x : Int => [V.int .u32 x]) fun x hx => u32_of (hq x hx)
  exact ⟨ds, by simp [cellsU32, aggU32, toV, codeV], hd⟩
theorem sym_of {n : Nat} {l : List V} (h : VT Tryz.prog (n + 2) 60 l) : ∃ s : List UInt8 × Int, l = [.str s.1, .int .i64 s.2] ∧ s.1.length ≤ 9223372036854775807 := by
  simp only [VT, Tryz.underlying60, VTs, Tryz.underlying9, Tryz.underlying3] at h
  obtain ⟨_, _, rfl, ⟨s, rfl, hs⟩, _, _, rfl, ⟨a, rfl, _⟩, rfl⟩ := h
  have hm : maxLen ≤ 9223372036854775807 := by decide
  exact ⟨(s, a), rfl, by show s.length ≤ _; omega⟩
theorem syms_of {n : Nat} {l : List V} (h : VT Tryz.prog (n + 3) 22 l) : ∃ c : List (List UInt8 × Int), l = [symsV c] ∧ ∀ s ∈ c, s.1.length ≤ 9223372036854775807 := by
  rw [VT] at h
  simp only [Tryz.underlying22] at h
  obtain ⟨q, rfl, hl, hq⟩ := h
  obtain ⟨ds, rfl, hd⟩ := list_of (f := fun s : List UInt8 × Int => [V.str s.1, V.int .i64 s.2]) fun x hx => sym_of (hq x hx)
  exact ⟨ds, by simp [cellsSym, aggSym, toV, symsV, symV, Function.comp_def], hd⟩
theorem img_of {n : Nat} {l : List V} (h : VT Tryz.prog (n + 4) 25 l) : ∃ m : Im, l = imgC m ∧ (∀ s ∈ m.syms, s.1.length ≤ 9223372036854775807) ∧ ∀ w ∈ m.code, 0 ≤ w ∧ w < 4294967296 := by
  rw [VT] at h
  simp only [Tryz.underlying25, VTs] at h
  obtain ⟨_, _, rfl, h1, _, _, rfl, h2, _, _, rfl, h3, rfl⟩ := h
  rw [VT] at h1
  simp only [Tryz.underlying3] at h1
  obtain ⟨d, rfl, _⟩ := h1
  obtain ⟨S, rfl, hS⟩ := syms_of (n := n) h2
  obtain ⟨C, rfl, hC⟩ := u32s_of (n := n + 1) h3
  exact ⟨⟨d, S, C⟩, rfl, hS, hC⟩
end Go.Proofs.YtaidbdgndljaeaaGreatDoor
