/- What the laws ValueNeeded and ValueBehind share: the arguments as they read. -/
import Derived.Test.YtfligilbnpcnaaaGreatDoorArgs
import Derived.Test.YtfligilbnpcnaaaGreatDoorWo3
import Derived.Test.YtfligilbnpcnaaaGreatDoorV1
import Derived.Test.YtfligilbnpcnaaaGreatDoorShelf2
namespace Go.Proofs.YtfligilbnpcnaaaGreatDoor
open Go Go.Am
set_option maxRecDepth 100000
theorem SO0 : SortOk Tryz.prog := ⟨fun blk off cap zs w h1 h2 h3 => Tryz.slices_Sort_ids blk off cap zs w h1 h2 h3, fun p cap w => Tryz.slices_Sort_ids_none p cap w⟩
theorem SI0 : SortF Tryz.prog n_slices_Sort_int64_int64 := ⟨fun blk off cap zs w h1 h2 h3 => Tryz.slices_Sort_nums blk off cap zs w h1 h2 h3, fun p cap w => Tryz.slices_Sort_nums_none p cap w⟩
theorem agg22 : aggB Tryz.prog 22 = false := by kernel_rfl
theorem agg26 : aggB Tryz.prog 26 = true := by kernel_rfl
theorem agg52 : aggB Tryz.prog 52 = true := by kernel_rfl
theorem agg23 : aggB Tryz.prog 23 = false := by kernel_rfl
theorem agg2 : aggB Tryz.prog 2 = false := by kernel_rfl
theorem cells52 : Tryz.prog.cellsOf 52 = 4 := by kernel_rfl
theorem cells2 : Tryz.prog.cellsOf 2 = 1 := by kernel_rfl
theorem num_of {n : Nat} {l : List V} (h : VT Tryz.prog (n + 1) 2 l) : ∃ x : Int, l = [.int .i64 x] ∧ i64 x := by
  simp only [VT, Tryz.underlying2] at h
  obtain ⟨x, rfl, hx⟩ := h
  exact ⟨x, rfl, wf_i64 hx⟩
theorem nums_of {n : Nat} {l : List V} (h : VT Tryz.prog (n + 2) 23 l) : ∃ ds : List Int, l = [.lst 1 (nints ds) false] ∧ ∀ x ∈ ds, i64 x := by
  rw [VT] at h
  simp only [Tryz.underlying23] at h
  obtain ⟨q, rfl, _, hq⟩ := h
  obtain ⟨ds, rfl, hd⟩ := list_of fun x hx => num_of (hq x hx)
  refine ⟨ds, ?_, hd⟩
  simp [cells2, agg2, toV, nints]
def clCells (c : Cl) : List V := [.int .i64 c.arr, .int .i64 c.ver, .int .i64 c.at', .int .i64 c.n]
theorem cl_of {n : Nat} {l : List V} (h : VT Tryz.prog (n + 2) 52 l) : ∃ c : Cl, l = clCells c ∧ i64 c.n := by
  simp only [VT, Tryz.underlying52, VTs, Tryz.underlying2] at h
  obtain ⟨_, _, rfl, ⟨a, rfl, _⟩, _, _, rfl, ⟨v, rfl, _⟩, _, _, rfl, ⟨x, rfl, _⟩, _, _, rfl, ⟨n, rfl, hn⟩, rfl⟩ := h
  exact ⟨⟨a, v, x, n⟩, rfl, wf_i64 hn⟩
theorem cls_of {n : Nat} {l : List V} (h : VT Tryz.prog (n + 3) 24 l) : ∃ ds : List Cl, l = [.lst 4 (ds.map Cl.v) false] ∧ ∀ c ∈ ds, i64 c.n := by
  rw [VT] at h
  simp only [Tryz.underlying24] at h
  obtain ⟨q, rfl, _, hq⟩ := h
  obtain ⟨ds, rfl, hd⟩ := list_of fun x hx => cl_of (hq x hx)
  refine ⟨ds, ?_, hd⟩
  simp [cells52, agg52, toV, Cl.v, clCells]
theorem env_of {n : Nat} {l : List V} (h : VT Tryz.prog (n + 4) 26 l) : ∃ (S : List Int) (C : List Cl), l = [.lst 1 (nints S) false, .lst 4 (C.map Cl.v) false] ∧ (∀ x ∈ S, i64 x) ∧ ∀ c ∈ C, i64 c.n := by
  rw [VT] at h
  simp only [Tryz.underlying26, VTs] at h
  obtain ⟨_, _, rfl, h1, _, _, rfl, h2, rfl⟩ := h
  obtain ⟨S, rfl, hS⟩ := nums_of (n := n + 1) h1
  obtain ⟨C, rfl, hC⟩ := cls_of (n := n) h2
  exact ⟨S, C, rfl, hS, hC⟩
end Go.Proofs.YtfligilbnpcnaaaGreatDoor
