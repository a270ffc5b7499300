/- What the laws ValueNeeded and ValueBehind share: the arguments as they read. -/
import Derived.Test.YtfligilbnpcnaaaDoorArgs
import Derived.Test.YtfligilbnpcnaaaDoorWo3
import Derived.Test.YtfligilbnpcnaaaDoorV1
import Derived.Test.YtfligilbnpcnaaaDoorShelf2
namespace Go.Proofs.YtfligilbnpcnaaaDoor
open Go Go.Am
set_option maxRecDepth 100000
theorem SO0 : SortOk Tryd.prog := ⟨fun blk off cap zs w h1 h2 h3 => Tryd.slices_Sort_ids blk off cap zs w h1 h2 h3, fun p cap w => Tryd.slices_Sort_ids_none p cap w⟩
theorem SI0 : SortF Tryd.prog n_slices_Sort_int64_int64 := ⟨fun blk off cap zs w h1 h2 h3 => Tryd.slices_Sort_nums blk off cap zs w h1 h2 h3, fun p cap w => Tryd.slices_Sort_nums_none p cap w⟩
theorem agg22 : aggB Tryd.prog 22 = false := by kernel_rfl
theorem agg40 : aggB Tryd.prog 40 = true := by kernel_rfl
theorem agg46 : aggB Tryd.prog 46 = true := by kernel_rfl
theorem agg30 : aggB Tryd.prog 30 = false := by kernel_rfl
theorem agg2 : aggB Tryd.prog 2 = false := by kernel_rfl
theorem cells46 : Tryd.prog.cellsOf 46 = 4 := by kernel_rfl
theorem cells2 : Tryd.prog.cellsOf 2 = 1 := by kernel_rfl
theorem num_of {n : Nat} {l : List V} (h : VT Tryd.prog (n + 1) 2 l) : ∃ x : Int, l = [.int .i64 x] ∧ i64 x := by
  simp only [VT, Tryd.underlying2] at h
  obtain ⟨x, rfl, hx⟩ := h
  exact ⟨x, rfl, wf_i64 hx⟩
theorem nums_of {n : Nat} {l : List V} (h : VT Tryd.prog (n + 2) 30 l) : ∃ ds : List Int, l = [.lst 1 (nints ds) false] ∧ ∀ x ∈ ds, i64 x := by
  rw [VT] at h
  simp only [Tryd.underlying30] at h
  obtain ⟨q, rfl, _, hq⟩ := h
  obtain ⟨ds, rfl, hd⟩ := list_of fun x hx => num_of (hq x hx)
  refine ⟨ds, ?_, hd⟩
  simp [cells2, agg2, toV, nints]
def clCells (c : Cl) : List V := [.int .i64 c.arr, .int .i64 c.ver, .int .i64 c.at', .int .i64 c.n]
theorem cl_of {n : Nat} {l : List V} (h : VT Tryd.prog (n + 2) 46 l) : ∃ c : Cl, l = clCells c ∧ i64 c.n := by
  simp only [VT, Tryd.underlying46, VTs, Tryd.underlying2] at h
  obtain ⟨_, _, rfl, ⟨a, rfl, _⟩, _, _, rfl, ⟨v, rfl, _⟩, _, _, rfl, ⟨x, rfl, _⟩, _, _, rfl, ⟨n, rfl, hn⟩, rfl⟩ := h
  exact ⟨⟨a, v, x, n⟩, rfl, wf_i64 hn⟩
theorem cls_of {n : Nat} {l : List V} (h : VT Tryd.prog (n + 3) 38 l) : ∃ ds : List Cl, l = [.lst 4 (ds.map Cl.v) false] ∧ ∀ c ∈ ds, i64 c.n := by
  rw [VT] at h
  simp only [Tryd.underlying38] at h
  obtain ⟨q, rfl, _, hq⟩ := h
  obtain ⟨ds, rfl, hd⟩ := list_of fun x hx => cl_of (hq x hx)
  refine ⟨ds, ?_, hd⟩
  simp [cells46, agg46, toV, Cl.v, clCells]
theorem env_of {n : Nat} {l : List V} (h : VT Tryd.prog (n + 4) 40 l) : ∃ (S : List Int) (C : List Cl), l = [.lst 1 (nints S) false, .lst 4 (C.map Cl.v) false] ∧ (∀ x ∈ S, i64 x) ∧ ∀ c ∈ C, i64 c.n := by
  rw [VT] at h
  simp only [Tryd.underlying40, VTs] at h
  obtain ⟨_, _, rfl, h1, _, _, rfl, h2, rfl⟩ := h
  obtain ⟨S, rfl, hS⟩ := nums_of (n := n + 1) h1
  obtain ⟨C, rfl, hC⟩ := cls_of (n := n) h2
  exact ⟨S, C, rfl, hS, hC⟩
end Go.Proofs.YtfligilbnpcnaaaDoor
