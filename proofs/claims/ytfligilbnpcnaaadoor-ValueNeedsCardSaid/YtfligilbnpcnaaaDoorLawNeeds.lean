/- The law ValueNeeds, at the arguments as they read. -/
import Derived.Test.YtfligilbnpcnaaaDoorArgs
import Derived.Test.YtfligilbnpcnaaaDoorV6
import Derived.Test.YtfligilbnpcnaaaDoorTW
import Derived.Test.YtfligilbnpcnaaaDoorShelf2
namespace Go.Proofs.YtfligilbnpcnaaaDoor
open Go Go.Am
set_option maxRecDepth 100000
theorem SO0 : SortOk Tryd.prog := ⟨fun blk off cap zs w h1 h2 h3 => Tryd.slices_Sort_ids blk off cap zs w h1 h2 h3, fun p cap w => Tryd.slices_Sort_ids_none p cap w⟩
theorem SI0 : SortF Tryd.prog n_slices_Sort_int64_int64 := ⟨fun blk off cap zs w h1 h2 h3 => Tryd.slices_Sort_nums blk off cap zs w h1 h2 h3, fun p cap w => Tryd.slices_Sort_nums_none p cap w⟩
theorem agg22 : aggB Tryd.prog 22 = false := by kernel_rfl
theorem cells29 : Tryd.prog.cellsOf 29 = 1 := by kernel_rfl
theorem agg29 : aggB Tryd.prog 29 = false := by kernel_rfl
theorem agg23 : aggB Tryd.prog 23 = false := by kernel_rfl
theorem id_of {n : Nat} {l : List V} (h : VT Tryd.prog (n + 1) 29 l) : ∃ x : Int, l = [.int .i64 x] ∧ i64 x := by
  simp only [VT, Tryd.underlying29] at h
  obtain ⟨x, rfl, hx⟩ := h
  exact ⟨x, rfl, wf_i64 hx⟩
theorem ids_of {n : Nat} {l : List V} (h : VT Tryd.prog (n + 3) 23 l) : ∃ ds : List Int, l = [.lst 1 (ds.map (V.int .i64)) false] ∧ ∀ x ∈ ds, i64 x := by
  rw [VT] at h
  simp only [Tryd.underlying23] at h
  obtain ⟨q, rfl, _, hq⟩ := h
  obtain ⟨ds, rfl, hd⟩ := list_of fun x hx => id_of (hq x hx)
  refine ⟨ds, ?_, hd⟩
  simp [cells29, agg29, toV]
theorem params3 : Tryd.f3.params.toList = [22, 23] := by kernel_rfl
theorem hC_valueNeeds : ∀ l : List V, VArgs Tryd.prog 10 Tryd.f3.params.toList l → C Tryd.prog G0 0 3 l ⟨0, []⟩ fun v _ => v = .bool true := by
  intro l hl
  rw [params3] at hl
  obtain ⟨c, r, rfl, hc, c2, r2, rfl, hc2, rfl⟩ := hl
  obtain ⟨ds, rfl, hd⟩ := nodes_of (n := 7) hc
  obtain ⟨ids, rfl, hd2⟩ := ids_of (n := 7) hc2
  rw [agg22, agg23]
  exact c_ValueNeeds tab_ok F0 SO0 SI0 (c_works tab_ok) ds ids false false (fun d h => ⟨(hd d h).1, (hd d h).2.1⟩)
end Go.Proofs.YtfligilbnpcnaaaDoor
