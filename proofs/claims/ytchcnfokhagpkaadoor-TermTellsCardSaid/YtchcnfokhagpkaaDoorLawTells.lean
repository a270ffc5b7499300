/- The law TermTells, at the arguments as they read. -/
import Derived.Test.YtchcnfokhagpkaaDoorArgs
import Derived.Test.YtchcnfokhagpkaaDoorTerm21
import Derived.Test.YtchcnfokhagpkaaDoorTW
import Derived.Test.YtchcnfokhagpkaaDoorShelf2
import Derived.Test.YtchcnfokhagpkaaDoorLawGrows
namespace Go.Proofs.YtchcnfokhagpkaaDoor
open Go Go.Am
set_option maxRecDepth 100000
theorem cells30 : Tryd.prog.cellsOf 30 = 1 := by kernel_rfl
theorem agg30 : aggB Tryd.prog 30 = false := by kernel_rfl
theorem agg43 : aggB Tryd.prog 43 = false := by kernel_rfl
theorem id_of {n : Nat} {l : List V} (h : VT Tryd.prog (n + 1) 30 l) : ∃ x : Int, l = [.int .i64 x] ∧ i64 x := by
  simp only [VT, Tryd.underlying30] at h
  obtain ⟨x, rfl, hx⟩ := h
  exact ⟨x, rfl, wf_i64 hx⟩
theorem ids_of {n : Nat} {l : List V} (h : VT Tryd.prog (n + 3) 43 l) : ∃ ds : List Int, l = [.lst 1 (ds.map (V.int .i64)) false] ∧ ∀ x ∈ ds, i64 x := by
  rw [VT] at h
  simp only [Tryd.underlying43] at h
  obtain ⟨q, rfl, _, hq⟩ := h
  obtain ⟨ds, rfl, hd⟩ := list_of fun x hx => id_of (hq x hx)
  refine ⟨ds, ?_, hd⟩
  simp [cells30, agg30, toV]
theorem params4 : Tryd.f4.params.toList = [22, 43] := by kernel_rfl
theorem hC_termTells : ∀ l : List V, VArgs Tryd.prog 10 Tryd.f4.params.toList l → C Tryd.prog G0 0 4 l ⟨0, []⟩ fun v _ => v = .bool true := by
  intro l hl
  rw [params4] at hl
  obtain ⟨c, r, rfl, hc, c2, r2, rfl, hc2, rfl⟩ := hl
  obtain ⟨ds, rfl, hd⟩ := nodes_of (n := 7) hc
  obtain ⟨ids, rfl, hd2⟩ := ids_of (n := 7) hc2
  rw [agg22g, agg43]
  exact c_TermTells tab_ok F0 SO0 (c_works tab_ok) ds ids false false (fun d h => ⟨(hd d h).1, (hd d h).2.1⟩)
end Go.Proofs.YtchcnfokhagpkaaDoor
