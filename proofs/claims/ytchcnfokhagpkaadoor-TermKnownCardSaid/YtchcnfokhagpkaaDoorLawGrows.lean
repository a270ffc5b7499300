/- The law TermGrows, at the arguments as they read. -/
import Derived.Test.YtchcnfokhagpkaaDoorArgs
import Derived.Test.YtchcnfokhagpkaaDoorTerm15
import Derived.Test.YtchcnfokhagpkaaDoorTW
import Derived.Test.YtchcnfokhagpkaaDoorShelf2
namespace Go.Proofs.YtchcnfokhagpkaaDoor
open Go Go.Am
set_option maxRecDepth 100000
theorem SO0 : SortOk Tryd.prog := ⟨fun blk off cap zs w h1 h2 h3 => Tryd.slices_Sort_ids blk off cap zs w h1 h2 h3, fun p cap w => Tryd.slices_Sort_ids_none p cap w⟩
theorem agg22g : aggB Tryd.prog 22 = false := by kernel_rfl
theorem params6 : Tryd.f6.params.toList = [22, 22] := by kernel_rfl
theorem hC_termGrows : ∀ l : List V, VArgs Tryd.prog 10 Tryd.f6.params.toList l → C Tryd.prog G0 0 6 l ⟨0, []⟩ fun v _ => v = .bool true := by
  intro l hl
  rw [params6] at hl
  obtain ⟨c, r, rfl, hc, c2, r2, rfl, hc2, rfl⟩ := hl
  obtain ⟨ds, rfl, hd⟩ := nodes_of (n := 7) hc
  obtain ⟨ds2, rfl, hd2⟩ := nodes_of (n := 7) hc2
  rw [agg22g]
  exact c_TermGrows tab_ok F0 SO0 (c_works tab_ok) ds ds2 false false (fun d h => ⟨(hd d h).1, (hd d h).2.1⟩) fun d h => ⟨(hd2 d h).1, (hd2 d h).2.1⟩
end Go.Proofs.YtchcnfokhagpkaaDoor
