/- The law TermOnce, at the arguments as they read. -/
import Derived.Test.YtchcnfokhagpkaaDoorLawGrows
import Derived.Test.YtchcnfokhagpkaaDoorTerm23
namespace Go.Proofs.YtchcnfokhagpkaaDoor
open Go Go.Am
set_option maxRecDepth 100000
theorem params5 : Tryd.f5.params.toList = [22] := by kernel_rfl
theorem hC_termOnce : ∀ l : List V, VArgs Tryd.prog 10 Tryd.f5.params.toList l → C Tryd.prog G0 0 5 l ⟨0, []⟩ fun v _ => v = .bool true := by
  intro l hl
  rw [params5] at hl
  obtain ⟨c, r, rfl, hc, rfl⟩ := hl
  obtain ⟨ds, rfl, hd⟩ := nodes_of (n := 7) hc
  rw [agg22g]
  exact c_TermOnce tab_ok F0 numOk10 SO0 (c_works tab_ok) ds false (fun d h => ⟨(hd d h).1, (hd d h).2.1⟩)
end Go.Proofs.YtchcnfokhagpkaaDoor
