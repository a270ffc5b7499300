/- The law TermAdds, at the arguments as they read. -/
import Derived.Test.YtchcnfokhagpkaaDoorArgs
import Derived.Test.YtchcnfokhagpkaaDoorTerm5
import Derived.Test.YtchcnfokhagpkaaDoorTW
namespace Go.Proofs.YtchcnfokhagpkaaDoor
open Go Go.Am
set_option maxRecDepth 100000
theorem agg22 : aggB Tryd.prog 22 = false := by kernel_rfl
theorem hC_termAdds : ∀ l : List V, VArgs Tryd.prog 10 Tryd.f3.params.toList l → C Tryd.prog G0 0 3 l ⟨0, []⟩ fun v _ => v = .bool true := by
  intro l hl
  rw [params3] at hl
  obtain ⟨c, r, rfl, hc, rfl⟩ := hl
  obtain ⟨ds, rfl, hd⟩ := nodes_of (n := 7) hc
  rw [agg22]
  exact c_TermAdds tab_ok F0 (c_works tab_ok) ds false fun d h => ⟨(hd d h).1, (hd d h).2.1⟩
end Go.Proofs.YtchcnfokhagpkaaDoor
