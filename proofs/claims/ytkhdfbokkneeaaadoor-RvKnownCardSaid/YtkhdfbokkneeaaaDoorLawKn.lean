/- The law RvKnown, at no arguments. -/
import Derived.Test.YtkhdfbokkneeaaaDoorSeat2
import Derived.Test.YtkhdfbokkneeaaaDoorLawDec
import Derived.Test.YtkhdfbokkneeaaaDoorRtK
namespace Go.Proofs.YtkhdfbokkneeaaaDoor
open Go Go.Am Go.Rv
set_option maxRecDepth 100000
theorem paramsK : Tryd.f6.params.toList = [] := by kernel_rfl
theorem hC_rvKnown : ∀ l : List V, VArgs Tryd.prog 10 Tryd.f6.params.toList l → C Tryd.prog G0 0 6 l ⟨0, []⟩ fun v _ => v = .bool true := by
  intro l hl
  rw [paramsK] at hl
  cases hl
  exact c_RvKnown tab_ok F0 rfl fmt_2 fmt_16
end Go.Proofs.YtkhdfbokkneeaaaDoor
