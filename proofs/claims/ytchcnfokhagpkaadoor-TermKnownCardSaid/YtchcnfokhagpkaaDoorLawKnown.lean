/- The law TermKnown, at no arguments. -/
import Derived.Test.YtchcnfokhagpkaaDoorLawGrows
import Derived.Test.YtchcnfokhagpkaaDoorTerm26
namespace Go.Proofs.YtchcnfokhagpkaaDoor
open Go Go.Am
set_option maxRecDepth 100000
theorem params7 : Tryd.f7.params.toList = [] := by kernel_rfl
theorem fmt_one : (F0.fmt 1).length = 1 := by
  have e : F0.fmt 1 = Lib.itoa 1 := by
    show fmt10 1 = _
    unfold fmt10
    exact if_pos ⟨by decide, by decide⟩
  rw [e]
  have : Lib.itoa 1 = Lib.decDigits 1 := rfl
  rw [this, Lib.decDigits_one (by omega)]
  rfl
theorem hC_termKnown : ∀ l : List V, VArgs Tryd.prog 10 Tryd.f7.params.toList l → C Tryd.prog G0 0 7 l ⟨0, []⟩ fun v _ => v = .bool true := by
  intro l hl
  rw [params7] at hl
  cases hl
  exact c_TermKnown tab_ok F0 numOk10 fmt_one SO0 (c_works tab_ok)
end Go.Proofs.YtchcnfokhagpkaaDoor
