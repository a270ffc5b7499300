/- The law RupKnown, at no arguments. -/
import Derived.Test.YtingdebioipemaaSeat
import Derived.Test.YtingdebioipemaaJ15
namespace Go.Proofs.Ytingdebioipemaa
open Go Go.Am
set_option maxRecDepth 100000
theorem Qlh:Try.f7.params.toList=[]:=by kernel_rfl
theorem hC_rupKnown:∀ l:List V,QsF Try.prog 10 Try.f7.params.toList l→C Try.prog G0 0 7 l ⟨0,[]⟩ fun v _=>v=.bool true:=by
 intro l hl
 rw [Qlh] at hl
 cases hl
 exact (QnH tab_ok 0).conseq fun u σ h=>h.2
end Go.Proofs.Ytingdebioipemaa
