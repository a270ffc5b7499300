/- The chapter's examples. -/
import Derived.Test.YtchcnfokhagpkaaDoorTabB
import Derived.Test.YtchcnfokhagpkaaDoorAmD
import Derived.KernelRfl
namespace Go.Proofs.YtchcnfokhagpkaaDoor
open Go Go.Am
set_option maxRecDepth 100000
variable {P : Program} {G : Nat → Option V}
theorem c_works (hT : TabOk P tab) : Pure P G n_proofmarklaw02_works [] fun v => v = .bool true :=
  run_pure hT 200 40 _ isTrue isTrue_ok rfl (by kernel_rfl)
end Go.Proofs.YtchcnfokhagpkaaDoor
