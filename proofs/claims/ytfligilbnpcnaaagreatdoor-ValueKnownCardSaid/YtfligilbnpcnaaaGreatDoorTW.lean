/- The chapter's examples. -/
import Derived.Test.YtfligilbnpcnaaaGreatDoorTabB
import Derived.Test.YtfligilbnpcnaaaGreatDoorAmD
import Derived.KernelRfl
namespace Go.Proofs.YtfligilbnpcnaaaGreatDoor
open Go Go.Am
set_option maxRecDepth 100000
variable {P : Program} {G : Nat → Option V}
theorem c_works (hT : TabOk P tab) : Pure P G n_proofmarklaw03_works [] fun v => v = .bool true :=
  run_pure hT 300 60 _ isTrue isTrue_ok rfl (by kernel_rfl)
end Go.Proofs.YtfligilbnpcnaaaGreatDoor

