/- The document's graph: how deep, what is reached, texts. -/
import Derived.Test.YtfligilbnpcnaaaDoorTerm10
import Derived.Test.YtfligilbnpcnaaaDoorAmD
namespace Go.Proofs.YtfligilbnpcnaaaDoor
open Go Go.Am
set_option maxRecDepth 100000
set_option maxHeartbeats 1000000
variable {P : Program} {G : Nat → Option V}

theorem under_nameless (k : Nat) {v : V} (h : nameless v = true) : V.under k v = true := by
  have := underL_nameless (k := k) [v] (by simp [namelessL, h])
  simpa [underL] using this

end Go.Proofs.YtfligilbnpcnaaaDoor

