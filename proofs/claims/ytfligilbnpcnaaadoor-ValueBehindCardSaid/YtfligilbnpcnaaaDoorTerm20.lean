/- The document's Uses, and the graph as the document has it. -/
import Derived.Test.YtfligilbnpcnaaaDoorTerm19
namespace Go.Proofs.YtfligilbnpcnaaaDoor
open Go Go.Am
set_option maxRecDepth 100000
set_option maxHeartbeats 1000000
variable {P : Program} {G : Nat → Option V}

theorem kG_len0 {fmt : Int → List UInt8} {v0 v1 v2 v3 v4 : Nat} {L : List Nd} : (kG fmt v0 v1 v2 v3 v4 L).length = 5 := rfl
end Go.Proofs.YtfligilbnpcnaaaDoor

