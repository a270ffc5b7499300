/- Contracts: an answer is the same as itself. -/
import Derived.Test.YtpepmhmgfpkdmaaSq3
namespace Go.Proofs.Ytpepmhmgfpkdmaa
open Go Go.Am Go.Cl Go.Sat
set_option maxRecDepth 100000
variable {P : Program} {G : Nat → Option V}

def ansC (k : Int) (z1 : Nat) (m : List Bool) (t1 : Bool) (z2 : Nat) (p : List (List Int)) (t2 : Bool) (u : Int) : List V := [.int .u8 k, .lst z1 (bls m) t1, .lst z2 (p.map row) t2, .int .i64 u]
end Go.Proofs.Ytpepmhmgfpkdmaa

