/- What terms need: the document's. -/
import Derived.Test.YtfligilbnpcnaaaGreatDoorV1
namespace Go.Proofs.YtfligilbnpcnaaaGreatDoor
open Go Go.Am
set_option maxRecDepth 100000
set_option maxHeartbeats 1000000
variable {P : Program} {G : Nat → Option V}

theorem mH_4 {w0 w1 : Nat} {L : List Nd} {x y z : Option Ob} {ex : List (Option Ob)} : (mH w0 w1 L ++ x :: y :: z :: ex)[4]? = some z := rfl
theorem mHs_4 {w0 w1 : Nat} {L : List Nd} {x y z u : Option Ob} {ex : List (Option Ob)} : (mH w0 w1 L ++ x :: y :: z :: ex).set 4 u = mH w0 w1 L ++ x :: y :: u :: ex := rfl
end Go.Proofs.YtfligilbnpcnaaaGreatDoor

