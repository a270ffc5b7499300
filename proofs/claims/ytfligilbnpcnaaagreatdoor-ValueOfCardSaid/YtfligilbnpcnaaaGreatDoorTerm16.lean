/- The document's graph: how deep, what is reached, texts. -/
import Derived.Test.YtfligilbnpcnaaaGreatDoorTerm10
import Derived.Test.YtfligilbnpcnaaaGreatDoorAmD
namespace Go.Proofs.YtfligilbnpcnaaaGreatDoor
open Go Go.Am
set_option maxRecDepth 100000
set_option maxHeartbeats 1000000
variable {P : Program} {G : Nat → Option V}

theorem mH_0 {w0 w1 : Nat} {L : List Nd} {ex : List (Option Ob)} : (mH w0 w1 L ++ ex)[0]? = some (some (.arr w0 61 [.sl 1 w1 0 6 L.length none])) := rfl
theorem mH_1 {w0 w1 : Nat} {L : List Nd} {ex : List (Option Ob)} : (mH w0 w1 L ++ ex)[1]? = some (some (.arr w1 66 (ndC L))) := rfl
theorem mH_2 {w0 w1 : Nat} {L : List Nd} {x : Option Ob} {ex : List (Option Ob)} : (mH w0 w1 L ++ x :: ex)[2]? = some x := rfl
theorem mH0_len {w0 w1 : Nat} {L : List Nd} : (mH w0 w1 L).length = 2 := rfl
theorem mH_app {w0 w1 : Nat} {L : List Nd} {ex y : List (Option Ob)} : (mH w0 w1 L ++ ex) ++ y = mH w0 w1 L ++ (ex ++ y) := by simp
theorem under_nameless (k : Nat) {v : V} (h : nameless v = true) : V.under k v = true := by
  have := underL_nameless (k := k) [v] (by simp [namelessL, h])
  simpa [underL] using this

end Go.Proofs.YtfligilbnpcnaaaGreatDoor

