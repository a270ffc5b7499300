/- The values of terms: a round of the second loop of the program's All. -/
import Derived.Test.YtfligilbnpcnaaaDoorWo10
namespace Go.Proofs.YtfligilbnpcnaaaDoor
open Go Go.Am
set_option maxRecDepth 100000
set_option maxHeartbeats 1000000
variable {P : Program} {G : Nat → Option V}

/-- The row of values, as far as it is written. -/
def outs (K : List (Int × Int)) (ids : List Int) (i n : Nat) : List V := nints ((ids.take i).map fun x => (kAt K x).getD 0) ++ List.replicate (n - i) (.int .i64 0)
theorem outs_length {K : List (Int × Int)} {ids : List Int} {i n : Nat} (h : i ≤ n) (h2 : ids.length = n) : (outs K ids i n).length = n := by simp [outs, nints]; omega
theorem outs_set {K : List (Int × Int)} {ids : List Int} {i n : Nat} {x y : Int} (hx : ids[i]? = some x) (hn : ids.length = n) (hk : kAt K x = some y) : (outs K ids i n).set i (.int .i64 y) = outs K ids (i + 1) n := by
  have hlt := (List.getElem?_eq_some_iff.1 hx).1
  have h1 : (nints ((ids.take i).map fun x => (kAt K x).getD 0)).length = i := by simp [nints]; omega
  have h2 : n - i = (n - (i + 1)) + 1 := by omega
  rw [outs, outs, take_snoc2 hx, List.set_append, if_neg (by omega), h1, Nat.sub_self, h2, List.replicate_succ, List.set_cons_zero]
  simp [nints, hk]
end Go.Proofs.YtfligilbnpcnaaaDoor

