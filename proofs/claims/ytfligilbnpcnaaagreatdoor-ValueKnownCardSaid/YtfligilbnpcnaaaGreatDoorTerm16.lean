/- The document's graph: how deep, what is reached, texts. -/
import Derived.Test.YtfligilbnpcnaaaGreatDoorTerm10
import Derived.Test.YtfligilbnpcnaaaGreatDoorAmD
namespace Go.Proofs.YtfligilbnpcnaaaGreatDoor
open Go Go.Am
set_option maxRecDepth 100000
set_option maxHeartbeats 1000000
variable {P : Program} {G : Nat → Option V}

theorem mH_0 {w0 w1 : Nat} {L : List Nd} {ex : List (Option Ob)} : (mH w0 w1 L ++ ex)[0]? = some (some (.arr w0 61 [.sl 1 w1 0 6 L.length none])) := rfl
theorem mH_1 {w0 w1 : Nat} {L : List Nd} {ex : List (Option Ob)} : (mH w0 w1 L ++ ex)[1]? = some (some (.arr w1 66 (ndC L))) := rfl
theorem mH_2 {w0 w1 : Nat} {L : List Nd} {x : Option Ob} {ex : List (Option Ob)} : (mH w0 w1 L ++ x :: ex)[2]? = some x := rfl
theorem mHs_2 {w0 w1 : Nat} {L : List Nd} {x y : Option Ob} {ex : List (Option Ob)} : (mH w0 w1 L ++ x :: ex).set 2 y = mH w0 w1 L ++ y :: ex := rfl
theorem mH_len {w0 w1 : Nat} {L : List Nd} {ex : List (Option Ob)} : (mH w0 w1 L ++ ex).length = 2 + ex.length := by simp [mH]; omega
theorem mH0_0 {w0 w1 : Nat} {L : List Nd} : (mH w0 w1 L)[0]? = some (some (.arr w0 61 [.sl 1 w1 0 6 L.length none])) := rfl
theorem mH0_1 {w0 w1 : Nat} {L : List Nd} : (mH w0 w1 L)[1]? = some (some (.arr w1 66 (ndC L))) := rfl
theorem mH0_len {w0 w1 : Nat} {L : List Nd} : (mH w0 w1 L).length = 2 := rfl
theorem mH_app {w0 w1 : Nat} {L : List Nd} {ex y : List (Option Ob)} : (mH w0 w1 L ++ ex) ++ y = mH w0 w1 L ++ (ex ++ y) := by simp
theorem mH_take {w0 w1 : Nat} {L : List Nd} {ex : List (Option Ob)} : (mH w0 w1 L ++ ex).take 2 = mH w0 w1 L := rfl
theorem mH0_take {w0 w1 : Nat} {L : List Nd} : (mH w0 w1 L).take 2 = mH w0 w1 L := rfl
theorem mH_und (w0 w1 : Nat) (L : List Nd) : undO 2 (mH w0 w1 L) = true := by simp [mH, undO, Ob.under, underL, V.under, underL_nameless _ (ndC_nameless L)]
theorem under_nameless (k : Nat) {v : V} (h : nameless v = true) : V.under k v = true := by
  have := underL_nameless (k := k) [v] (by simp [namelessL, h])
  simpa [underL] using this

theorem m_read {f : Nat} {args : List V} {r : V} {w0 w1 t base : Nat} {L : List Nd} {ex : List (Option Ob)} (h : C P G 2 f (.ptr 0 w0 0 :: args) ⟨t, mH w0 w1 L⟩ fun v σ => v = r ∧ ∃ t', t ≤ t' ∧ σ = ⟨t', mH w0 w1 L⟩) (ha : namelessL args = true) (hr : nameless r = true) :
    C P G base f (.ptr 0 w0 0 :: args) ⟨t, mH w0 w1 L ++ ex⟩ fun v σ => v = r ∧ ∃ t', t ≤ t' ∧ σ = ⟨t', mH w0 w1 L ++ ex⟩ :=
  C_read (oS := mH w0 w1 L) h (mH_und w0 w1 L) (by simp [underL, V.under, mH, underL_nameless _ ha]) (under_nameless _ hr)

end Go.Proofs.YtfligilbnpcnaaaGreatDoor

