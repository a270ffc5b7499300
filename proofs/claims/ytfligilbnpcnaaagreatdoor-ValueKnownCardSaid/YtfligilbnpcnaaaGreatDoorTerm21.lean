/- Two graphs at once. -/
import Derived.Test.YtfligilbnpcnaaaGreatDoorTerm20
namespace Go.Proofs.YtfligilbnpcnaaaGreatDoor
open Go Go.Am
set_option maxRecDepth 100000
set_option maxHeartbeats 1000000
variable {P : Program} {G : Nat → Option V}

/-- The document's graph behind the program's. -/
def mK (w0 w1 : Nat) (L : List Nd) (ex : List (Option Ob)) : List (Option Ob) := some (.arr w0 61 [.sl 6 w1 0 6 L.length none]) :: some (.arr w1 66 (ndC L)) :: ex

theorem ren_nl {r : Nat → Nat} {v : V} (h : nameless v = true) : V.ren r v = v := V.ren_under (k := 0) (by omega) v (under_nameless 0 h)
theorem renL_nl {r : Nat → Nat} {l : List V} (h : namelessL l = true) : renL r l = l := renL_under (k := 0) (by omega) l (underL_nameless l h)

theorem m_readK {fmt : Int → List UInt8} {f : Nat} {args : List V} {r : V} {v0 v1 v2 v3 v4 w0 w1 t base : Nat} {L : List Nd} {ex : List (Option Ob)} (h : C P G 2 f (.ptr 0 w0 0 :: args) ⟨t, mH w0 w1 L⟩ fun v σ => v = r ∧ ∃ t', t ≤ t' ∧ σ = ⟨t', mH w0 w1 L⟩) (ha : namelessL args = true) (hr : nameless r = true) :
    C P G base f (.ptr 5 w0 0 :: args) ⟨t, kG fmt v0 v1 v2 v3 v4 L ++ mK w0 w1 L ex⟩ fun v σ => v = r ∧ ∃ t', t ≤ t' ∧ σ = ⟨t', kG fmt v0 v1 v2 v3 v4 L ++ mK w0 w1 L ex⟩ := by
  have hlen : (kG fmt v0 v1 v2 v3 v4 L ++ mK w0 w1 L ex).length = 7 + ex.length := by rw [kG_len]; simp [mK]; omega
  refine C_readS (oS := mH w0 w1 L) [5, 6] h rfl (by decide) ⟨by omega, by omega, trivial⟩ (fun j x hx => ?_) (by simp [underL, V.under, mH, underL_nameless _ ha]) ?_ (ren_nl hr).symm
  · match j, hx with
    | 0, hx =>
      cases hx
      refine ⟨_, rfl, by simp [Ob.under, underL, V.under, mH], ?_⟩
      have h0 : rOf [5, 6] (kG fmt v0 v1 v2 v3 v4 L ++ mK w0 w1 L ex).length 0 = 5 := rfl
      have h1 : rOf [5, 6] (kG fmt v0 v1 v2 v3 v4 L ++ mK w0 w1 L ex).length 1 = 6 := rfl
      rw [h0]
      simp only [Ob.ren, renL, V.ren, h1]
      rfl
    | 1, hx =>
      cases hx
      refine ⟨_, rfl, by simp [Ob.under, underL_nameless _ (ndC_nameless L)], ?_⟩
      have h1 : rOf [5, 6] (kG fmt v0 v1 v2 v3 v4 L ++ mK w0 w1 L ex).length 1 = 6 := rfl
      rw [h1]
      simp only [Ob.ren, renL_nl (ndC_nameless L)]
      rfl
    | j + 2, hx => simp [mH] at hx
  · have h0 : rOf [5, 6] (kG fmt v0 v1 v2 v3 v4 L ++ mK w0 w1 L ex).length 0 = 5 := rfl
    simp only [renL, V.ren, h0, renL_nl ha]

end Go.Proofs.YtfligilbnpcnaaaGreatDoor

