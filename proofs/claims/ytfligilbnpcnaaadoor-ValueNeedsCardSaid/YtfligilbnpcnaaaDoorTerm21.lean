/- Two graphs at once. -/
import Derived.Test.YtfligilbnpcnaaaDoorTerm20
namespace Go.Proofs.YtfligilbnpcnaaaDoor
open Go Go.Am
set_option maxRecDepth 100000
set_option maxHeartbeats 1000000
variable {P : Program} {G : Nat → Option V}

/-- The document's graph behind the program's. -/
def mK (w0 w1 : Nat) (L : List Nd) (ex : List (Option Ob)) : List (Option Ob) := some (.arr w0 65 [.sl 6 w1 0 6 L.length none]) :: some (.arr w1 62 (ndC L)) :: ex

theorem ren_nl {r : Nat → Nat} {v : V} (h : nameless v = true) : V.ren r v = v := V.ren_under (k := 0) (by omega) v (under_nameless 0 h)
theorem renL_nl {r : Nat → Nat} {l : List V} (h : namelessL l = true) : renL r l = l := renL_under (k := 0) (by omega) l (underL_nameless l h)

theorem m_readK {fmt : Int → List UInt8} {f : Nat} {args : List V} {r : V} {v0 v1 v2 v3 v4 w0 w1 t base : Nat} {L : List Nd} {ex : List (Option Ob)} (h : C P G 2 f (.ptr 0 w0 0 :: args) ⟨t, mH w0 w1 L⟩ fun v σ => v = r ∧ ∃ t', t ≤ t' ∧ σ = ⟨t', mH w0 w1 L⟩) (ha : namelessL args = true) (hr : nameless r = true) :
    C P G base f (.ptr 5 w0 0 :: args) ⟨t, kG fmt v0 v1 v2 v3 v4 L ++ mK w0 w1 L ex⟩ fun v σ => v = r ∧ ∃ t', t ≤ t' ∧ σ = ⟨t', kG fmt v0 v1 v2 v3 v4 L ++ mK w0 w1 L ex⟩ := by
  have hlen : (kG fmt v0 v1 v2 v3 v4 L ++ mK w0 w1 L ex).length = 7 + ex.length := by rw [kG_len]; simp [mK]; omega
  refine C_readS (oS := mH w0 w1 L) [5, 6] h rfl (by decide) ⟨by omega, by omega, trivial⟩ (fun j x hx => ?_) (by simp [underL, V.under, mH, underL_nameless _ ha]) ?_ (ren_nl hr).symm
  · match j, hx with
    | 0, hx =>
      cases hx
      refine ⟨_, rfl, by simp [Ob.under, underL, V.under, mH], ?_⟩
      have h0 : rOf [5, 6] (kG fmt v0 v1 v2 v3 v4 L ++ mK w0 w1 L ex).length 0 = 5 := rfl
      have h1 : rOf [5, 6] (kG fmt v0 v1 v2 v3 v4 L ++ mK w0 w1 L ex).length 1 = 6 := rfl
      rw [h0]
      simp only [Ob.ren, renL, V.ren, h1]
      rfl
    | 1, hx =>
      cases hx
      refine ⟨_, rfl, by simp [Ob.under, underL_nameless _ (ndC_nameless L)], ?_⟩
      have h1 : rOf [5, 6] (kG fmt v0 v1 v2 v3 v4 L ++ mK w0 w1 L ex).length 1 = 6 := rfl
      rw [h1]
      simp only [Ob.ren, renL_nl (ndC_nameless L)]
      rfl
    | j + 2, hx => simp [mH] at hx
  · have h0 : rOf [5, 6] (kG fmt v0 v1 v2 v3 v4 L ++ mK w0 w1 L ex).length 0 = 5 := rfl
    simp only [renL, V.ren, h0, renL_nl ha]

theorem r_UsesK (hT : TabOk P tab) {fmt : Int → List UInt8} {v0 v1 v2 v3 v4 w0 w1 wr t base : Nat} {L : List Nd} {roots : List Int} {ex : List (Option Ob)} (hL : L.length ≤ 1000) (hok : okN L) (hrl : roots.length ≤ 1000) :
   C P G base n_proofmarkref02_Graph_Uses [.ptr 5 w0 0, .sl 7 wr 0 1 roots.length none] ⟨t, kG fmt v0 v1 v2 v3 v4 L ++ mK w0 w1 L (some (.arr wr 3 (roots.map (V.int .i64))) :: ex)⟩ fun v σ => v = .lst 1 ((usesL L roots).map (V.int .i64)) false ∧ ∃ t', t ≤ t' ∧ σ = ⟨t', kG fmt v0 v1 v2 v3 v4 L ++ mK w0 w1 L (some (.arr wr 3 (roots.map (V.int .i64))) :: ex)⟩ := by
  have hlen : (kG fmt v0 v1 v2 v3 v4 L ++ mK w0 w1 L (some (.arr wr 3 (roots.map (V.int .i64))) :: ex)).length = 8 + ex.length := by rw [kG_len]; simp [mK]; omega
  refine C_readS (oS := mH w0 w1 L ++ [some (.arr wr 3 (roots.map (V.int .i64)))]) (argsS := [.ptr 0 w0 0, .sl 2 wr 0 1 roots.length none]) (r := .lst 1 ((usesL L roots).map (V.int .i64)) false) [5, 6, 7] (r_Uses hT hL hok hrl) rfl (by decide) ⟨by omega, by omega, by omega, trivial⟩ (fun j x hx => ?_) (by simp [underL, V.under, mH]) ?_ (ren_nl rfl).symm
  · match j, hx with
    | 0, hx =>
      cases hx
      refine ⟨_, rfl, by simp [Ob.under, underL, V.under, mH], ?_⟩
      have h0 : rOf [5, 6, 7] (kG fmt v0 v1 v2 v3 v4 L ++ mK w0 w1 L (some (.arr wr 3 (roots.map (V.int .i64))) :: ex)).length 0 = 5 := rfl
      have h1 : rOf [5, 6, 7] (kG fmt v0 v1 v2 v3 v4 L ++ mK w0 w1 L (some (.arr wr 3 (roots.map (V.int .i64))) :: ex)).length 1 = 6 := rfl
      rw [h0]
      simp only [Ob.ren, renL, V.ren, h1]
      rfl
    | 1, hx =>
      cases hx
      refine ⟨_, rfl, by simp [Ob.under, underL_nameless _ (ndC_nameless L)], ?_⟩
      have h1 : rOf [5, 6, 7] (kG fmt v0 v1 v2 v3 v4 L ++ mK w0 w1 L (some (.arr wr 3 (roots.map (V.int .i64))) :: ex)).length 1 = 6 := rfl
      rw [h1]
      simp only [Ob.ren, renL_nl (ndC_nameless L)]
      rfl
    | 2, hx =>
      cases hx
      refine ⟨_, rfl, by simp [Ob.under, underL_nameless _ (ints_nameless roots)], ?_⟩
      have h1 : rOf [5, 6, 7] (kG fmt v0 v1 v2 v3 v4 L ++ mK w0 w1 L (some (.arr wr 3 (roots.map (V.int .i64))) :: ex)).length 2 = 7 := rfl
      rw [h1]
      simp only [Ob.ren, renL_nl (ints_nameless roots)]
      rfl
    | j + 3, hx => simp [mH] at hx
  · have h0 : rOf [5, 6, 7] (kG fmt v0 v1 v2 v3 v4 L ++ mK w0 w1 L (some (.arr wr 3 (roots.map (V.int .i64))) :: ex)).length 0 = 5 := rfl
    have h2 : rOf [5, 6, 7] (kG fmt v0 v1 v2 v3 v4 L ++ mK w0 w1 L (some (.arr wr 3 (roots.map (V.int .i64))) :: ex)).length 2 = 7 := rfl
    simp only [renL, V.ren, h0, h2]

theorem callPlain (hT : TabOk P tab) {n : Nat} {Q : AE → Fr → H → Prop} {t : AT} {dd : Option Nat} {dead : List Nat} {s : List KI} {fr : Fr} {fmt : Int → List UInt8} {v0 v1 v2 v3 v4 c : Nat} {L : List Nd} (hL : L.length ≤ 1000) (fuel : Nat)
    (k : ∀ w0 w1 c', c ≤ c' → run P G n 0 Q fuel (.at t dead :: s) .nrm (fput fr dd (.ptr 5 w0 0)) ⟨c', kG fmt v0 v1 v2 v3 v4 L ++ mK w0 w1 L []⟩) :
    CV P G 0 (.fn (.func n_proofmarkkit_Plain) [] []) [.ptr 1 v0 0] ⟨c, kG fmt v0 v1 v2 v3 v4 L ++ []⟩ (kC P G n 0 Q dd t dead s fr) := by
  rw [List.append_nil]
  exact call hT t_proofmarkkit_Plain (c_PlainG hT hL) fuel fun v σ hv => by
    obtain ⟨w0, w1, c', h1, h2, h3⟩ := hv
    rw [h2, h3]
    exact k w0 w1 c' h1

theorem mK_len {w0 w1 : Nat} {L : List Nd} {ex : List (Option Ob)} : (mK w0 w1 L ex).length = 2 + ex.length := by simp [mK]; omega
theorem mK_app {w0 w1 : Nat} {L : List Nd} {ex y : List (Option Ob)} : mK w0 w1 L ex ++ y = mK w0 w1 L (ex ++ y) := rfl
theorem mK_7 {fmt : Int → List UInt8} {v0 v1 v2 v3 v4 w0 w1 : Nat} {L : List Nd} {x : Option Ob} {ex : List (Option Ob)} : (kG fmt v0 v1 v2 v3 v4 L ++ mK w0 w1 L (x :: ex))[7]? = some x := rfl
theorem mKs_7 {fmt : Int → List UInt8} {v0 v1 v2 v3 v4 w0 w1 : Nat} {L : List Nd} {x y : Option Ob} {ex : List (Option Ob)} : (kG fmt v0 v1 v2 v3 v4 L ++ mK w0 w1 L (x :: ex)).set 7 y = kG fmt v0 v1 v2 v3 v4 L ++ mK w0 w1 L (y :: ex) := rfl

end Go.Proofs.YtfligilbnpcnaaaDoor
