/- The law TermAdds: both graphs side by side. -/
import Derived.Test.YtchcnfokhagpkaaDoorTerm3
namespace Go.Proofs.YtchcnfokhagpkaaDoor
open Go Go.Am
set_option maxRecDepth 100000
variable {P : Program} {G : Nat → Option V}

/-- The heap of both. -/
def bH (v0 v1 v2 v3 v4 w0 w1 : Nat) (L : List Nd) (D N : List Int) (M : List Nd) : List (Option Ob) :=
  [some (.map v1 (ents 0 L)), some (.arr v0 60 [.sl 2 v2 0 6 L.length none, .mp 0 v1, .sl 3 v3 0 1 L.length none, .sl 4 v4 0 1 L.length none]), some (.arr v2 34 (ndC L)), some (.arr v3 3 (D.map (V.int .i64))), some (.arr v4 3 (N.map (V.int .i64))),
   some (.arr w0 29 [.sl 6 w1 0 6 M.length none]), some (.arr w1 37 (ndC M))]

theorem ren_ents (r : Nat → Nat) : ∀ (k : Nat) (L : List Nd), (ents k L).map (fun p => (p.1, V.ren r p.2)) = ents k L
  | _, [] => rfl
  | k, d :: l => by simp only [ents, List.map_cons, ren_ents r (k + 1) l]; rw [V.ren_nameless _ rfl]
theorem ren_ndC (r : Nat → Nat) (L : List Nd) : renL r (ndC L) = ndC L := renL_nameless _ (ndC_nameless L)
theorem ren_ints (r : Nat → Nat) (L : List Int) : renL r (L.map (V.int .i64)) = L.map (V.int .i64) := renL_nameless _ (ints_nameless L)
theorem under_ndC (k : Nat) (L : List Nd) : underL k (ndC L) = true := underL_nameless _ (ndC_nameless L)
theorem under_ints (k : Nat) (L : List Int) : underL k (L.map (V.int .i64)) = true := underL_nameless _ (ints_nameless L)

theorem b_Add (hT : TabOk P tab) (F : Fmt P G) {v0 v1 v2 v3 v4 w0 w1 t : Nat} {L M : List Nd} {D N : List Int} (d : Nd) (hL : L.length ≤ 1000000) (hD : D.length = L.length) (hN : N.length = L.length) (hn : i64 d.n) (ha : i64 d.a) :
   C P G 0 n_term_Graph_Add [.ptr 1 v0 0, .agg d.cells] ⟨t, bH v0 v1 v2 v3 v4 w0 w1 L D N M⟩ fun v σ => v = .int .i64 (addN L d).1 ∧ ∃ t' v2' v3' v4' D' N', t ≤ t' ∧ σ = ⟨t', bH v0 v1 v2' v3' v4' w0 w1 (addN L d).2 D' N' M⟩ ∧ D'.length = (addN L d).2.length ∧ N'.length = (addN L d).2.length := by
  refine C_small [1, 0, 2, 3, 4] (c_Add hT F (v0 := v0) (v1 := v1) (v2 := v2) (v3 := v3) (v4 := v4) (D := D) (N := N) d hL hD hN hn ha) rfl (by decide) ?_ ?_ ?_ (Nat.zero_le _) rfl ?_ fun v σ hv => ?_
  · simp [ltAll, bH]
  · simp [holdL, gH, gS, bH, Ob.under, underL, V.under, Ob.ren, renL, V.ren, rOf, ren_ents, ren_ndC, ren_ints, under_ndC, under_ints, -List.all_eq_true, ents_under]
  · simp [bndL]
  · simp [renL, V.ren, rOf, bH, Nd.cells]
  · obtain ⟨rfl, t', v2', v3', v4', D', N', h1, rfl, h2, h3⟩ := hv
    refine ⟨by simp [gH], by simp [V.ren], t', v2', v3', v4', D', N', h1, ?_, h2, h3⟩
    simp [merged, setAll, gH, gS, bH, Ob.ren, renL, V.ren, rOf, ren_ents, ren_ndC, ren_ints]

theorem b_rAdd (hT : TabOk P tab) {v0 v1 v2 v3 v4 w0 w1 t : Nat} {L M : List Nd} {D N : List Int} (d : Nd) (hL : M.length ≤ 1000000) :
   C P G 0 n_proofmarkref02_Graph_Add [.ptr 5 w0 0, .agg d.cells] ⟨t, bH v0 v1 v2 v3 v4 w0 w1 L D N M⟩ fun v σ => v = .int .i64 (addN M d).1 ∧ ∃ t' w1', t ≤ t' ∧ σ = ⟨t', bH v0 v1 v2 v3 v4 w0 w1' L D N (addN M d).2⟩ := by
  refine C_small [5, 6] (c_rAdd hT (v0 := w0) (v1 := w1) (L := M) d hL) rfl (by decide) ?_ ?_ ?_ (Nat.zero_le _) rfl ?_ fun v σ hv => ?_
  · simp [ltAll, bH]
  · simp [holdL, mH, mS, bH, Ob.under, underL, V.under, Ob.ren, renL, V.ren, rOf, ren_ndC, under_ndC]
  · simp [bndL]
  · simp [renL, V.ren, rOf, bH, Nd.cells]
  · obtain ⟨rfl, t', w1', h1, rfl⟩ := hv
    refine ⟨by simp [mH], by simp [V.ren], t', w1', h1, ?_⟩
    simp [merged, setAll, mH, mS, bH, Ob.ren, renL, V.ren, rOf, ren_ndC]

theorem b_Node (hT : TabOk P tab) {base : Nat} {v0 v1 v2 v3 v4 w0 w1 t : Nat} {L M : List Nd} {D N : List Int} {id : Int} (hb : base = 0) :
   C P G base n_term_Graph_Node [.ptr 1 v0 0, .int .i64 id] ⟨t, bH v0 v1 v2 v3 v4 w0 w1 L D N M⟩ fun v σ => v = (if 0 ≤ id ∧ id < L.length then .tup [.agg (L.getD id.toNat zeroNd).cells, .bool true] else .tup [.agg zeroNd.cells, .bool false]) ∧ ∃ t', t ≤ t' ∧ σ = ⟨t', bH v0 v1 v2 v3 v4 w0 w1 L D N M⟩ := by
  subst hb
  refine C_small [1, 0, 2, 3, 4] (c_Node hT (base := 0) (v0 := v0) (v1 := v1) (v2 := v2) (v3 := v3) (v4 := v4) (L := L) (D := D) (N := N) (id := id) (Nat.zero_le _)) rfl (by decide) ?_ ?_ ?_ (Nat.zero_le _) rfl ?_ fun v σ hv => ?_
  · simp [ltAll, bH]
  · simp [holdL, gH, gS, bH, Ob.under, underL, V.under, Ob.ren, renL, V.ren, rOf, ren_ents, ren_ndC, ren_ints, under_ndC, under_ints, -List.all_eq_true, ents_under]
  · simp [bndL]
  · simp [renL, V.ren, rOf]
  · obtain ⟨rfl, t', h1, rfl⟩ := hv
    refine ⟨by simp [gH], ?_, t', h1, ?_⟩
    · split <;> simp [V.ren, renL, Nd.cells]
    · simp [merged, setAll, gH, gS, bH, Ob.ren, renL, V.ren, rOf, ren_ents, ren_ndC, ren_ints]
end Go.Proofs.YtchcnfokhagpkaaDoor
