/- The document's Uses, and the graph as the document has it. -/
import Derived.Test.YtfligilbnpcnaaaDoorTerm19
namespace Go.Proofs.YtfligilbnpcnaaaDoor
open Go Go.Am
set_option maxRecDepth 100000
set_option maxHeartbeats 1000000
variable {P : Program} {G : Nat → Option V}

theorem k_NodeAt (hT : TabOk P tab) {base : Nat} {fmt : Int → List UInt8} {v0 v1 v2 v3 v4 t : Nat} {L : List Nd} {ex : List (Option Ob)} {i : Nat} {d : Nd} (hd : L[i]? = some d) :
   C P G base n_term_Graph_Node [.ptr 1 v0 0, .int .i64 i] ⟨t, kG fmt v0 v1 v2 v3 v4 L ++ ex⟩ fun v σ => v = .tup [.agg d.cells, .bool true] ∧ ∃ t', t ≤ t' ∧ σ = ⟨t', kG fmt v0 v1 v2 v3 v4 L ++ ex⟩ := by
  have := k_Node (G := G) hT (base := base) (fmt := fmt) (v0 := v0) (v1 := v1) (v2 := v2) (v3 := v3) (v4 := v4) (t := t) (L := L) (ex := ex) (id := (i : Int))
  have hi := (List.getElem?_eq_some_iff.1 hd).1
  rw [if_pos ⟨by omega, by omega⟩, show L.getD (i : Int).toNat zeroNd = d from by simp [List.getD_eq_getElem?_getD, hd]] at this
  exact this
theorem kG_len0 {fmt : Int → List UInt8} {v0 v1 v2 v3 v4 : Nat} {L : List Nd} : (kG fmt v0 v1 v2 v3 v4 L).length = 5 := rfl
end Go.Proofs.YtfligilbnpcnaaaDoor

