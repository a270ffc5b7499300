/- The law ValueNeeded: a round of its loop. -/
import Derived.Test.YtfligilbnpcnaaaDoorWo15
namespace Go.Proofs.YtfligilbnpcnaaaDoor
open Go Go.Am
set_option maxRecDepth 100000
set_option maxHeartbeats 1000000
variable {P : Program} {G : Nat → Option V}

theorem kfrzG {fmt : Int → List UInt8} {v0 v1 v2 v3 v4 w : Nat} {cs : List V} {L : List Nd} {k : Nat} (hk : 5 ≤ k) {ex : List (Option Ob)} : mapFrom (frzV k w cs) 0 (kG fmt v0 v1 v2 v3 v4 L ++ ex) = kG fmt v0 v1 v2 v3 v4 L ++ mapFrom (frzV k w cs) 0 ex := by
  have h0 : ¬ 0 = k := by omega
  have h2 : ¬ 2 = k := by omega
  have h3 : ¬ 3 = k := by omega
  have h4 : ¬ 4 = k := by omega
  simp only [kG, List.cons_append, List.nil_append, mapFrom, Option.map_some, Ob.mapV, kfrz_ents, frzV_int (ndC_int L), List.map_map, List.map_cons, List.map_nil, frzV, h2, h3, h4, false_and, if_false]
  simp [frzV, Function.comp_def]
theorem z_Size (hT : TabOk P tab) {base : Nat} {fmt : Int → List UInt8} {v0 v1 v2 v3 v4 t : Nat} {L : List Nd} :
   C P G base n_term_Graph_Size [.ptr 1 v0 0] ⟨t, kG fmt v0 v1 v2 v3 v4 L⟩ fun v σ => v = .int .i64 L.length ∧ ∃ t', t ≤ t' ∧ σ = ⟨t', kG fmt v0 v1 v2 v3 v4 L⟩ := by
  have h := k_Size (P := P) (G := G) hT (base := base) (fmt := fmt) (v0 := v0) (v1 := v1) (v2 := v2) (v3 := v3) (v4 := v4) (t := t) (L := L) (ex := [])
  simpa only [List.append_nil] using h
theorem z_Needs (hT : TabOk P tab) (SO : SortOk P) (SI : SortF P n_slices_Sort_int64_int64) {base : Nat} {fmt : Int → List UInt8} {v0 v1 v2 v3 v4 t : Nat} {L : List Nd} (hL : L.length ≤ 1000000) (hwf : gwf L) (ids : List Int) (tight : Bool) (hrl : ids.length ≤ 1000000) :
    C P G base n_value_Needs [.ptr 1 v0 0, .lst 1 (ids.map (V.int .i64)) tight] ⟨t, kG fmt v0 v1 v2 v3 v4 L⟩ fun v σ => v = .tup [.lst 1 (nints (symS L (usesL L ids))) false, .lst 1 (nints (cellS L (usesL L ids))) false] ∧ ∃ t', t ≤ t' ∧ σ = ⟨t', kG fmt v0 v1 v2 v3 v4 L⟩ := by
  have h := k_Needs (P := P) (G := G) hT SO SI (base := base) (fmt := fmt) (v0 := v0) (v1 := v1) (v2 := v2) (v3 := v3) (v4 := v4) (t := t) (L := L) (ex := []) hL hwf ids 1 tight (.inl rfl) hrl
  simpa only [List.append_nil] using h
theorem z_Of (hT : TabOk P tab) (SO : SortOk P) {base : Nat} {fmt : Int → List UInt8} {v0 v1 v2 v3 v4 t : Nat} {L : List Nd} (hL : L.length ≤ 1000000) (hok : okN L) (S : List Int) (hS : ∀ x ∈ S, i64 x) (tS : Bool) (C' : List Cl) (hC : C'.length ≤ 1000000) (hCn : ∀ c ∈ C', i64 c.n) (tC : Bool) (x : Int) :
    C P G base n_value_Of [.ptr 1 v0 0, envV S tS 4 C' tC, .int .i64 x] ⟨t, kG fmt v0 v1 v2 v3 v4 L⟩ fun v σ => v = ofV S C' L x ∧ ∃ t', t ≤ t' ∧ σ = ⟨t', kG fmt v0 v1 v2 v3 v4 L⟩ := by
  have h := k_Of (P := P) (G := G) hT SO (base := base) (fmt := fmt) (v0 := v0) (v1 := v1) (v2 := v2) (v3 := v3) (v4 := v4) (t := t) (L := L) (ex := []) hL hok S hS tS C' hC hCn tC x
  simpa only [List.append_nil] using h
theorem fz_lst {k w z : Nat} {cs l : List V} {b : Bool} : frzV k w cs (.lst z l b) = .lst z l b := rfl
theorem fz_bool {k w : Nat} {cs : List V} {b : Bool} : frzV k w cs (.bool b) = .bool b := rfl
theorem fz_ref {k w o : Nat} {cs : List V} {x : V} : frzV k w cs (.ref x o) = .ref x o := rfl
theorem fz_ptr {k w n v o : Nat} {cs : List V} (h : n ≠ k) : frzV k w cs (.ptr n v o) = .ptr n v o := by simp [frzV, h]
end Go.Proofs.YtfligilbnpcnaaaDoor

