/- Contracts: a new graph; the document's graph. -/
import Derived.Test.YtfligilbnpcnaaaGreatDoorTerm2
namespace Go.Proofs.YtfligilbnpcnaaaGreatDoor
open Go Go.Am
set_option maxRecDepth 100000
variable {P : Program} {G : Nat → Option V}

theorem c_has (hT : TabOk P tab) (size id : Int) : Pure P G n_proofmarkref02_has [.int .i64 size, .int .i64 id] fun v => v = .bool (decide (0 ≤ id ∧ id < size)) := by
  intro t
  refine C_tab hT t_proofmarkref02_has (by simp [proofmarkref02_has]) (W_run 1000 ?_)
  simp -implicitDefEqProofs (disch := omega) only [go_sem, ↓reduceIte, reduceCtorEq, Nat.reduceAdd, Nat.reduceEqDiff, Nat.zero_add, ge_iff_le, proofmarkref02_has, zq21_0, zq21_1]
  grind

theorem c_Plain (hT : TabOk P tab) (d : Nd) : Pure P G n_proofmarkkit_PlainNode [.agg d.cells] fun v => v = .agg d.cells := by
  intro t
  refine C_keep 0 (Nat.zero_le _) (C_tab hT t_proofmarkkit_PlainNode (by simp [proofmarkkit_PlainNode]) (W_run 1000 ?_))
  simp -implicitDefEqProofs (disch := omega) only [go_sem, ↓reduceIte, reduceCtorEq, Nat.reduceAdd, Nat.reduceEqDiff, Nat.reduceLeDiff, Nat.zero_add, Nat.add_zero, Bool.not_false, Nat.le_refl, Nat.zero_le, proofmarkkit_PlainNode, zql_0, zql_1, Nd.cells]

/-- The document's graph: its heap. -/
abbrev mS (v0 v1 : Nat) (len : Nat) : Option Ob := some (.arr v0 61 [.sl 1 v1 0 6 len none])
def mH (v0 v1 : Nat) (L : List Nd) : List (Option Ob) := [mS v0 v1 L.length, some (.arr v1 66 (ndC L))]

theorem c_New (hT : TabOk P tab) {base : Nat} {t : Nat} {o : List (Option Ob)} (hb : base ≤ o.length) :
   C P G base n_term_New [] ⟨t, o⟩ fun v σ => ∃ v0 v1 v2 v3 v4 t' i1 i2 i3 i4, t ≤ t' ∧ v = .ptr (o.length + 1) v0 0 ∧ σ = ⟨t', o ++ [some (.map v1 []), some (.arr v0 82 [.sl i2 v2 0 6 0 none, .mp i1 v1, .sl i3 v3 0 1 0 none, .sl i4 v4 0 1 0 none]), some (.arr v2 50 []), some (.arr v3 3 []), some (.arr v4 3 [])]⟩ ∧
      i1 = o.length ∧ i2 = o.length + 2 ∧ i3 = o.length + 3 ∧ i4 = o.length + 4 := by
  refine C_hshift (Q := fun v σ => v = .ptr (o.length + 1) (t + 1) 0 ∧ σ = ⟨t + 2, o ++ [some (.map t []), some (.arr (t + 1) 82 [.lst 0 [] true, .mp o.length t, .lst 0 [] true, .lst 0 [] true])]⟩) ?_ fun v σ hv => ?_
  · refine C_tab hT t_term_New (by simp [term_New]) (W_run 1000 ?_)
    simp -implicitDefEqProofs (disch := omega) only [go_sem, ↓reduceIte, reduceCtorEq, Nat.reduceAdd, Nat.reduceEqDiff, Nat.reduceLeDiff, Nat.zero_add, term_New, zqh_0, zqh_1]
    simp
  · obtain ⟨rfl, rfl⟩ := hv
    have h1 := HShift.ownAt (G := G) 6 50 (base := base) (k := o.length + 1) (v := t + 1) (T' := 82) (p := 0) (z := 0) (cs := [.lst 0 [] true, .mp o.length t, .lst 0 [] true, .lst 0 [] true]) (t := t + 2) (o := o ++ [some (.map t []), some (.arr (t + 1) 82 [.lst 0 [] true, .mp o.length t, .lst 0 [] true, .lst 0 [] true])]) (by omega) (by simp) rfl
    simp [] at h1
    have h2 := HShift.ownAt (G := G) 1 3 (base := base) (k := o.length + 1) (v := t + 1) (T' := 82) (p := 2) (z := 0) (cs := [.sl (o.length + 2) (t + 2) 0 6 0 none, .mp o.length t, .lst 0 [] true, .lst 0 [] true]) (t := t + 2 + 1) (o := o ++ [some (.map t []), some (.arr (t + 1) 82 [.sl (o.length + 2) (t + 2) 0 6 0 none, .mp o.length t, .lst 0 [] true, .lst 0 [] true]), some (.arr (t + 2) 50 [])]) (by omega) (by simp) rfl
    simp [] at h2
    have h3 := HShift.ownAt (G := G) 1 3 (base := base) (k := o.length + 1) (v := t + 1) (T' := 82) (p := 3) (z := 0) (cs := [.sl (o.length + 2) (t + 2) 0 6 0 none, .mp o.length t, .sl (o.length + 3) (t + 2 + 1) 0 1 0 none, .lst 0 [] true]) (t := t + 2 + 1 + 1) (o := o ++ [some (.map t []), some (.arr (t + 1) 82 [.sl (o.length + 2) (t + 2) 0 6 0 none, .mp o.length t, .sl (o.length + 3) (t + 2 + 1) 0 1 0 none, .lst 0 [] true]), some (.arr (t + 2) 50 []), some (.arr (t + 2 + 1) 3 [])]) (by omega) (by simp) rfl
    simp [] at h3
    exact ⟨_, (h1.trans h2).trans h3, t + 1, t, t + 2, t + 2 + 1, t + 2 + 1 + 1, t + 2 + 1 + 1 + 1, o.length, o.length + 2, o.length + 3, o.length + 4, by omega, rfl, rfl, rfl, rfl, rfl, rfl⟩

end Go.Proofs.YtfligilbnpcnaaaGreatDoor

