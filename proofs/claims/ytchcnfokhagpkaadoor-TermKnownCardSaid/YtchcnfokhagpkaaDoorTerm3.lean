/- Contracts: a new graph; the document's graph. -/
import Derived.Test.YtchcnfokhagpkaaDoorTerm2
namespace Go.Proofs.YtchcnfokhagpkaaDoor
open Go Go.Am
set_option maxRecDepth 100000
variable {P : Program} {G : Nat → Option V}

theorem c_has (hT : TabOk P tab) (size id : Int) : Pure P G n_proofmarkref02_has [.int .i64 size, .int .i64 id] fun v => v = .bool (decide (0 ≤ id ∧ id < size)) := by
  intro t
  refine C_tab hT t_proofmarkref02_has (by simp [proofmarkref02_has]) (W_run 1000 ?_)
  simp -implicitDefEqProofs (disch := omega) only [go_sem, ↓reduceIte, reduceCtorEq, Nat.reduceAdd, Nat.reduceEqDiff, Nat.zero_add, ge_iff_le, proofmarkref02_has, proofmarkref02_has_r0, proofmarkref02_has_r1]
  grind

theorem c_Plain (hT : TabOk P tab) (d : Nd) : Pure P G n_proofmarkkit_PlainNode [.agg d.cells] fun v => v = .agg d.cells := by
  intro t
  refine C_keep 0 (Nat.zero_le _) (C_tab hT t_proofmarkkit_PlainNode (by simp [proofmarkkit_PlainNode]) (W_run 1000 ?_))
  simp -implicitDefEqProofs (disch := omega) only [go_sem, ↓reduceIte, reduceCtorEq, Nat.reduceAdd, Nat.reduceEqDiff, Nat.reduceLeDiff, Nat.zero_add, Nat.add_zero, Bool.not_false, Nat.le_refl, Nat.zero_le, proofmarkkit_PlainNode, proofmarkkit_PlainNode_r0, proofmarkkit_PlainNode_r1, Nd.cells]

/-- The document's graph: its heap. -/
abbrev mS (v0 v1 : Nat) (len : Nat) : Option Ob := some (.arr v0 29 [.sl 1 v1 0 6 len none])
def mH (v0 v1 : Nat) (L : List Nd) : List (Option Ob) := [mS v0 v1 L.length, some (.arr v1 37 (ndC L))]

theorem c_May (hT : TabOk P tab) {base : Nat} {v0 v1 t : Nat} {L : List Nd} (d : Nd) (hb : base ≤ 2) :
   C P G base n_proofmarkref02_Graph_May [.ptr 0 v0 0, .agg d.cells] ⟨t, mH v0 v1 L⟩ fun v σ => v = .bool (d.may L.length) ∧ ∃ t', t ≤ t' ∧ σ = ⟨t', mH v0 v1 L⟩ := by
  refine C_keep 2 hb (C_tab hT t_proofmarkref02_Graph_May (by simp [proofmarkref02_Graph_May]) (W_run 1000 ?_))
  simp -implicitDefEqProofs (disch := omega) only [go_sem, ↓reduceIte, reduceCtorEq, Nat.reduceAdd, Nat.reduceEqDiff, Nat.reduceLeDiff, Nat.zero_add, Nat.add_zero, Nat.le_refl, proofmarkref02_Graph_May, proofmarkref02_Graph_May_r0, proofmarkref02_Graph_May_r1, proofmarkref02_Graph_May_r2, proofmarkref02_Graph_May_r3, proofmarkref02_Graph_May_r4, proofmarkref02_Graph_May_r5, proofmarkref02_Graph_May_r6, proofmarkref02_Graph_May_r7, proofmarkref02_Graph_May_r8, proofmarkref02_Graph_May_r9, proofmarkref02_Graph_May_r10, proofmarkref02_Graph_May_r11, Nd.cells, mH]
  refine callP hT t_proofmarkref02_has (c_has hT _ _) rfl 1000 fun v hv => ?_
  subst hv
  simp -implicitDefEqProofs (disch := omega) only [go_sem, ↓reduceIte, reduceCtorEq, Nat.reduceEqDiff]
  refine callP hT t_proofmarkref02_has (c_has hT _ _) rfl 1000 fun v hv => ?_
  subst hv
  simp -implicitDefEqProofs (disch := omega) only [go_sem, ↓reduceIte, reduceCtorEq, Nat.reduceAdd, Nat.reduceEqDiff, Nat.reduceLeDiff, Nat.zero_add, Nat.add_zero, Nat.le_refl, ge_iff_le, beq_self_eq_true]
  repeat' (first | with_reducible refine And.intro ?_ ?_ | with_reducible intro _)
  any_goals (first | (refine ⟨_, ?_, rfl, rfl⟩; omega) | (refine ⟨_, ?_, rfl⟩; omega))
  all_goals (simp only [V.bool.injEq, Nd.may]; grind)

theorem c_New (hT : TabOk P tab) {base : Nat} {t : Nat} {o : List (Option Ob)} (hb : base ≤ o.length) :
   C P G base n_term_New [] ⟨t, o⟩ fun v σ => ∃ v0 v1 v2 v3 v4 t' i1 i2 i3 i4, t ≤ t' ∧ v = .ptr (o.length + 1) v0 0 ∧ σ = ⟨t', o ++ [some (.map v1 []), some (.arr v0 60 [.sl i2 v2 0 6 0 none, .mp i1 v1, .sl i3 v3 0 1 0 none, .sl i4 v4 0 1 0 none]), some (.arr v2 34 []), some (.arr v3 3 []), some (.arr v4 3 [])]⟩ ∧
      i1 = o.length ∧ i2 = o.length + 2 ∧ i3 = o.length + 3 ∧ i4 = o.length + 4 := by
  refine C_hshift (Q := fun v σ => v = .ptr (o.length + 1) (t + 1) 0 ∧ σ = ⟨t + 2, o ++ [some (.map t []), some (.arr (t + 1) 60 [.lst 0 [] true, .mp o.length t, .lst 0 [] true, .lst 0 [] true])]⟩) ?_ fun v σ hv => ?_
  · refine C_tab hT t_term_New (by simp [term_New]) (W_run 1000 ?_)
    simp -implicitDefEqProofs (disch := omega) only [go_sem, ↓reduceIte, reduceCtorEq, Nat.reduceAdd, Nat.reduceEqDiff, Nat.reduceLeDiff, Nat.zero_add, term_New, term_New_r0, term_New_r1]
    simp
  · obtain ⟨rfl, rfl⟩ := hv
    have h1 := HShift.ownAt (G := G) 6 34 (base := base) (k := o.length + 1) (v := t + 1) (T' := 60) (p := 0) (z := 0) (cs := [.lst 0 [] true, .mp o.length t, .lst 0 [] true, .lst 0 [] true]) (t := t + 2) (o := o ++ [some (.map t []), some (.arr (t + 1) 60 [.lst 0 [] true, .mp o.length t, .lst 0 [] true, .lst 0 [] true])]) (by omega) (by simp) rfl
    simp [] at h1
    have h2 := HShift.ownAt (G := G) 1 3 (base := base) (k := o.length + 1) (v := t + 1) (T' := 60) (p := 2) (z := 0) (cs := [.sl (o.length + 2) (t + 2) 0 6 0 none, .mp o.length t, .lst 0 [] true, .lst 0 [] true]) (t := t + 2 + 1) (o := o ++ [some (.map t []), some (.arr (t + 1) 60 [.sl (o.length + 2) (t + 2) 0 6 0 none, .mp o.length t, .lst 0 [] true, .lst 0 [] true]), some (.arr (t + 2) 34 [])]) (by omega) (by simp) rfl
    simp [] at h2
    have h3 := HShift.ownAt (G := G) 1 3 (base := base) (k := o.length + 1) (v := t + 1) (T' := 60) (p := 3) (z := 0) (cs := [.sl (o.length + 2) (t + 2) 0 6 0 none, .mp o.length t, .sl (o.length + 3) (t + 2 + 1) 0 1 0 none, .lst 0 [] true]) (t := t + 2 + 1 + 1) (o := o ++ [some (.map t []), some (.arr (t + 1) 60 [.sl (o.length + 2) (t + 2) 0 6 0 none, .mp o.length t, .sl (o.length + 3) (t + 2 + 1) 0 1 0 none, .lst 0 [] true]), some (.arr (t + 2) 34 []), some (.arr (t + 2 + 1) 3 [])]) (by omega) (by simp) rfl
    simp [] at h3
    exact ⟨_, (h1.trans h2).trans h3, t + 1, t, t + 2, t + 2 + 1, t + 2 + 1 + 1, t + 2 + 1 + 1 + 1, o.length, o.length + 2, o.length + 3, o.length + 4, by omega, rfl, rfl, rfl, rfl, rfl, rfl⟩

theorem idx_some : ∀ {L : List Nd} {d : Nd} {i : Nat}, (∀ j, j < i → L[j]? ≠ some d) → L[i]? = some d → idx d L = some i
  | [], d, i, _, h => by simp at h
  | e :: L, d, 0, _, h => by simp at h; simp [idx, h]
  | e :: L, d, i + 1, h1, h => by
    have h0 := h1 0 (by omega)
    have ih := idx_some (L := L) (d := d) (i := i) (fun j hj => by have := h1 (j + 1) (by omega); simpa using this) (by simpa using h)
    have hne : d ≠ e := fun e' => h0 (by simp [e'])
    simp [idx, hne, ih]
theorem idx_none : ∀ {L : List Nd} {d : Nd}, (∀ j, j < L.length → L[j]? ≠ some d) → idx d L = none
  | [], d, _ => rfl
  | e :: L, d, h1 => by
    have h0 := h1 0 (by simp)
    have ih := idx_none (L := L) (d := d) (fun j hj => by have := h1 (j + 1) (by simp; omega); simpa using this)
    have hne : d ≠ e := fun e' => h0 (by simp [e'])
    simp [idx, hne, ih]

theorem c_rAdd (hT : TabOk P tab) {v0 v1 t : Nat} {L : List Nd} (d : Nd) (hL : L.length ≤ 1000000) :
   C P G 0 n_proofmarkref02_Graph_Add [.ptr 0 v0 0, .agg d.cells] ⟨t, mH v0 v1 L⟩ fun v σ => v = .int .i64 (addN L d).1 ∧ ∃ t' v1', t ≤ t' ∧ σ = ⟨t', mH v0 v1' (addN L d).2⟩ := by
  refine C_keep 2 (Nat.zero_le _) (C_tab hT t_proofmarkref02_Graph_Add (by simp [proofmarkref02_Graph_Add]) (W_run 1000 ?_))
  simp -implicitDefEqProofs (disch := omega) only [go_sem, ↓reduceIte, reduceCtorEq, Nat.reduceAdd, Nat.reduceEqDiff, Nat.zero_add, Nat.le_refl, proofmarkref02_Graph_Add, proofmarkref02_Graph_Add_r0, proofmarkref02_Graph_Add_r1, proofmarkref02_Graph_Add_r2, proofmarkref02_Graph_Add_r3, proofmarkref02_Graph_Add_r4, proofmarkref02_Graph_Add_r5, proofmarkref02_Graph_Add_r6, proofmarkref02_Graph_Add_r7, proofmarkref02_Graph_Add_r8, proofmarkref02_Graph_Add_r9, mH, Nd.cells]
  have hu : undO 2 (mH v0 v1 L) = true := by simp [mH, undO, Ob.under, underL, V.under, underL_nameless _ (ndC_nameless L)]
  refine callE (ex := _) hT t_proofmarkref02_Graph_May (c_May hT d (Nat.zero_le _)) rfl hu (Nat.zero_le _) rfl 1000 fun v σ hv => ?_
  obtain ⟨rfl, t1, ht1, rfl⟩ := hv
  refine ⟨rfl, hu, rfl, ?_⟩
  simp only at ht1
  cases hmay : d.may L.length
  · simp -implicitDefEqProofs (disch := omega) only [go_sem, ↓reduceIte, reduceCtorEq, Nat.reduceAdd, Nat.reduceEqDiff, Nat.reduceLeDiff, Nat.zero_add, Bool.not_false, mH]
    simp only [addN, hmay]
    exact ⟨rfl, _, _, by omega, ⟨rfl, rfl⟩⟩
  · simp -implicitDefEqProofs (disch := omega) only [go_sem, ↓reduceIte, reduceCtorEq, Nat.reduceEqDiff, Bool.not_true, mH]
    refine sem_inv (fun m fr σ => ∃ i : Nat, i ≤ L.length ∧ m = L.length - i ∧ (∀ j, j < i → L[j]? ≠ some d) ∧ fget fr 0 = .ptr 0 v0 0 ∧ fget fr 3 = .ptr 2 t 0 ∧ fget fr 5 = .int .i64 i ∧ σ = ⟨t1, mH v0 v1 L ++ [some (.arr t 37 d.cells)]⟩) (fun m fr σ hJ => ?_) (m0 := L.length) ⟨0, Nat.zero_le _, rfl, fun j hj => by omega, ?_⟩
    · obtain ⟨i, hi, rfl, hne, f0, f3, f5, rfl⟩ := hJ
      refine W_run 1000 ?_
      have hl := ndC_length L
      rcases Nat.lt_or_ge i L.length with hlt | hge
      · obtain ⟨e, he⟩ : ∃ e, L[i]? = some e := ⟨_, List.getElem?_eq_getElem hlt⟩
        have hc := ndC_get he
        have h6 : i * 6 + 6 ≤ (ndC L).length := by omega
        simp -implicitDefEqProofs (disch := omega) only [go_sem, need_of, ↓reduceIte, reduceCtorEq, Nat.reduceAdd, Nat.reduceEqDiff, Nat.succ_ne_zero, Nat.zero_add, Nat.add_zero, decide_true, Nat.le_refl, mH, Nd.cells, f0, f3, f5, hlt, hc, h6]
        refine ⟨fun hh => ?_, fun hh => ?_⟩
        · have hed : e = d := by cases e; cases d; simp at hh ⊢; omega
          subst hed
          have hidx := idx_some hne he
          refine run_sem 1000 ?_
          simp -implicitDefEqProofs (disch := omega) only [go_sem, ↓reduceIte, Nat.reduceAdd, Nat.reduceEqDiff, Nat.reduceLeDiff, Nat.zero_add, beq_self_eq_true]
          simp only [addN, hmay, hidx, if_true]
          exact ⟨trivial, _, _, by omega, rfl, rfl⟩
        · refine ⟨L.length - (i + 1), _, _, by omega, Shift.refl _ _ _ _, i + 1, hlt, rfl, ?_⟩
          have hed : L[i]? ≠ some d := fun h' => by rw [he] at h'; cases h'; simp at hh
          refine ⟨fun j hj h' => by
            by_cases hji : j = i
            · subst hji; exact hed h'
            · exact hne j (by omega) h', ?_⟩
          simp -implicitDefEqProofs (disch := omega) only [go_sem, ↓reduceIte, reduceCtorEq, Nat.reduceEqDiff, Nat.succ_ne_zero, f0, f3]
          have hw : IntKind.i64.wrap ((i : Int) + 1) = ((i + 1 : Nat) : Int) := by
            rw [wrap_i64 (by omega) (by omega)]; rfl
          (repeat' (first | with_reducible refine And.intro ?_ ?_ | with_reducible intro _))
          all_goals first | (rw [hw]; done) | rfl
      · simp -implicitDefEqProofs (disch := omega) only [go_sem, ↓reduceIte, Nat.reduceEqDiff, Nat.succ_ne_zero, Nat.zero_add, Nat.add_zero, decide_false, Nat.le_refl, mH, Nd.cells, f0, f5, show ¬ i < L.length from by omega]
        refine run_sem 1000 ?_
        simp -implicitDefEqProofs (disch := omega) only [go_sem, need_of, ↓reduceIte, reduceCtorEq, Nat.reduceAdd, Nat.reduceEqDiff, Nat.reduceLeDiff, Nat.succ_ne_zero, Nat.zero_add, Nat.add_zero, Bool.not_true, Bool.not_false, Nat.le_refl, Nat.zero_le, f0, f3, hl]
        have hidx := idx_none (L := L) (d := d) (fun j hj => hne j (by omega))
        have hw : IntKind.i64.wrap (((L.length + 1 : Nat) : Int) - 1) = (L.length : Int) := by
          rw [wrap_i64 (by omega) (by omega)]; omega
        simp only [addN, hmay, hidx, if_true, hw]
        exact ⟨trivial, _, t1, by omega, rfl, by simp [ndC, Nd.cells]⟩
    · simp -implicitDefEqProofs (disch := omega) only [go_sem, ↓reduceIte, reduceCtorEq, Nat.reduceEqDiff, mH, Nd.cells]
      rfl
end Go.Proofs.YtchcnfokhagpkaaDoor
