/- What the document tells of symbols and cells. -/
import Derived.Test.YtfligilbnpcnaaaGreatDoorB5
import Derived.Test.YtfligilbnpcnaaaGreatDoorWo15
namespace Go.Proofs.YtfligilbnpcnaaaGreatDoor
open Go Go.Am
set_option maxRecDepth 100000
set_option maxHeartbeats 1000000
variable {P : Program} {G : Nat → Option V}
theorem fstC_findz {p : Cl → Bool} : ∀ {C : List Cl} {i : Nat}, (fstC p C i = -1 ∧ C.find? p = none) ∨ ∃ k c, C[k]? = some c ∧ C.find? p = some c ∧ fstC p C i = ((i + k : Nat) : Int)
  | [], _ => .inl ⟨rfl, rfl⟩
  | n :: c, i => by
    unfold fstC
    rw [List.find?_cons]
    cases hp : p n with
    | true => exact .inr ⟨0, n, rfl, by simp, by simp⟩
    | false =>
      rcases fstC_findz (p := p) (C := c) (i := i + 1) with ⟨h1, h2⟩ | ⟨k, m, h1, h2, h3⟩
      · exact .inl ⟨by simpa using h1, by simpa using h2⟩
      · refine .inr ⟨k + 1, m, by simpa using h1, by simpa using h2, ?_⟩
        have e : i + 1 + k = i + (k + 1) := by omega
        rw [e] at h3
        simpa using h3
theorem cellE_findz (C : List Cl) (a w x : Int) : cellE C a w x = ((C.find? (isC a w x)).map Cl.n).getD 0 := by
  rcases fstC_findz (p := isC a w x) (C := C) (i := 0) with ⟨h1, h2⟩ | ⟨k, c, h1, h2, h3⟩
  · rw [cellE, h1, h2]; rfl
  · rw [cellE, h3, h2, if_neg (by omega)]
    simp [h1]
theorem c_rSym (hT : TabOk P tab) (S : List Int) (hS : S.length ≤ 1000000) (tS tC : Bool) (zC : Nat) (C : List Cl) (x : Int) : Pure P G n_proofmarkref03_Env_Sym [envV S tS zC C tC, .int .i64 x] fun v => v = .int .i64 (symE S x) := by
  intro t
  refine C_keep 0 (Nat.zero_le _) (C_tab hT t_proofmarkref03_Env_Sym (by simp [proofmarkref03_Env_Sym]) (W_run 1000 ?_))
  simp -implicitDefEqProofs (disch := omega) only [go_sem, ↓reduceIte, reduceCtorEq, Nat.reduceEqDiff, Nat.zero_add, proofmarkref03_Env_Sym, proofmarkref03_Env_Sym_r0, proofmarkref03_Env_Sym_r1, proofmarkref03_Env_Sym_r2, proofmarkref03_Env_Sym_r3, proofmarkref03_Env_Sym_r4, proofmarkref03_Env_Sym_r5, proofmarkref03_Env_Sym_r6, List.length_nil, List.nil_append, and_true, envV]
  refine sem_for S (fun i fr σ => (∀ j : Nat, j < i → (j : Int) ≠ x) ∧ fget fr 1 = .int .i64 x ∧ fget fr 2 = .ptr 0 t 0 ∧ fget fr 5 = .int .i64 ((i : Nat) : Int) ∧ σ = ⟨t + 1, [some (.arr t 37 [.lst 1 (nints S) tS, .lst zC (C.map Cl.v) tC])]⟩)
    (fun e fr σ => (e = .ret ∧ fget fr 4 = .int .i64 (symE S x)) ∨ (e = .ex 0 ∧ ∀ j : Nat, j < S.length → (j : Int) ≠ x)) ⟨by omega, by simp -implicitDefEqProofs (disch := omega) only [go_sem, ↓reduceIte, reduceCtorEq], by simp -implicitDefEqProofs (disch := omega) only [go_sem, ↓reduceIte, reduceCtorEq, Nat.reduceEqDiff], by simp -implicitDefEqProofs (disch := omega) only [go_sem, ↓reduceIte, reduceCtorEq, Nat.reduceEqDiff]; rfl, rfl⟩ (fun i y hy fr σ hJ => ?_) (fun i hi fr σ hJ => ?_) (fun e fr σ hE => ?_)
  · obtain ⟨hn, f1, f2, f5, rfl⟩ := hJ
    have hlt := (List.getElem?_eq_some_iff.1 hy).1
    have hg := nints_get hy
    have e2 := w_nx hlt (by omega)
    by_cases hx : (i : Int) = x
    · subst hx
      have e : symE S (i : Int) = y := by
        rw [symE, if_neg (by omega)]
        simp [List.getD_eq_getElem?_getD, hy]
      refine W_round [(1, .int .i64 ((i : Nat) : Int)), (2, .ptr 0 t 0), (5, .int .i64 ((i : Nat) : Int))] ⟨f1, f2, f5, trivial⟩ 1000 ?_
      simp -implicitDefEqProofs (disch := omega) only [go_sem, need_of, ↓reduceIte, reduceCtorEq, Nat.reduceAdd, Nat.reduceEqDiff, Nat.reduceLeDiff, Nat.zero_add, Nat.add_zero, decide_true, Nat.le_refl, beq_self_eq_true, nints_length, List.length_nil, List.length_cons, true_implies, and_true, hlt, hg, e]
    · refine W_round [(1, .int .i64 x), (2, .ptr 0 t 0), (5, .int .i64 ((i : Nat) : Int))] ⟨f1, f2, f5, trivial⟩ 1000 ?_
      simp -implicitDefEqProofs (disch := omega) only [go_sem, need_of, ↓reduceIte, reduceCtorEq, Nat.reduceAdd, Nat.reduceEqDiff, Nat.reduceLeDiff, Nat.zero_add, Nat.add_zero, decide_true, Nat.le_refl, nints_length, List.length_nil, List.length_cons, false_implies, true_implies, true_and, and_true, not_false_eq_true, hlt, hg, hx, e2]
      refine ⟨_, _, Shift.refl _ _ _ _, ?_, ?_⟩
      · intro j hj
        rcases Nat.lt_or_eq_of_le (Nat.le_of_lt_succ hj) with h | h
        · exact hn j h
        · rw [h]; exact hx
      · simp -implicitDefEqProofs (disch := omega) only [go_sem, ↓reduceIte, Nat.reduceEqDiff]
  · obtain ⟨hn, f1, f2, f5, rfl⟩ := hJ
    rw [hi] at hn
    refine W_round [(1, .int .i64 x), (2, .ptr 0 t 0), (5, .int .i64 ((i : Nat) : Int))] ⟨f1, f2, f5, trivial⟩ 1000 ?_
    simp -implicitDefEqProofs (disch := omega) only [go_sem, ↓reduceIte, reduceCtorEq, Nat.reduceAdd, Nat.reduceEqDiff, Nat.reduceLeDiff, Nat.zero_add, Nat.add_zero, decide_false, nints_length, List.length_nil, List.length_cons, true_implies, true_and, and_true, hi, Nat.lt_irrefl]
    exact hn
  · rcases hE with ⟨rfl, f4⟩ | ⟨rfl, hn⟩
    · refine run_sem 1000 ?_
      simp -implicitDefEqProofs (disch := omega) only [go_sem, Nat.zero_le, and_true, f4]
    · have e : symE S x = 0 := by
        rw [symE]
        split
        · rfl
        · rename_i h
          exact absurd (by omega) (hn x.toNat (by omega))
      refine run_sem 1000 ?_
      simp -implicitDefEqProofs (disch := omega) only [go_sem, ↓reduceIte, Nat.zero_le, and_true, e]
theorem c_rCell (hT : TabOk P tab) (S : List Int) (tS : Bool) (C' : List Cl) (hC : C'.length ≤ 1000000) (tC : Bool) (a w x : Int) : Pure P G n_proofmarkref03_Env_Cell [envV S tS 4 C' tC, .int .i64 a, .int .i64 w, .int .i64 x] fun v => v = .int .i64 (cellE C' a w x) := by
  intro t
  refine C_keep 0 (Nat.zero_le _) (C_tab hT t_proofmarkref03_Env_Cell (by simp [proofmarkref03_Env_Cell]) (W_run 1000 ?_))
  simp -implicitDefEqProofs (disch := omega) only [go_sem, ↓reduceIte, reduceCtorEq, Nat.reduceAdd, Nat.reduceEqDiff, Nat.zero_add, proofmarkref03_Env_Cell, proofmarkref03_Env_Cell_r0, proofmarkref03_Env_Cell_r1, proofmarkref03_Env_Cell_r2, proofmarkref03_Env_Cell_r3, proofmarkref03_Env_Cell_r4, proofmarkref03_Env_Cell_r5, proofmarkref03_Env_Cell_r6, proofmarkref03_Env_Cell_r7, List.length_nil, List.nil_append, and_true, envV]
  refine sem_for C' (fun i fr σ => (C'.take i).find? (isC a w x) = none ∧ fget fr 1 = .int .i64 a ∧ fget fr 2 = .int .i64 w ∧ fget fr 3 = .int .i64 x ∧ fget fr 4 = .ptr 0 t 0 ∧ fget fr 9 = .int .i64 ((i : Nat) : Int) ∧ ∃ t', σ = ⟨t', [some (.arr t 37 [.lst 1 (nints S) tS, .lst 4 (C'.map Cl.v) tC])]⟩)
    (fun e fr σ => (e = .ret ∧ fget fr 8 = .int .i64 (cellE C' a w x)) ∨ (e = .ex 0 ∧ C'.find? (isC a w x) = none)) ⟨rfl, by simp -implicitDefEqProofs (disch := omega) only [go_sem, ↓reduceIte, reduceCtorEq], by simp -implicitDefEqProofs (disch := omega) only [go_sem, ↓reduceIte, reduceCtorEq, Nat.reduceEqDiff], by simp -implicitDefEqProofs (disch := omega) only [go_sem, ↓reduceIte, reduceCtorEq, Nat.reduceEqDiff], by simp -implicitDefEqProofs (disch := omega) only [go_sem, ↓reduceIte, reduceCtorEq, Nat.reduceEqDiff], by simp -implicitDefEqProofs (disch := omega) only [go_sem, ↓reduceIte, reduceCtorEq, Nat.reduceEqDiff]; rfl, t + 1, rfl⟩ (fun i c hc fr σ hJ => ?_) (fun i hi fr σ hJ => ?_) (fun e fr σ hE => ?_)
  · obtain ⟨hn, f1, f2, f3, f4, f9, t', rfl⟩ := hJ
    have hlt := (List.getElem?_eq_some_iff.1 hc).1
    have hD := cells_get hc
    have e2 := w_nx hlt (by omega)
    have hcat : C'.find? (isC a w x) = if isC a w x c = true then some c else C'.find? (isC a w x) := by
      split
      · rename_i h
        have h1 := List.take_append_drop (i + 1) C'
        rw [take_snoc2 hc] at h1
        rw [← h1, List.find?_append, List.find?_append, hn]
        simp [h]
      · rfl
    have hnn : isC a w x c = false → (C'.take (i + 1)).find? (isC a w x) = none := fun h => by
      rw [take_snoc2 hc, List.find?_append, hn]
      simp [h]
    rw [isC] at hcat hnn
    by_cases h1 : c.arr = a
    · by_cases h2 : c.ver = w
      · by_cases h3 : c.at' = x
        · have e : cellE C' a w x = c.n := by rw [cellE_findz, hcat]; simp [h1, h2, h3]
          refine W_round [(1, .int .i64 a), (2, .int .i64 w), (3, .int .i64 x), (4, .ptr 0 t 0), (9, .int .i64 ((i : Nat) : Int))] ⟨f1, f2, f3, f4, f9, trivial⟩ 1000 ?_
          simp -implicitDefEqProofs (disch := omega) only [go_sem, need_of, ↓reduceIte, reduceCtorEq, Nat.reduceAdd, Nat.reduceEqDiff, Nat.reduceLeDiff, Nat.zero_add, Nat.add_zero, decide_true, Bool.not_false, Nat.le_refl, Nat.zero_le, beq_self_eq_true, Cl.v, List.length_map, List.length_nil, List.length_cons, List.cons_append, List.nil_append, List.take_succ_cons, List.take_zero, List.take_nil, false_implies, true_implies, and_true, hlt, hD, h1, h2, h3, e]
        · have hk := hnn (by simp [h3])
          refine W_round [(1, .int .i64 a), (2, .int .i64 w), (3, .int .i64 x), (4, .ptr 0 t 0), (9, .int .i64 ((i : Nat) : Int))] ⟨f1, f2, f3, f4, f9, trivial⟩ 1000 ?_
          simp -implicitDefEqProofs (disch := omega) only [go_sem, need_of, ↓reduceIte, reduceCtorEq, Nat.reduceAdd, Nat.reduceEqDiff, Nat.reduceLeDiff, Nat.zero_add, Nat.add_zero, decide_true, Bool.not_false, Nat.le_refl, Nat.zero_le, beq_self_eq_true, Cl.v, List.length_map, List.length_nil, List.length_cons, List.cons_append, List.nil_append, List.take_succ_cons, List.take_zero, List.take_nil, false_implies, true_implies, true_and, and_true, not_false_eq_true, hlt, hD, h1, h2, h3, e2]
          refine ⟨_, _, Shift.drop (o' := [some (.arr t 37 [.lst 1 (nints S) tS, .lst 4 (C'.map Cl.v) tC])]) (t' := t' + 1) (by simp [subObs]) (Nat.le_refl _) (Nat.zero_le _), hk, ?_⟩
          simp -implicitDefEqProofs (disch := omega) only [go_sem, ↓reduceIte, Nat.reduceEqDiff]
          exact ⟨t' + 1, rfl⟩
      · have hk := hnn (by simp [h2])
        refine W_round [(1, .int .i64 a), (2, .int .i64 w), (3, .int .i64 x), (4, .ptr 0 t 0), (9, .int .i64 ((i : Nat) : Int))] ⟨f1, f2, f3, f4, f9, trivial⟩ 1000 ?_
        simp -implicitDefEqProofs (disch := omega) only [go_sem, need_of, ↓reduceIte, reduceCtorEq, Nat.reduceAdd, Nat.reduceEqDiff, Nat.reduceLeDiff, Nat.zero_add, Nat.add_zero, decide_true, Bool.not_false, Nat.le_refl, Nat.zero_le, beq_self_eq_true, Cl.v, List.length_map, List.length_nil, List.length_cons, List.cons_append, List.nil_append, List.take_succ_cons, List.take_zero, List.take_nil, false_implies, true_implies, true_and, and_true, not_false_eq_true, hlt, hD, h1, h2, e2]
        refine ⟨_, _, Shift.drop (o' := [some (.arr t 37 [.lst 1 (nints S) tS, .lst 4 (C'.map Cl.v) tC])]) (t' := t' + 1) (by simp [subObs]) (Nat.le_refl _) (Nat.zero_le _), hk, ?_⟩
        simp -implicitDefEqProofs (disch := omega) only [go_sem, ↓reduceIte, Nat.reduceEqDiff]
        exact ⟨t' + 1, rfl⟩
    · have hk := hnn (by simp [h1])
      refine W_round [(1, .int .i64 a), (2, .int .i64 w), (3, .int .i64 x), (4, .ptr 0 t 0), (9, .int .i64 ((i : Nat) : Int))] ⟨f1, f2, f3, f4, f9, trivial⟩ 1000 ?_
      simp -implicitDefEqProofs (disch := omega) only [go_sem, need_of, ↓reduceIte, reduceCtorEq, Nat.reduceAdd, Nat.reduceEqDiff, Nat.reduceLeDiff, Nat.zero_add, Nat.add_zero, decide_true, Bool.not_false, Nat.le_refl, Nat.zero_le, Cl.v, List.length_map, List.length_nil, List.length_cons, List.cons_append, List.nil_append, List.take_succ_cons, List.take_zero, List.take_nil, false_implies, true_implies, true_and, and_true, not_false_eq_true, hlt, hD, h1, e2]
      refine ⟨_, _, Shift.drop (o' := [some (.arr t 37 [.lst 1 (nints S) tS, .lst 4 (C'.map Cl.v) tC])]) (t' := t' + 1) (by simp [subObs]) (Nat.le_refl _) (Nat.zero_le _), hk, ?_⟩
      simp -implicitDefEqProofs (disch := omega) only [go_sem, ↓reduceIte, Nat.reduceEqDiff]
      exact ⟨t' + 1, rfl⟩
  · obtain ⟨hn, f1, f2, f3, f4, f9, t', rfl⟩ := hJ
    rw [hi, List.take_length] at hn
    refine W_round [(1, .int .i64 a), (2, .int .i64 w), (3, .int .i64 x), (4, .ptr 0 t 0), (9, .int .i64 ((i : Nat) : Int))] ⟨f1, f2, f3, f4, f9, trivial⟩ 1000 ?_
    simp -implicitDefEqProofs (disch := omega) only [go_sem, ↓reduceIte, reduceCtorEq, Nat.reduceAdd, Nat.reduceEqDiff, Nat.zero_add, decide_false, Nat.le_refl, List.length_map, List.length_nil, List.length_cons, true_implies, true_and, and_true, hi, Nat.lt_irrefl]
    exact hn
  · rcases hE with ⟨rfl, f8⟩ | ⟨rfl, hn⟩
    · refine run_sem 1000 ?_
      simp -implicitDefEqProofs (disch := omega) only [go_sem, Nat.zero_le, and_true, f8]
    · have e : cellE C' a w x = 0 := by rw [cellE_findz, hn]; rfl
      refine run_sem 1000 ?_
      simp -implicitDefEqProofs (disch := omega) only [go_sem, ↓reduceIte, Nat.zero_le, and_true, e]
end Go.Proofs.YtfligilbnpcnaaaGreatDoor

