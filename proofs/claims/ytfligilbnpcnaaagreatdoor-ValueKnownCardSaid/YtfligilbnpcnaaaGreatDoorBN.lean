/- What the document tells of symbols and cells. -/
import Derived.Test.YtfligilbnpcnaaaGreatDoorB5
import Derived.Test.YtfligilbnpcnaaaGreatDoorWo15
/- What the document tells of symbols and cells. -/
namespace Go.Proofs.YtfligilbnpcnaaaGreatDoor
open Go Go.Am
set_option maxRecDepth 100000
set_option maxHeartbeats 1000000
variable {P : Program} {G : Nat → Option V}
theorem fstC_findz {p : Cl → Bool} : ∀ {C : List Cl} {i : Nat}, (fstC p C i = -1 ∧ C.find? p = none) ∨ ∃ k c, C[k]? = some c ∧ C.find? p = some c ∧ fstC p C i = ((i + k : Nat) : Int)
  | [], _ => .inl ⟨rfl, rfl⟩
  | n :: c, i => by
    unfold fstC
    rw [List.find?_cons]
    cases hp : p n with
    | true => exact .inr ⟨0, n, rfl, by simp, by simp⟩
    | false =>
      rcases fstC_findz (p := p) (C := c) (i := i + 1) with ⟨h1, h2⟩ | ⟨k, m, h1, h2, h3⟩
      · exact .inl ⟨by simpa using h1, by simpa using h2⟩
      · refine .inr ⟨k + 1, m, by simpa using h1, by simpa using h2, ?_⟩
        have e : i + 1 + k = i + (k + 1) := by omega
        rw [e] at h3
        simpa using h3
theorem cellE_findz (C : List Cl) (a w x : Int) : cellE C a w x = ((C.find? (isC a w x)).map Cl.n).getD 0 := by
  rcases fstC_findz (p := isC a w x) (C := C) (i := 0) with ⟨h1, h2⟩ | ⟨k, c, h1, h2, h3⟩
  · rw [cellE, h1, h2]; rfl
  · rw [cellE, h3, h2, if_neg (by omega)]
    simp [h1]
theorem c_rSym (hT : TabOk P tab) (S : List Int) (hS : S.length ≤ 1000000) (tS tC : Bool) (zC : Nat) (C : List Cl) (x : Int) : Pure P G n_proofmarkref03_Env_Sym [envV S tS zC C tC, .int .i64 x] fun v => v = .int .i64 (symE S x) := by
  intro t
  refine C_keep 0 (Nat.zero_le _) (C_tab hT t_proofmarkref03_Env_Sym (by simp [proofmarkref03_Env_Sym]) (W_run 1000 ?_))
  simp -implicitDefEqProofs (disch := omega) only [go_sem, ↓reduceIte, reduceCtorEq, Nat.reduceEqDiff, Nat.zero_add, proofmarkref03_Env_Sym, zq8_0, zq8_1, zq8_2, zq8_3, zq8_4, zq8_5, zq8_6, List.length_nil, List.nil_append, and_true, envV]
  refine sem_for S (fun i fr σ => (∀ j : Nat, j < i → (j : Int) ≠ x) ∧ fget fr 1 = .int .i64 x ∧ fget fr 2 = .ptr 0 t 0 ∧ fget fr 5 = .int .i64 ((i : Nat) : Int) ∧ σ = ⟨t + 1, [some (.arr t 37 [.lst 1 (nints S) tS, .lst zC (C.map Cl.v) tC])]⟩)
    (fun e fr σ => (e = .ret ∧ fget fr 4 = .int .i64 (symE S x)) ∨ (e = .ex 0 ∧ ∀ j : Nat, j < S.length → (j : Int) ≠ x)) ⟨by omega, by simp -implicitDefEqProofs (disch := omega) only [go_sem, ↓reduceIte, reduceCtorEq], by simp -implicitDefEqProofs (disch := omega) only [go_sem, ↓reduceIte, reduceCtorEq, Nat.reduceEqDiff], by simp -implicitDefEqProofs (disch := omega) only [go_sem, ↓reduceIte, reduceCtorEq, Nat.reduceEqDiff]; rfl, rfl⟩ (fun i y hy fr σ hJ => ?_) (fun i hi fr σ hJ => ?_) (fun e fr σ hE => ?_)
  · obtain ⟨hn, f1, f2, f5, rfl⟩ := hJ
    have hlt := (List.getElem?_eq_some_iff.1 hy).1
    have hg := nints_get hy
    have e2 := w_nx hlt (by omega)
    by_cases hx : (i : Int) = x
    · subst hx
      have e : symE S (i : Int) = y := by
        rw [symE, if_neg (by omega)]
        simp [List.getD_eq_getElem?_getD, hy]
      refine W_round [(1, .int .i64 ((i : Nat) : Int)), (2, .ptr 0 t 0), (5, .int .i64 ((i : Nat) : Int))] ⟨f1, f2, f5, trivial⟩ 1000 ?_
      simp -implicitDefEqProofs (disch := omega) only [go_sem, need_of, ↓reduceIte, reduceCtorEq, Nat.reduceAdd, Nat.reduceEqDiff, Nat.reduceLeDiff, Nat.zero_add, Nat.add_zero, decide_true, Nat.le_refl, beq_self_eq_true, nints_length, List.length_nil, List.length_cons, true_implies, and_true, hlt, hg, e]
    · refine W_round [(1, .int .i64 x), (2, .ptr 0 t 0), (5, .int .i64 ((i : Nat) : Int))] ⟨f1, f2, f5, trivial⟩ 1000 ?_
      simp -implicitDefEqProofs (disch := omega) only [go_sem, need_of, ↓reduceIte, reduceCtorEq, Nat.reduceAdd, Nat.reduceEqDiff, Nat.reduceLeDiff, Nat.zero_add, Nat.add_zero, decide_true, Nat.le_refl, nints_length, List.length_nil, List.length_cons, false_implies, true_implies, true_and, and_true, not_false_eq_true, hlt, hg, hx, e2]
      refine ⟨_, _, Shift.refl _ _ _ _, ?_, ?_⟩
      · intro j hj
        rcases Nat.lt_or_eq_of_le (Nat.le_of_lt_succ hj) with h | h
        · exact hn j h
        · rw [h]; exact hx
      · simp -implicitDefEqProofs (disch := omega) only [go_sem, ↓reduceIte, Nat.reduceEqDiff]
  · obtain ⟨hn, f1, f2, f5, rfl⟩ := hJ
    rw [hi] at hn
    refine W_round [(1, .int .i64 x), (2, .ptr 0 t 0), (5, .int .i64 ((i : Nat) : Int))] ⟨f1, f2, f5, trivial⟩ 1000 ?_
    simp -implicitDefEqProofs (disch := omega) only [go_sem, ↓reduceIte, reduceCtorEq, Nat.reduceAdd, Nat.reduceEqDiff, Nat.reduceLeDiff, Nat.zero_add, Nat.add_zero, decide_false, nints_length, List.length_nil, List.length_cons, true_implies, true_and, and_true, hi, Nat.lt_irrefl]
    exact hn
  · rcases hE with ⟨rfl, f4⟩ | ⟨rfl, hn⟩
    · refine run_sem 1000 ?_
      simp -implicitDefEqProofs (disch := omega) only [go_sem, Nat.zero_le, and_true, f4]
    · have e : symE S x = 0 := by
        rw [symE]
        split
        · rfl
        · rename_i h
          exact absurd (by omega) (hn x.toNat (by omega))
      refine run_sem 1000 ?_
      simp -implicitDefEqProofs (disch := omega) only [go_sem, ↓reduceIte, Nat.zero_le, and_true, e]
theorem c_rCell (hT : TabOk P tab) (S : List Int) (tS : Bool) (C' : List Cl) (hC : C'.length ≤ 1000000) (tC : Bool) (a w x : Int) : Pure P G n_proofmarkref03_Env_Cell [envV S tS 4 C' tC, .int .i64 a, .int .i64 w, .int .i64 x] fun v => v = .int .i64 (cellE C' a w x) := by
  intro t
  refine C_keep 0 (Nat.zero_le _) (C_tab hT t_proofmarkref03_Env_Cell (by simp [proofmarkref03_Env_Cell]) (W_run 1000 ?_))
  simp -implicitDefEqProofs (disch := omega) only [go_sem, ↓reduceIte, reduceCtorEq, Nat.reduceAdd, Nat.reduceEqDiff, Nat.zero_add, proofmarkref03_Env_Cell, zqa_0, zqa_1, zqa_2, zqa_3, zqa_4, zqa_5, zqa_6, zqa_7, List.length_nil, List.nil_append, and_true, envV]
  refine sem_for C' (fun i fr σ => (C'.take i).find? (isC a w x) = none ∧ fget fr 1 = .int .i64 a ∧ fget fr 2 = .int .i64 w ∧ fget fr 3 = .int .i64 x ∧ fget fr 4 = .ptr 0 t 0 ∧ fget fr 9 = .int .i64 ((i : Nat) : Int) ∧ ∃ t', σ = ⟨t', [some (.arr t 37 [.lst 1 (nints S) tS, .lst 4 (C'.map Cl.v) tC])]⟩)
    (fun e fr σ => (e = .ret ∧ fget fr 8 = .int .i64 (cellE C' a w x)) ∨ (e = .ex 0 ∧ C'.find? (isC a w x) = none)) ⟨rfl, by simp -implicitDefEqProofs (disch := omega) only [go_sem, ↓reduceIte, reduceCtorEq], by simp -implicitDefEqProofs (disch := omega) only [go_sem, ↓reduceIte, reduceCtorEq, Nat.reduceEqDiff], by simp -implicitDefEqProofs (disch := omega) only [go_sem, ↓reduceIte, reduceCtorEq, Nat.reduceEqDiff], by simp -implicitDefEqProofs (disch := omega) only [go_sem, ↓reduceIte, reduceCtorEq, Nat.reduceEqDiff], by simp -implicitDefEqProofs (disch := omega) only [go_sem, ↓reduceIte, reduceCtorEq, Nat.reduceEqDiff]; rfl, t + 1, rfl⟩ (fun i c hc fr σ hJ => ?_) (fun i hi fr σ hJ => ?_) (fun e fr σ hE => ?_)
  · obtain ⟨hn, f1, f2, f3, f4, f9, t', rfl⟩ := hJ
    have hlt := (List.getElem?_eq_some_iff.1 hc).1
    have hD := cells_get hc
    have e2 := w_nx hlt (by omega)
    have hcat : C'.find? (isC a w x) = if isC a w x c = true then some c else C'.find? (isC a w x) := by
      split
      · rename_i h
        have h1 := List.take_append_drop (i + 1) C'
        rw [take_snoc2 hc] at h1
        rw [← h1, List.find?_append, List.find?_append, hn]
        simp [h]
      · rfl
    have hnn : isC a w x c = false → (C'.take (i + 1)).find? (isC a w x) = none := fun h => by
      rw [take_snoc2 hc, List.find?_append, hn]
      simp [h]
    rw [isC] at hcat hnn
    by_cases h1 : c.arr = a
    · by_cases h2 : c.ver = w
      · by_cases h3 : c.at' = x
        · have e : cellE C' a w x = c.n := by rw [cellE_findz, hcat]; simp [h1, h2, h3]
          refine W_round [(1, .int .i64 a), (2, .int .i64 w), (3, .int .i64 x), (4, .ptr 0 t 0), (9, .int .i64 ((i : Nat) : Int))] ⟨f1, f2, f3, f4, f9, trivial⟩ 1000 ?_
          simp -implicitDefEqProofs (disch := omega) only [go_sem, need_of, ↓reduceIte, reduceCtorEq, Nat.reduceAdd, Nat.reduceEqDiff, Nat.reduceLeDiff, Nat.zero_add, Nat.add_zero, decide_true, Bool.not_false, Nat.le_refl, Nat.zero_le, beq_self_eq_true, Cl.v, List.length_map, List.length_nil, List.length_cons, List.cons_append, List.nil_append, List.take_succ_cons, List.take_zero, List.take_nil, false_implies, true_implies, and_true, hlt, hD, h1, h2, h3, e]
        · have hk := hnn (by simp [h3])
          refine W_round [(1, .int .i64 a), (2, .int .i64 w), (3, .int .i64 x), (4, .ptr 0 t 0), (9, .int .i64 ((i : Nat) : Int))] ⟨f1, f2, f3, f4, f9, trivial⟩ 1000 ?_
          simp -implicitDefEqProofs (disch := omega) only [go_sem, need_of, ↓reduceIte, reduceCtorEq, Nat.reduceAdd, Nat.reduceEqDiff, Nat.reduceLeDiff, Nat.zero_add, Nat.add_zero, decide_true, Bool.not_false, Nat.le_refl, Nat.zero_le, beq_self_eq_true, Cl.v, List.length_map, List.length_nil, List.length_cons, List.cons_append, List.nil_append, List.take_succ_cons, List.take_zero, List.take_nil, false_implies, true_implies, true_and, and_true, not_false_eq_true, hlt, hD, h1, h2, h3, e2]
          refine ⟨_, _, Shift.drop (o' := [some (.arr t 37 [.lst 1 (nints S) tS, .lst 4 (C'.map Cl.v) tC])]) (t' := t' + 1) (by simp [subObs]) (Nat.le_refl _) (Nat.zero_le _), hk, ?_⟩
          simp -implicitDefEqProofs (disch := omega) only [go_sem, ↓reduceIte, Nat.reduceEqDiff]
          exact ⟨t' + 1, rfl⟩
      · have hk := hnn (by simp [h2])
        refine W_round [(1, .int .i64 a), (2, .int .i64 w), (3, .int .i64 x), (4, .ptr 0 t 0), (9, .int .i64 ((i : Nat) : Int))] ⟨f1, f2, f3, f4, f9, trivial⟩ 1000 ?_
        simp -implicitDefEqProofs (disch := omega) only [go_sem, need_of, ↓reduceIte, reduceCtorEq, Nat.reduceAdd, Nat.reduceEqDiff, Nat.reduceLeDiff, Nat.zero_add, Nat.add_zero, decide_true, Bool.not_false, Nat.le_refl, Nat.zero_le, beq_self_eq_true, Cl.v, List.length_map, List.length_nil, List.length_cons, List.cons_append, List.nil_append, List.take_succ_cons, List.take_zero, List.take_nil, false_implies, true_implies, true_and, and_true, not_false_eq_true, hlt, hD, h1, h2, e2]
        refine ⟨_, _, Shift.drop (o' := [some (.arr t 37 [.lst 1 (nints S) tS, .lst 4 (C'.map Cl.v) tC])]) (t' := t' + 1) (by simp [subObs]) (Nat.le_refl _) (Nat.zero_le _), hk, ?_⟩
        simp -implicitDefEqProofs (disch := omega) only [go_sem, ↓reduceIte, Nat.reduceEqDiff]
        exact ⟨t' + 1, rfl⟩
    · have hk := hnn (by simp [h1])
      refine W_round [(1, .int .i64 a), (2, .int .i64 w), (3, .int .i64 x), (4, .ptr 0 t 0), (9, .int .i64 ((i : Nat) : Int))] ⟨f1, f2, f3, f4, f9, trivial⟩ 1000 ?_
      simp -implicitDefEqProofs (disch := omega) only [go_sem, need_of, ↓reduceIte, reduceCtorEq, Nat.reduceAdd, Nat.reduceEqDiff, Nat.reduceLeDiff, Nat.zero_add, Nat.add_zero, decide_true, Bool.not_false, Nat.le_refl, Nat.zero_le, Cl.v, List.length_map, List.length_nil, List.length_cons, List.cons_append, List.nil_append, List.take_succ_cons, List.take_zero, List.take_nil, false_implies, true_implies, true_and, and_true, not_false_eq_true, hlt, hD, h1, e2]
      refine ⟨_, _, Shift.drop (o' := [some (.arr t 37 [.lst 1 (nints S) tS, .lst 4 (C'.map Cl.v) tC])]) (t' := t' + 1) (by simp [subObs]) (Nat.le_refl _) (Nat.zero_le _), hk, ?_⟩
      simp -implicitDefEqProofs (disch := omega) only [go_sem, ↓reduceIte, Nat.reduceEqDiff]
      exact ⟨t' + 1, rfl⟩
  · obtain ⟨hn, f1, f2, f3, f4, f9, t', rfl⟩ := hJ
    rw [hi, List.take_length] at hn
    refine W_round [(1, .int .i64 a), (2, .int .i64 w), (3, .int .i64 x), (4, .ptr 0 t 0), (9, .int .i64 ((i : Nat) : Int))] ⟨f1, f2, f3, f4, f9, trivial⟩ 1000 ?_
    simp -implicitDefEqProofs (disch := omega) only [go_sem, ↓reduceIte, reduceCtorEq, Nat.reduceAdd, Nat.reduceEqDiff, Nat.zero_add, decide_false, Nat.le_refl, List.length_map, List.length_nil, List.length_cons, true_implies, true_and, and_true, hi, Nat.lt_irrefl]
    exact hn
  · rcases hE with ⟨rfl, f8⟩ | ⟨rfl, hn⟩
    · refine run_sem 1000 ?_
      simp -implicitDefEqProofs (disch := omega) only [go_sem, Nat.zero_le, and_true, f8]
    · have e : cellE C' a w x = 0 := by rw [cellE_findz, hn]; rfl
      refine run_sem 1000 ?_
      simp -implicitDefEqProofs (disch := omega) only [go_sem, ↓reduceIte, Nat.zero_le, and_true, e]
end Go.Proofs.YtfligilbnpcnaaaGreatDoor

/- The document's environment and values. -/
namespace Go.Proofs.YtfligilbnpcnaaaGreatDoor
open Go Go.Am
set_option maxRecDepth 100000
set_option maxHeartbeats 1000000
variable {P : Program} {G : Nat → Option V}
def Cl.cells (c : Cl) : List V := [.int .i64 c.arr, .int .i64 c.ver, .int .i64 c.at', .int .i64 c.n]
def clC (C : List Cl) : List V := (C.map Cl.cells).flatten
theorem clC_len (C : List Cl) : (clC C).length = C.length * 4 := by
  induction C with
  | nil => rfl
  | cons c C ih => simp only [clC, List.map_cons, List.flatten_cons, List.length_append] at ih ⊢; rw [ih]; simp [Cl.cells]; omega
theorem clC_snoc {C : List Cl} {c : Cl} : clC C ++ c.cells = clC (C ++ [c]) := by simp [clC]
theorem chunk_clC : ∀ C : List Cl, chunkV 4 C.length (clC C) = C.map Cl.v
  | [] => rfl
  | c :: C => by
    have h : clC (c :: C) = c.cells ++ clC C := by simp [clC]
    rw [h, List.length_cons, chunkV, List.map_cons, ← chunk_clC C]
    rfl
theorem clC_nl : ∀ C : List Cl, namelessL (clC C) = true
  | [] => rfl
  | c :: C => by
    have h : clC (c :: C) = c.cells ++ clC C := by simp [clC]
    rw [h]
    simp only [Cl.cells, List.cons_append, List.nil_append, namelessL, nameless, clC_nl C, Bool.and_true]
theorem clC_int : ∀ C : List Cl, ∀ u ∈ clC C, ∃ t i, u = V.int t i := by
  intro C u hu
  obtain ⟨l, hl, hu⟩ := List.mem_flatten.1 hu
  obtain ⟨c, _, rfl⟩ := List.mem_map.1 hl
  simp only [Cl.cells, List.mem_cons, List.not_mem_nil, or_false] at hu
  rcases hu with rfl | rfl | rfl | rfl <;> exact ⟨_, _, rfl⟩
theorem fz_clC {k r : Nat} {B : List Cl} : frzV k r (clC B) (.sl k r 0 4 B.length none) = .lst 4 (B.map Cl.v) false := by
  have h := clC_len B
  rw [frzV, if_pos ⟨rfl, rfl⟩, if_pos ⟨by omega, by omega⟩, rowsV, if_neg (by omega), List.drop_zero, chunk_clC]
theorem flat_n : ∀ l : List Int, ((nints l).map V.cells).flatten = nints l
  | [] => rfl
  | x :: l => by
    have h : nints (x :: l) = [V.int .i64 x] ++ nints l := rfl
    rw [h, List.map_append, List.flatten_append, flat_n l]
    rfl
theorem fy_lst {k w z : Nat} {cs l : List V} {b : Bool} : frzV k w cs (.lst z l b) = .lst z l b := rfl
theorem fy_int {k w : Nat} {cs : List V} {t : IntKind} {i : Int} : frzV k w cs (.int t i) = .int t i := rfl
theorem fy_bool {k w : Nat} {cs : List V} {b : Bool} : frzV k w cs (.bool b) = .bool b := rfl
theorem fy_ref {k w o : Nat} {cs : List V} {x : V} : frzV k w cs (.ref x o) = .ref x o := rfl
theorem fy_ptr {k w n v o : Nat} {cs : List V} (h : n ≠ k) : frzV k w cs (.ptr n v o) = .ptr n v o := by simp [frzV, h]
theorem fz_sl {k w n v o z l : Nat} {m : Option Nat} {cs : List V} (h : n ≠ k) : frzV k w cs (.sl n v o z l m) = .sl n v o z l m := by simp [frzV, h]
abbrev peH (t0 rs rc : Nat) (S : List Int) (tS : Bool) (C' : List Cl) (tC : Bool) (D : List Cl) : List (Option Ob) := [some (.arr t0 26 [.lst 1 (nints S) tS, .lst 4 (C'.map Cl.v) tC]), some (.arr (t0 + 1) 37 [.lst 0 [] true, .lst 0 [] true]), some (.arr (t0 + 1 + 1) 37 [.sl 3 rs 0 1 S.length none, .sl 4 rc 0 4 D.length none]), some (.arr rs 2 (nints S)), some (.arr rc 68 (clC D))]
theorem c_PlainEnv (hT : TabOk P tab) (S : List Int) (hS : S.length ≤ 1000000) (tS : Bool) (C' : List Cl) (hC : C'.length ≤ 1000000) (tC : Bool) : Pure P G n_proofmarkkit_PlainEnv [envV S tS 4 C' tC] fun v => v = envV S false 4 C' false := by
  intro t0
  refine C_keep 0 (Nat.zero_le _) (C_freezeO (Q := fun v σ => ∃ t' rc x0 x1 x2, v = .agg [.lst 1 (nints S) false, .sl 4 rc 0 4 C'.length none] ∧ σ = ⟨t', [x0, x1, x2, none, some (.arr rc 68 (clC C'))]⟩)
    (C_freezeO (Q := fun v σ => ∃ t' rs rc x0 x1 x2, v = .agg [.sl 3 rs 0 1 S.length none, .sl 4 rc 0 4 C'.length none] ∧ σ = ⟨t', [x0, x1, x2, some (.arr rs 2 (nints S)), some (.arr rc 68 (clC C'))]⟩) ?_ fun v σ hv => ?_) fun v σ hv => ?_)
  · refine C_tab hT t_proofmarkkit_PlainEnv (by simp [proofmarkkit_PlainEnv]) (W_run 11 ?_)
    simp -implicitDefEqProofs (disch := omega) only [go_sem, ↓reduceIte, reduceCtorEq, Nat.reduceAdd, Nat.reduceEqDiff, Nat.zero_add, Bool.not_false, Nat.le_refl, Nat.zero_le, proofmarkkit_PlainEnv, zq6_0, zq6_1, zq6_2, zq6_3, zq6_4, zq6_5, zq6_6, zq6_7, zq6_8, List.length_nil, List.length_cons, List.cons_append, List.nil_append, List.take_zero, List.set_cons_zero, List.set_cons_succ, and_true, envV]
    refine sem_shift (HShift.shift (HShift.ownAt 1 2 (k := 2) (p := 0) (Nat.zero_le _) rfl rfl)) ?_
    simp -implicitDefEqProofs (disch := omega) only [go_sem, Nat.reduceAdd, Nat.zero_add, List.length_nil, List.length_cons, List.cons_append, List.nil_append, List.set_cons_zero, List.set_cons_succ]
    refine sem_shift (HShift.shift (HShift.ownAt 4 68 (k := 2) (p := 1) (Nat.zero_le _) rfl rfl)) (run_sem 1000 ?_)
    have hb5 : S.length * 8 ≤ 140737488355328 := by omega
    have hb6 : S.length ≤ 9223372036854775807 := by omega
    simp -implicitDefEqProofs (disch := omega) only [go_sem, ↓reduceIte, reduceCtorEq, Nat.reduceAdd, Nat.reduceEqDiff, Nat.reduceLeDiff, Nat.zero_add, Nat.add_zero, Nat.mul_one, Bool.not_true, Bool.not_false, Nat.zero_le, flat_n, nints_length, List.length_nil, List.length_cons, List.cons_append, List.nil_append, List.take_zero, List.set_cons_zero, List.set_cons_succ, true_implies, and_true, hb5, hb6]
    refine sem_for C' (fun i fr σ => ∃ t' rs rc, fget fr 1 = .ptr 0 t0 0 ∧ fget fr 2 = .ptr 1 (t0 + 1) 0 ∧ fget fr 3 = .ptr 2 (t0 + 1 + 1) 0 ∧ fget fr 4 = .int .i64 ((i : Nat) : Int) ∧ σ = ⟨t', peH t0 rs rc S tS C' tC (C'.take i)⟩) (fun e fr σ => e = .ex 0 ∧ ∃ t' rs rc, fget fr 2 = .ptr 1 (t0 + 1) 0 ∧ fget fr 3 = .ptr 2 (t0 + 1 + 1) 0 ∧ σ = ⟨t', peH t0 rs rc S tS C' tC C'⟩) ?_ (fun i c hc fr σ hJ => ?_) (fun i hi fr σ hJ => ?_) (fun e fr σ hE => ?_)
    · exact ⟨t0 + 1 + 1 + 1 + 1 + 1 + 1, t0 + 1 + 1 + 1 + 1 + 1, t0 + 1 + 1 + 1 + 1, rfl, rfl, rfl, rfl, rfl⟩
    · obtain ⟨t', rs, rc, f1, f2, f3, f4, rfl⟩ := hJ
      have hlt := (List.getElem?_eq_some_iff.1 hc).1
      have hD := cells_get hc
      have e2 := w_nx hlt (by omega)
      have hs : clC (C'.take i) ++ c.cells = clC (C'.take (i + 1)) := by rw [clC_snoc, take_snoc2 hc]
      have hl : (clC (C'.take i)).length = i * 4 := by rw [clC_len, List.length_take, Nat.min_eq_left (by omega)]
      have htl : (C'.take i).length = i := by rw [List.length_take]; omega
      have htl2 : (C'.take (i + 1)).length = i + 1 := by rw [List.length_take]; omega
      simp only [Cl.cells] at hs
      simp only [peH, htl, htl2]
      refine W_round [(1, .ptr 0 t0 0), (2, .ptr 1 (t0 + 1) 0), (3, .ptr 2 (t0 + 1 + 1) 0), (4, .int .i64 ((i : Nat) : Int))] ⟨f1, f2, f3, f4, trivial⟩  1000 ?_
      simp -implicitDefEqProofs (disch := omega) only [go_sem, need_of, ↓reduceIte, reduceCtorEq, Nat.reduceAdd, Nat.reduceEqDiff, Nat.reduceLeDiff, Nat.zero_add, Nat.add_zero, decide_true, Bool.not_true, Bool.not_false, Nat.le_refl, Nat.zero_le, Cl.v, List.length_map, List.length_nil, List.length_cons, List.cons_append, List.nil_append, List.take_succ_cons, List.take_zero, List.take_nil, List.set_cons_zero, List.set_cons_succ, false_implies, true_implies, true_and, and_true, hlt, hD, hl, e2, hs]
      refine ⟨_, _, Shift.drop (o' := [some (.arr t0 26 [.lst 1 (nints S) tS, .lst 4 (C'.map Cl.v) tC]), some (.arr (t0 + 1) 37 [.lst 0 [] true, .lst 0 [] true]), some (.arr (t0 + 1 + 1) 37 [.sl 3 rs 0 1 S.length none, .sl 4 (t' + 1) 0 4 (i + 1) none]), some (.arr rs 2 (nints S)), some (.arr (t' + 1) 68 (clC (C'.take (i + 1))))]) (t' := t' + 1 + 1) (by simp [subObs]) (Nat.le_refl _) (Nat.zero_le _), t' + 1 + 1, rs, t' + 1, ?_⟩
      simp -implicitDefEqProofs (disch := omega) only [go_sem, ↓reduceIte, Nat.reduceEqDiff]
    · obtain ⟨t', rs, rc, f1, f2, f3, f4, rfl⟩ := hJ
      refine W_round [(1, .ptr 0 t0 0), (2, .ptr 1 (t0 + 1) 0), (3, .ptr 2 (t0 + 1 + 1) 0), (4, .int .i64 ((i : Nat) : Int))] ⟨f1, f2, f3, f4, trivial⟩  1000 ?_
      simp -implicitDefEqProofs (disch := omega) only [go_sem, ↓reduceIte, Nat.reduceAdd, Nat.reduceEqDiff, Nat.zero_add, decide_false, Nat.le_refl, List.length_map, List.length_nil, List.length_cons, true_implies, true_and, and_true, hi, Nat.lt_irrefl, List.take_length]
      exact ⟨t', rs, rc, rfl, rfl⟩
    · obtain ⟨rfl, t', rs, rc, f2, f3, rfl⟩ := hE
      refine sem_exit [(2, .ptr 1 (t0 + 1) 0), (3, .ptr 2 (t0 + 1 + 1) 0)] ⟨f2, f3, trivial⟩ 1000 ?_
      simp -implicitDefEqProofs (disch := omega) only [go_sem, ↓reduceIte, reduceCtorEq, Nat.reduceAdd, Nat.reduceEqDiff, Nat.zero_add, Bool.not_false, Nat.le_refl, Nat.zero_le, List.length_nil, List.length_cons, List.cons_append, List.nil_append, List.take_succ_cons, List.take_zero, List.take_nil, List.set_cons_zero, List.set_cons_succ, false_implies, and_true, peH]
      exact ⟨t', rs, rc, _, _, _, rfl, rfl, rfl⟩
  · obtain ⟨t', rs, rc, x0, x1, x2, rfl, rfl⟩ := hv
    refine .inr ⟨3, rs, 2, nints S, by omega, rfl, nints_nameless _, t', rc, x0.map (Ob.mapV (frzV 3 rs (nints S))), x1.map (Ob.mapV (frzV 3 rs (nints S))), x2.map (Ob.mapV (frzV 3 rs (nints S))), ?_, ?_⟩
    · have := frz_n (k := 3) (w := rs) S
      simp only [frzV, frzL] at this ⊢
      rw [this]
      simp
    · have hBi := frzV_int (k := 3) (w := rs) (cs := nints S) (clC_int C')
      simp only [List.set_cons_succ, List.set_cons_zero, mapFrom, Option.map_some, Option.map_none, Ob.mapV, hBi]
  · obtain ⟨t', rc, x0, x1, x2, rfl, rfl⟩ := hv
    refine .inr ⟨4, rc, 68, clC C', by omega, rfl, clC_nl _, ?_, ?_⟩
    · simp [mapFrom_length]
    · have := fz_clC (k := 4) (r := rc) (B := C')
      simp only [frzV, frzL] at this ⊢
      rw [this]
      exact ⟨rfl, rfl⟩
end Go.Proofs.YtfligilbnpcnaaaGreatDoor

/- The values of all terms, by the document. -/
namespace Go.Proofs.YtfligilbnpcnaaaGreatDoor
open Go Go.Am
set_option maxRecDepth 100000
set_option maxHeartbeats 1000000
variable {P : Program} {G : Nat → Option V}

abbrev raJ (t0 w0 w1 ve : Nat) (L : List Nd) (S : List Int) (tS : Bool) (C' : List Cl) (tC : Bool) : Nat → Fr → H → Prop := fun i fr σ => ∃ t' r, t0 ≤ t' ∧ fget fr 0 = .ptr 0 w0 0 ∧ fget fr 3 = .ptr 2 ve 0 ∧ fget fr 5 = .sl 3 r 0 1 i none ∧ fget fr 6 = .int .i64 ((i : Nat) : Int) ∧ σ = ⟨t', mH w0 w1 L ++ [some (.arr ve 37 [.lst 1 (nints S) tS, .lst 4 (C'.map Cl.v) tC]), some (.arr r 2 (nints (vals S C' (L.take i))))]⟩
abbrev raE (t0 w0 w1 ve : Nat) (L : List Nd) (S : List Int) (tS : Bool) (C' : List Cl) (tC : Bool) : AE → Fr → H → Prop := fun e fr σ => e = .ex 0 ∧ ∃ t' r, t0 ≤ t' ∧ fget fr 5 = .sl 3 r 0 1 L.length none ∧ σ = ⟨t', mH w0 w1 L ++ [some (.arr ve 37 [.lst 1 (nints S) tS, .lst 4 (C'.map Cl.v) tC]), some (.arr r 2 (nints (vals S C' L)))]⟩
theorem ra_round (hT : TabOk P tab) {t0 w0 w1 ve i : Nat} {L : List Nd} (hL : L.length ≤ 1000) (hok : okN L) {S : List Int} (hS : ∀ x ∈ S, i64 x) (hSl : S.length ≤ 1000000) {tS tC : Bool} {C' : List Cl} (hC : C'.length ≤ 1000000) (hCn : ∀ c ∈ C', i64 c.n) {d : Nd} (hx : L[i]? = some d) {fr : Fr} {σ : H} (hJ : raJ t0 w0 w1 ve L S tS C' tC i fr σ) :
    W P G 70 2 (AC.seq (AC.seq (AC.reg zqb_3 [9, 10, 11, 12, 13, 14])   (AC.cond (Arg.t 15)   AC.skip   (AC.exit 0)))   (AC.seq (AC.block 1 (AC.seq (AC.reg zqb_4 [18, 19, 20, 21, 22, 23, 24])   (AC.seq (AC.reg zqb_5 [])   (AC.seq (AC.seq (AC.reg zqb_6 [25])   (AC.block 2 (AC.seq (AC.reg zqb_7 [28])   (AC.cond (Arg.t 27)   (AC.reg zqb_8 [29, 30])   (AC.seq (AC.reg zqb_9 [32])   (AC.cond (Arg.t 31)   (AC.reg zqb_10 [33, 34, 35, 36])   (AC.seq (AC.reg zqb_11 [38])   (AC.cond (Arg.t 37)   (AC.reg zqb_12 [39, 40, 41, 42, 43, 44, 45, 46, 47, 48, 49])   (AC.seq (AC.reg zqb_13 [51])   (AC.cond (Arg.t 50)   (AC.reg zqb_14 [52, 53, 54, 55, 56, 57, 58, 59, 60, 61, 62, 63, 64])   AC.skip))))))))))   (AC.reg zqb_15 [65, 66, 67, 68])))))   (AC.reg zqb_16 [16, 17]))) fr σ (seqQ (fun fr σ => ∃ fr' σ', Shift G 70 2 fr σ fr' σ' ∧ raJ t0 w0 w1 ve L S tS C' tC (i + 1) fr' σ') (raE t0 w0 w1 ve L S tS C' tC)) := by
  obtain ⟨t', r, ht, f0, f3, f5, f6, rfl⟩ := hJ
  have hlt := (List.getElem?_eq_some_iff.1 hx).1
  have e2 := w_nx hlt (by omega)
  have hc := ndC_get hx
  have hl := ndC_length L
  have h6 : i * 6 + 6 ≤ (ndC L).length := by omega
  have hts := take_snoc2 hx
  have hk : d.kind = 1 ∨ d.kind = 2 ∨ d.kind = 3 ∨ d.kind = 4 := (may_parts (hok i d hx).2.2).2.2
  have hop : 0 ≤ d.op ∧ d.op ≤ 255 := by have := (may_parts (hok i d hx).2.2).2.1; omega
  have hp := hok.wf i d hx
  have hlen : (vals S C' (L.take i)).length = i := by rw [vals_len, List.length_take]; omega
  have hlen2 : (vals S C' (L.take (i + 1))).length = i + 1 := by rw [vals_len, List.length_take]; omega
  have hval : ∀ p, i64 ((vals S C' (L.take i)).getD p 0) := fun p => getD_i64 (valsF_i64 hS hCn _ (fun d hd => okN_i64 hok d (List.mem_of_mem_take hd)) [] (by simp)) p
  have hsn : ∀ x, stepV S C' (fun p => (vals S C' (L.take i)).getD p.toNat 0) d = x → nints (vals S C' (L.take i)) ++ [V.int .i64 x] = nints (vals S C' (L.take (i + 1))) := fun x h => by
    rw [hts, vals_snoc, h]; simp [nints]
  have hget : ∀ y : Int, 0 ≤ y → y < i → (nints (vals S C' (L.take i))).getD y.toNat .any = .int .i64 ((vals S C' (L.take i)).getD y.toNat 0) := fun y h0 h1 => by
    obtain ⟨z, hz⟩ : ∃ z, (vals S C' (L.take i))[y.toNat]? = some z := ⟨_, List.getElem?_eq_getElem (by omega)⟩
    rw [nints_get hz, List.getD_eq_getElem?_getD, hz]; rfl
  generalize vals S C' (L.take i) = W1 at *
  generalize hW2 : vals S C' (L.take (i + 1)) = W2 at *
  simp only [Nd.cells] at hc
  rcases hk with k | k | k | k
  · have k1 : (d.kind = 1) = True := eq_true k
    have hs := hsn d.n (by rw [stepV, if_pos k])
    refine W_round [(0, .ptr 0 w0 0), (3, .ptr 2 ve 0), (5, .sl 3 r 0 1 i none), (6, .int .i64 ((i : Nat) : Int))] ⟨f0, f3, f5, f6, trivial⟩  1000 ?_
    simp -implicitDefEqProofs (disch := omega) only [go_sem, need_of, ↓reduceIte, reduceCtorEq, Nat.reduceAdd, Nat.reduceEqDiff, Nat.reduceLeDiff, Nat.zero_add, Nat.add_zero, Nat.mul_one, decide_true, Bool.not_true, Bool.not_false, Nat.le_refl, zqb_3, zqb_4, zqb_5, zqb_6, zqb_7, zqb_8, zqb_9, zqb_10, zqb_11, zqb_12, zqb_13, zqb_14, zqb_15, zqb_16, mH0_len, mH_app, mH_0, mH_1, mH_2, mH_3, mHs_3, mH_4, mHs_4, nints_length, List.length_append, List.length_cons, List.length_nil, false_implies, true_implies, true_and, and_true, not_true_eq_false, List.cons_append, List.nil_append, hlt, hc, h6, k1, hs, hlen, e2]
    refine ⟨_, _, Shift.drop (o' := mH w0 w1 L ++ [some (.arr ve 37 [.lst 1 (nints S) tS, .lst 4 (C'.map Cl.v) tC]), some (.arr (t' + 1) 2 (nints W2))]) (t' := t' + 1 + 1) (by simp [subObs, mH]) (Nat.le_refl _) (by simp [mH]), t' + 1 + 1, t' + 1, by omega, ?_⟩
    simp -implicitDefEqProofs (disch := omega) only [go_sem, ↓reduceIte, reduceCtorEq, Nat.reduceEqDiff, hW2]
  · have k1 : (d.kind = 1) = False := eq_false (by omega)
    have k2 : (d.kind = 2) = True := eq_true k
    have hs := hsn (symE S d.n) (by simp [stepV, k])
    refine W_round [(0, .ptr 0 w0 0), (3, .ptr 2 ve 0), (5, .sl 3 r 0 1 i none), (6, .int .i64 ((i : Nat) : Int))] ⟨f0, f3, f5, f6, trivial⟩  1000 ?_
    simp -implicitDefEqProofs (disch := omega) only [go_sem, need_of, ↓reduceIte, reduceCtorEq, Nat.reduceAdd, Nat.reduceEqDiff, Nat.reduceLeDiff, Nat.zero_add, Nat.add_zero, Nat.mul_one, decide_true, Bool.not_true, Bool.not_false, Nat.le_refl, zqb_3, zqb_4, zqb_5, zqb_6, zqb_7, zqb_8, zqb_9, zqb_10, zqb_11, zqb_12, zqb_13, zqb_14, zqb_15, zqb_16, mH0_len, mH_app, mH_0, mH_1, mH_2, mH_3, mHs_3, mH_4, mHs_4, nints_length, List.length_append, List.length_cons, List.length_nil, false_implies, true_implies, true_and, and_true, not_true_eq_false, not_false_eq_true, List.cons_append, List.nil_append, hlt, hc, h6, k1, k2]
    refine callPS hT t_proofmarkref03_Env_Sym (c_rSym hT S hSl tS tC 4 C' d.n) rfl 1000 ?_
    simp -implicitDefEqProofs (disch := omega) only [go_sem, need_of, ↓reduceIte, reduceCtorEq, Nat.reduceEqDiff, Nat.reduceLeDiff, Nat.zero_add, Nat.mul_one, Bool.not_true, Nat.le_refl, mH_3, mHs_3, nints_length, List.length_cons, List.length_nil, true_and, and_true, List.cons_append, List.nil_append, hs, hlen, e2]
    refine ⟨_, _, Shift.drop (o' := mH w0 w1 L ++ [some (.arr ve 37 [.lst 1 (nints S) tS, .lst 4 (C'.map Cl.v) tC]), some (.arr (t' + 1) 2 (nints W2))]) (t' := t' + 1 + 1) (by simp [subObs, mH]) (Nat.le_refl _) (by simp [mH]), t' + 1 + 1, t' + 1, by omega, ?_⟩
    simp -implicitDefEqProofs (disch := omega) only [go_sem, ↓reduceIte, reduceCtorEq, Nat.reduceEqDiff, hW2]
  · have k1 : (d.kind = 1) = False := eq_false (by omega)
    have k2 : (d.kind = 2) = False := eq_false (by omega)
    have k3 : (d.kind = 3) = True := eq_true k
    have hs := hsn (cellE C' d.a d.n (W1.getD d.y.toNat 0)) (by simp [stepV, k])
    have hy := hp d.y (by simp [Nd.parts, k])
    have hgy := hget d.y hy.1 hy.2
    have hy1 : d.y.toNat < i := by omega
    refine W_round [(0, .ptr 0 w0 0), (3, .ptr 2 ve 0), (5, .sl 3 r 0 1 i none), (6, .int .i64 ((i : Nat) : Int))] ⟨f0, f3, f5, f6, trivial⟩  1000 ?_
    simp -implicitDefEqProofs (disch := omega) only [go_sem, need_of, ↓reduceIte, reduceCtorEq, Nat.reduceAdd, Nat.reduceEqDiff, Nat.reduceLeDiff, Nat.zero_add, Nat.add_zero, Nat.mul_one, decide_true, Bool.not_true, Bool.not_false, Nat.le_refl, zqb_3, zqb_4, zqb_5, zqb_6, zqb_7, zqb_8, zqb_9, zqb_10, zqb_11, zqb_12, zqb_13, zqb_14, zqb_15, zqb_16, mH0_len, mH_app, mH_0, mH_1, mH_2, mH_3, mHs_3, mH_4, mHs_4, nints_length, List.length_append, List.length_cons, List.length_nil, false_implies, true_implies, true_and, and_true, not_true_eq_false, not_false_eq_true, List.cons_append, List.nil_append, hlt, hc, h6, k1, k2, k3, hlen, hgy, hy1, hy.1]
    refine callPS hT t_proofmarkref03_Env_Cell (c_rCell hT S tS C' hC tC d.a d.n (W1.getD d.y.toNat 0)) rfl 1000 ?_
    simp -implicitDefEqProofs (disch := omega) only [go_sem, need_of, ↓reduceIte, reduceCtorEq, Nat.reduceEqDiff, Nat.reduceLeDiff, Nat.zero_add, Nat.mul_one, Bool.not_true, Nat.le_refl, mH_3, mHs_3, nints_length, List.length_cons, List.length_nil, true_and, and_true, List.cons_append, List.nil_append, hs, hlen, e2]
    refine ⟨_, _, Shift.drop (o' := mH w0 w1 L ++ [some (.arr ve 37 [.lst 1 (nints S) tS, .lst 4 (C'.map Cl.v) tC]), some (.arr (t' + 1) 2 (nints W2))]) (t' := t' + 1 + 1) (by simp [subObs, mH]) (Nat.le_refl _) (by simp [mH]), t' + 1 + 1, t' + 1, by omega, ?_⟩
    simp -implicitDefEqProofs (disch := omega) only [go_sem, ↓reduceIte, reduceCtorEq, Nat.reduceEqDiff, hW2]
  · have k1 : (d.kind = 1) = False := eq_false (by omega)
    have k2 : (d.kind = 2) = False := eq_false (by omega)
    have k3 : (d.kind = 3) = False := eq_false (by omega)
    have k4 : (d.kind = 4) = True := eq_true k
    have hs := hsn (doW d.op (W1.getD d.x.toNat 0) (W1.getD d.y.toNat 0)) (by simp [stepV, k])
    have hx' := hp d.x (by simp [Nd.parts, k])
    have hy := hp d.y (by simp [Nd.parts, k])
    have hgx := hget d.x hx'.1 hx'.2
    have hgy := hget d.y hy.1 hy.2
    have hx1 : d.x.toNat < i := by omega
    have hy1 : d.y.toNat < i := by omega
    refine W_round [(0, .ptr 0 w0 0), (3, .ptr 2 ve 0), (5, .sl 3 r 0 1 i none), (6, .int .i64 ((i : Nat) : Int))] ⟨f0, f3, f5, f6, trivial⟩  1000 ?_
    simp -implicitDefEqProofs (disch := omega) only [go_sem, need_of, ↓reduceIte, reduceCtorEq, Nat.reduceAdd, Nat.reduceEqDiff, Nat.reduceLeDiff, Nat.zero_add, Nat.add_zero, Nat.mul_one, decide_true, Bool.not_true, Bool.not_false, Nat.le_refl, zqb_3, zqb_4, zqb_5, zqb_6, zqb_7, zqb_8, zqb_9, zqb_10, zqb_11, zqb_12, zqb_13, zqb_14, zqb_15, zqb_16, mH0_len, mH_app, mH_0, mH_1, mH_2, mH_3, mHs_3, mH_4, mHs_4, nints_length, List.length_append, List.length_cons, List.length_nil, false_implies, true_implies, true_and, and_true, not_true_eq_false, not_false_eq_true, List.cons_append, List.nil_append, hlt, hc, h6, k1, k2, k3, k4, hlen, hgx, hgy, hx1, hy1, hx'.1, hy.1]
    refine callPS hT t_proofmarkref01_Do (c_rDo hT d.op (W1.getD d.x.toNat 0) (W1.getD d.y.toNat 0) hop (hval _) (hval _)) rfl 1000 ?_
    simp -implicitDefEqProofs (disch := omega) only [go_sem, need_of, ↓reduceIte, reduceCtorEq, Nat.reduceEqDiff, Nat.reduceLeDiff, Nat.zero_add, Nat.mul_one, Bool.not_true, Nat.le_refl, mH_3, mHs_3, nints_length, List.length_cons, List.length_nil, true_and, and_true, List.cons_append, List.nil_append, hs, hlen, e2]
    refine ⟨_, _, Shift.drop (o' := mH w0 w1 L ++ [some (.arr ve 37 [.lst 1 (nints S) tS, .lst 4 (C'.map Cl.v) tC]), some (.arr (t' + 1) 2 (nints W2))]) (t' := t' + 1 + 1) (by simp [subObs, mH]) (Nat.le_refl _) (by simp [mH]), t' + 1 + 1, t' + 1, by omega, ?_⟩
    simp -implicitDefEqProofs (disch := omega) only [go_sem, ↓reduceIte, reduceCtorEq, Nat.reduceEqDiff, hW2]
theorem r_All (hT : TabOk P tab) {t w0 w1 : Nat} {L : List Nd} (hL : L.length ≤ 1000) (hok : okN L) {S : List Int} (hS : ∀ x ∈ S, i64 x) (hSl : S.length ≤ 1000000) {tS tC : Bool} {C' : List Cl} (hC : C'.length ≤ 1000000) (hCn : ∀ c ∈ C', i64 c.n) :
    C P G 2 n_proofmarkref03_All [.ptr 0 w0 0, envV S tS 4 C' tC] ⟨t, mH w0 w1 L⟩ fun v σ => v = .lst 1 (nints (vals S C' L)) false ∧ ∃ t', t ≤ t' ∧ σ = ⟨t', mH w0 w1 L⟩ := by
  refine C_keep 2 (Nat.le_refl _) (C_freezeO (Q := fun v σ => ∃ t' r ve, t ≤ t' ∧ v = .sl 3 r 0 1 L.length none ∧ σ = ⟨t', mH w0 w1 L ++ [some (.arr ve 37 [.lst 1 (nints S) tS, .lst 4 (C'.map Cl.v) tC]), some (.arr r 2 (nints (vals S C' L)))]⟩) ?_ fun v σ hv => ?_)
  · refine C_tab hT t_proofmarkref03_All (by simp [proofmarkref03_All]) (W_run 1000 ?_)
    simp -implicitDefEqProofs (disch := omega) only [go_sem, ↓reduceIte, reduceCtorEq, Nat.reduceEqDiff, Nat.zero_add, proofmarkref03_All, zqb_0, zqb_1, zqb_2, zqb_3, zqb_4, zqb_5, zqb_6, zqb_7, zqb_8, zqb_9, zqb_10, zqb_11, zqb_12, zqb_13, zqb_14, zqb_15, zqb_16, zqb_17, mH0_len, and_true, envV]
    refine sem_shift (Shift.own (s := 5) (z := 0) (sz := 1) (T := 2) (by simp -implicitDefEqProofs (disch := omega) only [go_sem, ↓reduceIte, reduceCtorEq, Nat.reduceEqDiff]) (by decide)) ?_
    simp -implicitDefEqProofs (disch := omega) only [go_sem, ↓reduceIte, reduceCtorEq, Nat.reduceAdd, Nat.reduceEqDiff, Nat.zero_add, H.push, mH0_len, mH_app, List.length_append, List.length_cons, List.length_nil, List.cons_append, List.nil_append]
    refine sem_for L (raJ t w0 w1 t L S tS C' tC) (raE t w0 w1 t L S tS C' tC) ⟨t + 1 + 1, t + 1, by omega, by simp -implicitDefEqProofs (disch := omega) only [go_sem, ↓reduceIte], by simp -implicitDefEqProofs (disch := omega) only [go_sem, ↓reduceIte, reduceCtorEq, Nat.reduceEqDiff], by simp -implicitDefEqProofs (disch := omega) only [go_sem, ↓reduceIte, reduceCtorEq, Nat.reduceEqDiff], by simp -implicitDefEqProofs (disch := omega) only [go_sem, ↓reduceIte, reduceCtorEq, Nat.reduceEqDiff]; rfl, rfl⟩ (fun i d hx fr σ hJ => ra_round hT hL hok hS hSl hC hCn hx hJ) (fun i hi fr σ hJ => ?_) (fun e fr σ hE => ?_)
    · obtain ⟨t', r, ht, f0, f3, f5, f6, rfl⟩ := hJ
      have hnl : ¬ i < L.length := by omega
      refine W_round [(0, .ptr 0 w0 0), (3, .ptr 2 t 0), (5, .sl 3 r 0 1 i none), (6, .int .i64 ((i : Nat) : Int))] ⟨f0, f3, f5, f6, trivial⟩ 1000 ?_
      simp -implicitDefEqProofs (disch := omega) only [go_sem, ↓reduceIte, reduceCtorEq, Nat.reduceEqDiff, Nat.zero_add, Nat.add_zero, decide_false, Nat.le_refl, mH_0, List.length_cons, List.length_nil, true_implies, and_true, hnl]
      rw [hi, List.take_length]
      exact ⟨rfl, t', r, ht, rfl, rfl⟩
    · obtain ⟨rfl, t', r, ht, f5, rfl⟩ := hE
      refine sem_exit [(5, .sl 3 r 0 1 L.length none)] ⟨f5, trivial⟩ 1000 ?_
      simp -implicitDefEqProofs (disch := omega) only [go_sem, ↓reduceIte, Nat.reduceEqDiff]
      exact ⟨t', r, t, ht, rfl, rfl, rfl⟩
  · obtain ⟨t', r, ve, ht, rfl, rfl⟩ := hv
    refine .inr ⟨3, r, 2, nints (vals S C' L), by omega, rfl, nints_nameless _, ?_, ?_, t', ht, ?_⟩
    · simp [mapFrom_length, mH]
    · have := frz_n (k := 3) (w := r) (vals S C' L)
      rw [vals_len] at this
      simp only [frzV] at this ⊢
      rw [this]
    · simp [mH, mapFrom]
/-- Both graphs. -/
theorem r_AllK (hT : TabOk P tab) {fmt : Int → List UInt8} {v0 v1 v2 v3 v4 w0 w1 t base : Nat} {L : List Nd} {ex : List (Option Ob)} (hL : L.length ≤ 1000) (hok : okN L) {S : List Int} (hS : ∀ x ∈ S, i64 x) (hSl : S.length ≤ 1000000) {tS tC : Bool} {C' : List Cl} (hC : C'.length ≤ 1000000) (hCn : ∀ c ∈ C', i64 c.n) :
    C P G base n_proofmarkref03_All [.ptr 5 w0 0, envV S tS 4 C' tC] ⟨t, kG fmt v0 v1 v2 v3 v4 L ++ mK w0 w1 L ex⟩ fun v σ => v = .lst 1 (nints (vals S C' L)) false ∧ ∃ t', t ≤ t' ∧ σ = ⟨t', kG fmt v0 v1 v2 v3 v4 L ++ mK w0 w1 L ex⟩ :=
  m_readK (r_All hT hL hok hS hSl hC hCn) rfl rfl
end Go.Proofs.YtfligilbnpcnaaaGreatDoor

