/- The document's environment and values. -/
import Derived.Test.YtfligilbnpcnaaaGreatDoorB6
namespace Go.Proofs.YtfligilbnpcnaaaGreatDoor
open Go Go.Am
set_option maxRecDepth 100000
set_option maxHeartbeats 1000000
variable {P : Program} {G : Nat → Option V}
def Cl.cells (c : Cl) : List V := [.int .i64 c.arr, .int .i64 c.ver, .int .i64 c.at', .int .i64 c.n]
def clC (C : List Cl) : List V := (C.map Cl.cells).flatten
theorem clC_len (C : List Cl) : (clC C).length = C.length * 4 := by
  induction C with
  | nil => rfl
  | cons c C ih => simp only [clC, List.map_cons, List.flatten_cons, List.length_append] at ih ⊢; rw [ih]; simp [Cl.cells]; omega
theorem clC_snoc {C : List Cl} {c : Cl} : clC C ++ c.cells = clC (C ++ [c]) := by simp [clC]
theorem chunk_clC : ∀ C : List Cl, chunkV 4 C.length (clC C) = C.map Cl.v
  | [] => rfl
  | c :: C => by
    have h : clC (c :: C) = c.cells ++ clC C := by simp [clC]
    rw [h, List.length_cons, chunkV, List.map_cons, ← chunk_clC C]
    rfl
theorem clC_nl : ∀ C : List Cl, namelessL (clC C) = true
  | [] => rfl
  | c :: C => by
    have h : clC (c :: C) = c.cells ++ clC C := by simp [clC]
    rw [h]
    simp only [Cl.cells, List.cons_append, List.nil_append, namelessL, nameless, clC_nl C, Bool.and_true]
theorem clC_int : ∀ C : List Cl, ∀ u ∈ clC C, ∃ t i, u = V.int t i := by
  intro C u hu
  obtain ⟨l, hl, hu⟩ := List.mem_flatten.1 hu
  obtain ⟨c, _, rfl⟩ := List.mem_map.1 hl
  simp only [Cl.cells, List.mem_cons, List.not_mem_nil, or_false] at hu
  rcases hu with rfl | rfl | rfl | rfl <;> exact ⟨_, _, rfl⟩
theorem fz_clC {k r : Nat} {B : List Cl} : frzV k r (clC B) (.sl k r 0 4 B.length none) = .lst 4 (B.map Cl.v) false := by
  have h := clC_len B
  rw [frzV, if_pos ⟨rfl, rfl⟩, if_pos ⟨by omega, by omega⟩, rowsV, if_neg (by omega), List.drop_zero, chunk_clC]
theorem flat_n : ∀ l : List Int, ((nints l).map V.cells).flatten = nints l
  | [] => rfl
  | x :: l => by
    have h : nints (x :: l) = [V.int .i64 x] ++ nints l := rfl
    rw [h, List.map_append, List.flatten_append, flat_n l]
    rfl
theorem fz_lst {k w z : Nat} {cs l : List V} {b : Bool} : frzV k w cs (.lst z l b) = .lst z l b := rfl
theorem fz_int {k w : Nat} {cs : List V} {t : IntKind} {i : Int} : frzV k w cs (.int t i) = .int t i := rfl
theorem fz_bool {k w : Nat} {cs : List V} {b : Bool} : frzV k w cs (.bool b) = .bool b := rfl
theorem fz_ref {k w o : Nat} {cs : List V} {x : V} : frzV k w cs (.ref x o) = .ref x o := rfl
theorem fz_ptr {k w n v o : Nat} {cs : List V} (h : n ≠ k) : frzV k w cs (.ptr n v o) = .ptr n v o := by simp [frzV, h]
theorem fz_sl {k w n v o z l : Nat} {m : Option Nat} {cs : List V} (h : n ≠ k) : frzV k w cs (.sl n v o z l m) = .sl n v o z l m := by simp [frzV, h]
abbrev peH (t0 rs rc : Nat) (S : List Int) (tS : Bool) (C' : List Cl) (tC : Bool) (D : List Cl) : List (Option Ob) := [some (.arr t0 26 [.lst 1 (nints S) tS, .lst 4 (C'.map Cl.v) tC]), some (.arr (t0 + 1) 37 [.lst 0 [] true, .lst 0 [] true]), some (.arr (t0 + 1 + 1) 37 [.sl 3 rs 0 1 S.length none, .sl 4 rc 0 4 D.length none]), some (.arr rs 2 (nints S)), some (.arr rc 68 (clC D))]
theorem c_PlainEnv (hT : TabOk P tab) (S : List Int) (hS : S.length ≤ 1000000) (tS : Bool) (C' : List Cl) (hC : C'.length ≤ 1000000) (tC : Bool) : Pure P G n_proofmarkkit_PlainEnv [envV S tS 4 C' tC] fun v => v = envV S false 4 C' false := by
  intro t0
  refine C_keep 0 (Nat.zero_le _) (C_freezeO (Q := fun v σ => ∃ t' rc x0 x1 x2, v = .agg [.lst 1 (nints S) false, .sl 4 rc 0 4 C'.length none] ∧ σ = ⟨t', [x0, x1, x2, none, some (.arr rc 68 (clC C'))]⟩)
    (C_freezeO (Q := fun v σ => ∃ t' rs rc x0 x1 x2, v = .agg [.sl 3 rs 0 1 S.length none, .sl 4 rc 0 4 C'.length none] ∧ σ = ⟨t', [x0, x1, x2, some (.arr rs 2 (nints S)), some (.arr rc 68 (clC C'))]⟩) ?_ fun v σ hv => ?_) fun v σ hv => ?_)
  · refine C_tab hT t_proofmarkkit_PlainEnv (by simp [proofmarkkit_PlainEnv]) (W_run 11 ?_)
    simp -implicitDefEqProofs (disch := omega) only [go_sem, ↓reduceIte, reduceCtorEq, Nat.reduceAdd, Nat.reduceEqDiff, Nat.zero_add, Bool.not_false, Nat.le_refl, Nat.zero_le, proofmarkkit_PlainEnv, proofmarkkit_PlainEnv_r0, proofmarkkit_PlainEnv_r1, proofmarkkit_PlainEnv_r2, proofmarkkit_PlainEnv_r3, proofmarkkit_PlainEnv_r4, proofmarkkit_PlainEnv_r5, proofmarkkit_PlainEnv_r6, proofmarkkit_PlainEnv_r7, proofmarkkit_PlainEnv_r8, List.length_nil, List.length_cons, List.cons_append, List.nil_append, List.take_zero, List.set_cons_zero, List.set_cons_succ, and_true, envV]
    refine sem_shift (HShift.shift (HShift.ownAt 1 2 (k := 2) (p := 0) (Nat.zero_le _) rfl rfl)) ?_
    simp -implicitDefEqProofs (disch := omega) only [go_sem, Nat.reduceAdd, Nat.zero_add, List.length_nil, List.length_cons, List.cons_append, List.nil_append, List.set_cons_zero, List.set_cons_succ]
    refine sem_shift (HShift.shift (HShift.ownAt 4 68 (k := 2) (p := 1) (Nat.zero_le _) rfl rfl)) (run_sem 1000 ?_)
    have hb5 : S.length * 8 ≤ 140737488355328 := by omega
    have hb6 : S.length ≤ 9223372036854775807 := by omega
    simp -implicitDefEqProofs (disch := omega) only [go_sem, ↓reduceIte, reduceCtorEq, Nat.reduceAdd, Nat.reduceEqDiff, Nat.reduceLeDiff, Nat.zero_add, Nat.add_zero, Nat.mul_one, Bool.not_true, Bool.not_false, Nat.zero_le, flat_n, nints_length, List.length_nil, List.length_cons, List.cons_append, List.nil_append, List.take_zero, List.set_cons_zero, List.set_cons_succ, true_implies, and_true, hb5, hb6]
    refine sem_for C' (fun i fr σ => ∃ t' rs rc, fget fr 1 = .ptr 0 t0 0 ∧ fget fr 2 = .ptr 1 (t0 + 1) 0 ∧ fget fr 3 = .ptr 2 (t0 + 1 + 1) 0 ∧ fget fr 4 = .int .i64 ((i : Nat) : Int) ∧ σ = ⟨t', peH t0 rs rc S tS C' tC (C'.take i)⟩) (fun e fr σ => e = .ex 0 ∧ ∃ t' rs rc, fget fr 2 = .ptr 1 (t0 + 1) 0 ∧ fget fr 3 = .ptr 2 (t0 + 1 + 1) 0 ∧ σ = ⟨t', peH t0 rs rc S tS C' tC C'⟩) ?_ (fun i c hc fr σ hJ => ?_) (fun i hi fr σ hJ => ?_) (fun e fr σ hE => ?_)
    · exact ⟨t0 + 1 + 1 + 1 + 1 + 1 + 1, t0 + 1 + 1 + 1 + 1 + 1, t0 + 1 + 1 + 1 + 1, rfl, rfl, rfl, rfl, rfl⟩
    · obtain ⟨t', rs, rc, f1, f2, f3, f4, rfl⟩ := hJ
      have hlt := (List.getElem?_eq_some_iff.1 hc).1
      have hD := cells_get hc
      have e2 := w_nx hlt (by omega)
      have hs : clC (C'.take i) ++ c.cells = clC (C'.take (i + 1)) := by rw [clC_snoc, take_snoc2 hc]
      have hl : (clC (C'.take i)).length = i * 4 := by rw [clC_len, List.length_take, Nat.min_eq_left (by omega)]
      have htl : (C'.take i).length = i := by rw [List.length_take]; omega
      have htl2 : (C'.take (i + 1)).length = i + 1 := by rw [List.length_take]; omega
      simp only [Cl.cells] at hs
      simp only [peH, htl, htl2]
      refine W_round [(1, .ptr 0 t0 0), (2, .ptr 1 (t0 + 1) 0), (3, .ptr 2 (t0 + 1 + 1) 0), (4, .int .i64 ((i : Nat) : Int))] ⟨f1, f2, f3, f4, trivial⟩  1000 ?_
      simp -implicitDefEqProofs (disch := omega) only [go_sem, need_of, ↓reduceIte, reduceCtorEq, Nat.reduceAdd, Nat.reduceEqDiff, Nat.reduceLeDiff, Nat.zero_add, Nat.add_zero, decide_true, Bool.not_true, Bool.not_false, Nat.le_refl, Nat.zero_le, Cl.v, List.length_map, List.length_nil, List.length_cons, List.cons_append, List.nil_append, List.take_succ_cons, List.take_zero, List.take_nil, List.set_cons_zero, List.set_cons_succ, false_implies, true_implies, true_and, and_true, hlt, hD, hl, e2, hs]
      refine ⟨_, _, Shift.drop (o' := [some (.arr t0 26 [.lst 1 (nints S) tS, .lst 4 (C'.map Cl.v) tC]), some (.arr (t0 + 1) 37 [.lst 0 [] true, .lst 0 [] true]), some (.arr (t0 + 1 + 1) 37 [.sl 3 rs 0 1 S.length none, .sl 4 (t' + 1) 0 4 (i + 1) none]), some (.arr rs 2 (nints S)), some (.arr (t' + 1) 68 (clC (C'.take (i + 1))))]) (t' := t' + 1 + 1) (by simp [subObs]) (Nat.le_refl _) (Nat.zero_le _), t' + 1 + 1, rs, t' + 1, ?_⟩
      simp -implicitDefEqProofs (disch := omega) only [go_sem, ↓reduceIte, Nat.reduceEqDiff]
    · obtain ⟨t', rs, rc, f1, f2, f3, f4, rfl⟩ := hJ
      refine W_round [(1, .ptr 0 t0 0), (2, .ptr 1 (t0 + 1) 0), (3, .ptr 2 (t0 + 1 + 1) 0), (4, .int .i64 ((i : Nat) : Int))] ⟨f1, f2, f3, f4, trivial⟩  1000 ?_
      simp -implicitDefEqProofs (disch := omega) only [go_sem, ↓reduceIte, Nat.reduceAdd, Nat.reduceEqDiff, Nat.zero_add, decide_false, Nat.le_refl, List.length_map, List.length_nil, List.length_cons, true_implies, true_and, and_true, hi, Nat.lt_irrefl, List.take_length]
      exact ⟨t', rs, rc, rfl, rfl⟩
    · obtain ⟨rfl, t', rs, rc, f2, f3, rfl⟩ := hE
      refine sem_exit [(2, .ptr 1 (t0 + 1) 0), (3, .ptr 2 (t0 + 1 + 1) 0)] ⟨f2, f3, trivial⟩ 1000 ?_
      simp -implicitDefEqProofs (disch := omega) only [go_sem, ↓reduceIte, reduceCtorEq, Nat.reduceAdd, Nat.reduceEqDiff, Nat.zero_add, Bool.not_false, Nat.le_refl, Nat.zero_le, List.length_nil, List.length_cons, List.cons_append, List.nil_append, List.take_succ_cons, List.take_zero, List.take_nil, List.set_cons_zero, List.set_cons_succ, false_implies, and_true, peH]
      exact ⟨t', rs, rc, _, _, _, rfl, rfl, rfl⟩
  · obtain ⟨t', rs, rc, x0, x1, x2, rfl, rfl⟩ := hv
    refine .inr ⟨3, rs, 2, nints S, by omega, rfl, nints_nameless _, t', rc, x0.map (Ob.mapV (frzV 3 rs (nints S))), x1.map (Ob.mapV (frzV 3 rs (nints S))), x2.map (Ob.mapV (frzV 3 rs (nints S))), ?_, ?_⟩
    · have := frz_n (k := 3) (w := rs) S
      simp only [frzV, frzL] at this ⊢
      rw [this]
      simp
    · have hBi := frzV_int (k := 3) (w := rs) (cs := nints S) (clC_int C')
      simp only [List.set_cons_succ, List.set_cons_zero, mapFrom, Option.map_some, Option.map_none, Ob.mapV, hBi]
  · obtain ⟨t', rc, x0, x1, x2, rfl, rfl⟩ := hv
    refine .inr ⟨4, rc, 68, clC C', by omega, rfl, clC_nl _, ?_, ?_⟩
    · simp [mapFrom_length]
    · have := fz_clC (k := 4) (r := rc) (B := C')
      simp only [frzV, frzL] at this ⊢
      rw [this]
      exact ⟨rfl, rfl⟩
end Go.Proofs.YtfligilbnpcnaaaGreatDoor

