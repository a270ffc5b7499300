/- Contracts: works. -/
import Derived.Test.YtpepmhmgfpkdmaaSq2
import Derived.Test.YtpepmhmgfpkdmaaAmD
namespace Go.Proofs.Ytpepmhmgfpkdmaa
open Go Go.Am Go.Cl Go.Sat
set_option maxRecDepth 100000
variable {G : Nat → Option V}

def trow (c : List Int) : V := .lst 1 (ints c) true
def trows (F : List (List Int)) : V := .lst 1 (F.map trow) true
theorem wk_trow (c : List Int) : Wk (trow c) (row c) := .lst 1 1 _ _ true (WkL.refl _) (.inr rfl)
theorem wk_trows (F : List (List Int)) : Wk (trows F) (rows F) := .lst 1 1 _ _ true (WkL.map fun c _ => wk_trow c) (.inr rfl)
theorem wk_tfml (v : Int) (F : List (List Int)) : Wk (.agg [.int .i64 v, trows F]) (fml v F) := .agg _ _ (.cons _ _ _ _ (.refl _) (.cons _ _ _ _ (wk_trows F) .nil))
def w3 : List (List Int) := [[1, 2], [-1, 2], [1, -2]]
def w4 : List (List Int) := [[1, 2], [-1, 2], [1, -2], [-1, -2]]

theorem w3_ok : ∃ s, solve 2 w3 100 = some (s, true) ∧ model 2 s = [true, true] := by
  have h : (solve 2 w3 100).map (fun r => (r.2, model 2 r.1)) = some (true, [true, true]) := by decide +kernel
  rcases e : solve 2 w3 100 with _ | ⟨s, b⟩
  · rw [e] at h; cases h
  · rw [e] at h; simp only [Option.map_some, Option.some.injEq, Prod.mk.injEq] at h; obtain ⟨rfl, h⟩ := h; exact ⟨s, rfl, h⟩
theorem w4_ok : kindOf (solve 2 w4 100) = 2 := by decide +kernel
theorem w1_ok : kindOf (solve 2 [[1, 2]] 0) = 0 := by decide +kernel
theorem w0_ok : ∃ s, solve 2 [[]] 0 = some (s, false) ∧ s.pf = [[]] := by
  have h : (solve 2 [[]] 0).map (fun r => (r.2, r.1.pf)) = some (false, [[]]) := by decide +kernel
  rcases e : solve 2 [[]] 0 with _ | ⟨s, b⟩
  · rw [e] at h; cases h
  · rw [e] at h; simp at h; obtain ⟨rfl, h⟩ := h; exact ⟨s, rfl, h⟩

theorem c_works (hT : TabOk Try.prog tab) : Pure Try.prog G n_proofmarklaw07_works [] fun u => u = .bool true := by
  obtain ⟨s3, e3, m3⟩ := w3_ok
  obtain ⟨s0, e0, p0⟩ := w0_ok
  have hS3 : Pure Try.prog G n_sat_Solve [.agg [.int .i64 2, trows w3], .int .i64 100] fun u => u = .tup [ansV 2 100 (some (s3, true)), .int .i64 0] := by
    have h := c_Solve (G := G) hT 2 w3 100 (by decide) (by decide) (by decide) (by decide) (by decide)
    rw [e3] at h
    exact Pure.args (.cons _ _ _ _ (wk_tfml _ _) (.cons _ _ _ _ (.refl _) .nil)) h
  have hS0 : Pure Try.prog G n_sat_Solve [.agg [.int .i64 2, trows [[]]], .int .i64 0] fun u => u = .tup [ansV 2 0 (some (s0, false)), .int .i64 0] := by
    have h := c_Solve (G := G) hT 2 [[]] 0 (by decide) (by decide) (by decide) (by decide) (by decide)
    rw [e0] at h
    exact Pure.args (.cons _ _ _ _ (wk_tfml _ _) (.cons _ _ _ _ (.refl _) .nil)) h
  have hK4 : Pure Try.prog G n_proofmarklaw07_kind [.agg [.int .i64 2, trows w4], .int .i64 100] fun u => u = .int .u8 2 := by
    have h := c_kind (G := G) hT 2 w4 100 (by decide) (by decide) (by decide) (by decide) (by decide)
    rw [w4_ok] at h
    exact Pure.args (.cons _ _ _ _ (wk_tfml _ _) (.cons _ _ _ _ (.refl _) .nil)) h
  have hK1 : Pure Try.prog G n_proofmarklaw07_kind [.agg [.int .i64 2, trows [[1, 2]]], .int .i64 0] fun u => u = .int .u8 0 := by
    have h := c_kind (G := G) hT 2 [[1, 2]] 0 (by decide) (by decide) (by decide) (by decide) (by decide)
    rw [w1_ok] at h
    exact Pure.args (.cons _ _ _ _ (wk_tfml _ _) (.cons _ _ _ _ (.refl _) .nil)) h
  simp only [trows, trow, ints, w3, w4, List.map_cons, List.map_nil] at hS3 hS0 hK4 hK1
  intro t
  refine C_keep 0 (Nat.zero_le _) (C_tab hT t_proofmarklaw07_works (by simp [proofmarklaw07_works]) (W_run 1000 ?_))
  have c0 : ((0 : Nat) : Int) = 0 := rfl
  have c1 : ((1 : Nat) : Int) = 1 := rfl
  have c2 : ((2 : Nat) : Int) = 2 := rfl
  simp -implicitDefEqProofs (disch := omega) only [go_sem, ↓reduceIte, reduceCtorEq, Nat.reduceAdd, Nat.reduceEqDiff, Nat.reduceLeDiff, Nat.zero_add, Nat.le_refl, proofmarklaw07_works, proofmarklaw07_works_r0, proofmarklaw07_works_r1, proofmarklaw07_works_r2, proofmarklaw07_works_r3, and_true]
  refine callPS hT t_sat_Solve hS3 (by simp [namelessL, nameless]) 1000 ?_
  simp -implicitDefEqProofs (disch := omega) only [go_sem, ↓reduceIte, reduceCtorEq, Nat.reduceAdd, Nat.reduceEqDiff, Nat.reduceLeDiff, Nat.reduceLT, Nat.zero_add, Bool.not_false, Nat.le_refl, and_true, ansV, m3, bls]
  refine callPS hT t_sat_Solve hS0 (by simp [namelessL, nameless]) 1000 ?_
  simp -implicitDefEqProofs (disch := omega) only [go_sem, ↓reduceIte, reduceCtorEq, Nat.reduceAdd, Nat.reduceEqDiff, Nat.reduceLeDiff, Nat.reduceLT, Int.reduceToNat, Int.reduceLE, Nat.zero_add, Nat.add_zero, Bool.not_false, Nat.le_refl, Nat.zero_le, beq_self_eq_true, c2, true_implies, and_true, ansV, rows, p0, row, ints]
  refine callPS hT t_proofmarklaw07_kind hK4 (by simp [namelessL, nameless]) 1000 ?_
  simp -implicitDefEqProofs (disch := omega) only [go_sem, ↓reduceIte, reduceCtorEq, Nat.reduceAdd, Nat.reduceEqDiff, Nat.reduceLeDiff, Nat.reduceLT, Int.reduceToNat, Int.reduceLE, Nat.zero_add, Nat.add_zero, Nat.le_refl, beq_self_eq_true, c0, c1, true_implies, and_true]
  refine callPS hT t_proofmarklaw07_kind hK1 (by simp [namelessL, nameless]) 1000 ?_
  simp -implicitDefEqProofs (disch := omega) only [go_sem, ↓reduceIte, reduceCtorEq, Nat.reduceAdd, Nat.reduceEqDiff, Nat.zero_add, Nat.zero_le, beq_self_eq_true, and_true]
end Go.Proofs.Ytpepmhmgfpkdmaa

