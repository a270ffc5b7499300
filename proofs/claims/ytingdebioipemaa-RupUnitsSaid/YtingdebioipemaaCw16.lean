/- Contracts: works. -/
import Derived.Test.YtingdebioipemaaCw15
namespace Go.Proofs.Ytingdebioipemaa
open Go Go.Am Go.Cl
set_option maxRecDepth 100000
variable {G : Nat → Option V}

def trow (c : List Int) : V := .lst 1 (ints c) true
def trows (F : List (List Int)) : V := .lst 1 (F.map trow) true
theorem wk_trow (c : List Int) : Wk (trow c) (row c) := .lst 1 1 _ _ true (WkL.refl _) (.inr rfl)
theorem wk_trows (F : List (List Int)) : Wk (trows F) (rows F) := .lst 1 1 _ _ true (WkL.map fun c _ => wk_trow c) (.inr rfl)
theorem wk_tfml (v : Int) (F : List (List Int)) : Wk (.agg [.int .i64 v, trows F]) (fml v F) := .agg _ _ (.cons _ _ _ _ (.refl _) (.cons _ _ _ _ (wk_trows F) .nil))
def wF : List (List Int) := [[1, 2], [-1, 2], [1, -2], [-1, -2]]
theorem c_works (hT : TabOk Try.prog tab) : Pure Try.prog G n_proofmarklaw08_works [] fun u => u = .bool true := by
  have hSh : Pure Try.prog G n_rup_Short [.agg [.int .i64 2, trows wF], trows [[1, 2, -2], [2], [2], []]] fun u => u = .tup [rows [[2], []], .bool true] := by
    have h := c_Short (G := G) hT 2 wF [[1, 2, -2], [2], [2], []] (by decide) (by decide) (by decide) (by decide)
    rw [show short 2 wF [[1, 2, -2], [2], [2], []] = ([[2], []], true) by decide +kernel] at h
    exact Pure.args (.cons _ _ _ _ (wk_tfml _ _) (.cons _ _ _ _ (wk_trows _) .nil)) h
  have hF1 : Pure Try.prog G n_rup_Follows [.agg [.int .i64 2, trows wF], trow [2]] fun u => u = .bool true := by
    have h := c_Follows (G := G) hT 2 wF [2] (by decide) (by decide) (by decide) (by decide)
    rw [show follows 2 wF [2] = true by decide +kernel] at h
    exact Pure.args (.cons _ _ _ _ (wk_tfml _ _) (.cons _ _ _ _ (wk_trow _) .nil)) h
  have hF2 : Pure Try.prog G n_rup_Follows [.agg [.int .i64 2, trows wF], .lst 0 [] true] fun u => u = .bool false := by
    have h := c_Follows (G := G) hT 2 wF [] (by decide) (by decide) (by decide) (by decide)
    rw [show follows 2 wF [] = false by decide +kernel] at h
    exact Pure.args (.cons _ _ _ _ (wk_tfml _ _) (.cons _ _ _ _ (.lst 0 1 [] [] true .nil (.inl rfl)) .nil)) h
  have hC1 : Pure Try.prog G n_rup_Check [.agg [.int .i64 2, trows wF], trows [[2], []]] fun u => u = .bool true := by
    have h := c_Check (G := G) hT 2 wF [[2], []] (by decide) (by decide) (by decide) (by decide)
    rw [show checkS 2 wF [[2], []] = true by decide +kernel] at h
    exact Pure.args (.cons _ _ _ _ (wk_tfml _ _) (.cons _ _ _ _ (wk_trows _) .nil)) h
  have hC2 : Pure Try.prog G n_rup_Check [.agg [.int .i64 2, trows wF], trows [[]]] fun u => u = .bool false := by
    have h := c_Check (G := G) hT 2 wF [[]] (by decide) (by decide) (by decide) (by decide)
    rw [show checkS 2 wF [[]] = false by decide +kernel] at h
    exact Pure.args (.cons _ _ _ _ (wk_tfml _ _) (.cons _ _ _ _ (wk_trows _) .nil)) h
  have hS : Pure Try.prog G n_proofmarklaw08_sameRows [rows [[2], []], trows [[2], []]] fun u => u = .bool true := by
    have h := c_sameRows (G := G) hT [[2], []] [[2], []] (by decide) (by decide) (by decide) (by decide)
    exact Pure.args (.cons _ _ _ _ (.refl _) (.cons _ _ _ _ (wk_trows _) .nil)) (by simpa using h)
  simp only [trows, trow, rows, row, ints, wF, List.map_cons, List.map_nil] at hSh hF1 hF2 hC1 hC2 hS
  intro t
  refine C_keep 0 (Nat.zero_le _) (C_tab hT t_proofmarklaw08_works (by simp [proofmarklaw08_works]) (W_run 1000 ?_))
  simp -implicitDefEqProofs (disch := omega) only [go_sem, ↓reduceIte, reduceCtorEq, Nat.reduceAdd, Nat.reduceEqDiff, Nat.reduceLeDiff, Nat.zero_add, Bool.not_false, Nat.le_refl, proofmarklaw08_works, proofmarklaw08_works_r0, proofmarklaw08_works_r1, proofmarklaw08_works_r2, proofmarklaw08_works_r3]
  refine callPS hT t_rup_Short hSh (by simp [namelessL, nameless]) 1000 ?_
  simp -implicitDefEqProofs (disch := omega) only [go_sem, ↓reduceIte, reduceCtorEq, Nat.reduceAdd, Nat.reduceEqDiff, Nat.reduceLT, Nat.zero_add, Nat.le_refl]
  refine callPS hT t_rup_Follows hF1 (by simp [namelessL, nameless]) 1000 ?_
  simp -implicitDefEqProofs (disch := omega) only [go_sem, ↓reduceIte, reduceCtorEq, Nat.reduceAdd, Nat.reduceEqDiff, Nat.zero_add, Nat.le_refl]
  refine callPS hT t_rup_Follows hF2 (by simp [namelessL, nameless]) 1000 ?_
  simp -implicitDefEqProofs (disch := omega) only [go_sem, ↓reduceIte, reduceCtorEq, Nat.reduceAdd, Nat.reduceEqDiff, Nat.reduceLeDiff, Nat.zero_add, Bool.not_false, Nat.le_refl]
  refine callPS hT t_rup_Check hC1 (by simp [namelessL, nameless]) 1000 ?_
  simp -implicitDefEqProofs (disch := omega) only [go_sem, ↓reduceIte, reduceCtorEq, Nat.reduceAdd, Nat.reduceEqDiff, Nat.zero_add, Nat.le_refl]
  refine callPS hT t_rup_Check hC2 (by simp [namelessL, nameless]) 1000 ?_
  simp -implicitDefEqProofs (disch := omega) only [go_sem, ↓reduceIte, reduceCtorEq, Nat.reduceAdd, Nat.reduceEqDiff, Nat.reduceLeDiff, Nat.zero_add, Bool.not_false, Nat.le_refl]
  refine callPS hT t_proofmarklaw08_sameRows hS (by simp [namelessL, nameless]) 1000 ?_
  simp -implicitDefEqProofs (disch := omega) only [go_sem, ↓reduceIte, reduceCtorEq, Nat.reduceEqDiff, Nat.zero_add, Nat.zero_le]
end Go.Proofs.Ytingdebioipemaa
