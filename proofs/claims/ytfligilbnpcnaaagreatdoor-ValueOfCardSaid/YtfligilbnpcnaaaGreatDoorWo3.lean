/- What symbols are known to be. -/
import Derived.Test.YtfligilbnpcnaaaGreatDoorWo2
import Derived.Test.YtfligilbnpcnaaaGreatDoorV6
namespace Go.Proofs.YtfligilbnpcnaaaGreatDoor
open Go Go.Am
set_option maxRecDepth 100000
set_option maxHeartbeats 1000000
variable {P : Program} {G : Nat → Option V}

/-- A cell that is known. -/
structure Cl where
  arr : Int
  ver : Int
  at' : Int
  n : Int
def Cl.v (c : Cl) : V := .agg [.int .i64 c.arr, .int .i64 c.ver, .int .i64 c.at', .int .i64 c.n]
/-- What is known. -/
def envV (S : List Int) (tS : Bool) (zC : Nat) (C : List Cl) (tC : Bool) : V := .agg [.lst 1 (nints S) tS, .lst zC (C.map Cl.v) tC]
def symE (S : List Int) (k : Int) : Int := if k < 0 ∨ (S.length : Int) ≤ k then 0 else S.getD k.toNat 0
theorem c_Sym (hT : TabOk P tab) (S : List Int) (tS : Bool) (zC : Nat) (C : List Cl) (tC : Bool) (k : Int) : Pure P G n_value_Env_Sym [envV S tS zC C tC, .int .i64 k] fun v => v = .int .i64 (symE S k) := by
  intro t
  refine C_keep 0 (Nat.zero_le _) (C_tab hT t_value_Env_Sym (by simp [value_Env_Sym]) (W_run 14 ?_))
  by_cases h1 : k < 0
  · have h1' : decide (k < 0) = true := by simpa using h1
    simp -implicitDefEqProofs (disch := omega) only [go_sem, ↓reduceIte, reduceCtorEq, Nat.reduceEqDiff, Nat.zero_add, decide_true, value_Env_Sym, value_Env_Sym_r0, value_Env_Sym_r1, value_Env_Sym_r2, value_Env_Sym_r3, envV, symE, List.length_nil, List.nil_append, h1, true_or, and_true]
    iterate 9 (try (refine run_sem 4 ?_; simp -implicitDefEqProofs (disch := omega) only [go_sem, ↓reduceIte, reduceCtorEq, Nat.reduceEqDiff, Nat.zero_add, Nat.zero_le, List.length_nil, List.length_cons, and_true]))
  · have h1' : decide (k < 0) = false := by simpa using h1
    by_cases h2 : (S.length : Int) ≤ k
    · have h2' : decide ((S.length : Int) ≤ k) = true := by simpa using h2
      simp -implicitDefEqProofs (disch := omega) only [go_sem, ↓reduceIte, reduceCtorEq, Nat.reduceAdd, Nat.reduceEqDiff, Nat.reduceLeDiff, Nat.zero_add, Nat.add_zero, decide_false, value_Env_Sym, value_Env_Sym_r0, value_Env_Sym_r1, value_Env_Sym_r2, value_Env_Sym_r3, envV, symE, List.length_nil, List.length_cons, List.nil_append, h1, h2, or_true, true_implies, and_true]
      iterate 9 (try (refine run_sem 4 ?_; simp -implicitDefEqProofs (disch := omega) only [go_sem, ↓reduceIte, reduceCtorEq, Nat.reduceAdd, Nat.reduceEqDiff, Nat.zero_add, decide_true, Nat.zero_le, ge_iff_le, nints_length, List.length_nil, List.length_cons, h2, and_true]))
    · have h2' : decide ((S.length : Int) ≤ k) = false := by simpa using h2
      obtain ⟨x, hx⟩ : ∃ x, S[k.toNat]? = some x := ⟨_, List.getElem?_eq_getElem (by omega)⟩
      have hg := nints_get hx
      have hg2 : S.getD k.toNat 0 = x := by simp [List.getD_eq_getElem?_getD, hx]
      simp -implicitDefEqProofs (disch := omega) only [go_sem, ↓reduceIte, reduceCtorEq, Nat.reduceAdd, Nat.reduceEqDiff, Nat.reduceLeDiff, Nat.zero_add, Nat.add_zero, decide_false, value_Env_Sym, value_Env_Sym_r0, value_Env_Sym_r1, value_Env_Sym_r2, value_Env_Sym_r3, envV, symE, List.length_nil, List.length_cons, List.nil_append, h1, h2, hg2, or_self, true_implies, and_true]
      iterate 9 (try (refine run_sem 4 ?_; simp -implicitDefEqProofs (disch := omega) only [go_sem, need_of, ↓reduceIte, reduceCtorEq, Nat.reduceAdd, Nat.reduceEqDiff, Nat.reduceLeDiff, Nat.zero_add, Nat.add_zero, decide_false, Nat.le_refl, Nat.zero_le, ge_iff_le, nints_length, List.length_nil, List.length_cons, h2, hg, true_implies, and_true]))
theorem c_few (hT : TabOk P tab) (S : List Int) (tS : Bool) (zC : Nat) (C : List Cl) (tC : Bool) : Pure P G n_proofmarklaw03_few [envV S tS zC C tC] fun v => v = .bool (decide (S.length ≤ 60 ∧ C.length ≤ 60)) := by
  intro t
  refine C_keep 0 (Nat.zero_le _) (C_tab hT t_proofmarklaw03_few (by simp [proofmarklaw03_few]) (W_run 14 ?_))
  by_cases h1 : S.length ≤ 60
  · have h1' : decide ((S.length : Int) ≤ 60) = true := by simp; omega
    by_cases h2 : C.length ≤ 60
    · have h2' : decide ((C.length : Int) ≤ 60) = true := by simp; omega
      simp -implicitDefEqProofs (disch := omega) only [go_sem, ↓reduceIte, reduceCtorEq, Nat.reduceAdd, Nat.reduceEqDiff, Nat.reduceLeDiff, Nat.zero_add, Nat.add_zero, decide_true, Nat.le_refl, proofmarklaw03_few, proofmarklaw03_few_r0, proofmarklaw03_few_r1, envV, nints_length, List.length_nil, List.length_cons, List.nil_append, h1, h1', h2, and_self, true_implies]
      iterate 9 (try (refine run_sem 4 ?_; simp -implicitDefEqProofs (disch := omega) only [go_sem, ↓reduceIte, reduceCtorEq, Nat.reduceAdd, Nat.reduceEqDiff, Nat.zero_add, Nat.zero_le, List.length_map, List.length_nil, List.length_cons, h2', and_self]))
    · have h2' : decide ((C.length : Int) ≤ 60) = false := by simp; omega
      simp -implicitDefEqProofs (disch := omega) only [go_sem, ↓reduceIte, reduceCtorEq, Nat.reduceAdd, Nat.reduceEqDiff, Nat.reduceLeDiff, Nat.zero_add, Nat.add_zero, decide_false, Nat.le_refl, proofmarklaw03_few, proofmarklaw03_few_r0, proofmarklaw03_few_r1, envV, nints_length, List.length_nil, List.length_cons, List.nil_append, h1, h1', h2, and_false, true_implies, and_true]
      iterate 9 (try (refine run_sem 4 ?_; simp -implicitDefEqProofs (disch := omega) only [go_sem, ↓reduceIte, reduceCtorEq, Nat.reduceAdd, Nat.reduceEqDiff, Nat.zero_add, Nat.zero_le, List.length_map, List.length_nil, List.length_cons, h2', and_true]))
  · have h1' : decide ((S.length : Int) ≤ 60) = false := by simp; omega
    simp -implicitDefEqProofs (disch := omega) only [go_sem, ↓reduceIte, reduceCtorEq, Nat.reduceAdd, Nat.reduceEqDiff, Nat.reduceLeDiff, Nat.zero_add, Nat.add_zero, decide_false, proofmarklaw03_few, proofmarklaw03_few_r0, proofmarklaw03_few_r1, envV, nints_length, List.length_nil, List.length_cons, List.nil_append, h1, h1', false_and, true_implies, and_true]
    iterate 9 (try (refine run_sem 4 ?_; simp -implicitDefEqProofs (disch := omega) only [go_sem, ↓reduceIte, reduceCtorEq, Nat.reduceEqDiff, Nat.zero_add, Nat.zero_le, List.length_nil, List.length_cons, and_true]))

end Go.Proofs.YtfligilbnpcnaaaGreatDoor

