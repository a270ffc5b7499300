/- What symbols are known to be. -/
import Derived.Test.YtfligilbnpcnaaaGreatDoorWo2
import Derived.Test.YtfligilbnpcnaaaGreatDoorV6
namespace Go.Proofs.YtfligilbnpcnaaaGreatDoor
open Go Go.Am
set_option maxRecDepth 100000
set_option maxHeartbeats 1000000
variable {P : Program} {G : Nat → Option V}

/-- A cell that is known. -/
structure Cl where
  arr : Int
  ver : Int
  at' : Int
  n : Int
def Cl.v (c : Cl) : V := .agg [.int .i64 c.arr, .int .i64 c.ver, .int .i64 c.at', .int .i64 c.n]
/-- What is known. -/
def envV (S : List Int) (tS : Bool) (zC : Nat) (C : List Cl) (tC : Bool) : V := .agg [.lst 1 (nints S) tS, .lst zC (C.map Cl.v) tC]
def symE (S : List Int) (k : Int) : Int := if k < 0 ∨ (S.length : Int) ≤ k then 0 else S.getD k.toNat 0
theorem c_Sym (hT : TabOk P tab) (S : List Int) (tS : Bool) (zC : Nat) (C : List Cl) (tC : Bool) (k : Int) : Pure P G n_value_Env_Sym [envV S tS zC C tC, .int .i64 k] fun v => v = .int .i64 (symE S k) := by
  intro t
  refine C_keep 0 (Nat.zero_le _) (C_tab hT t_value_Env_Sym (by simp [value_Env_Sym]) (W_run 14 ?_))
  by_cases h1 : k < 0
  · have h1' : decide (k < 0) = true := by simpa using h1
    simp -implicitDefEqProofs (disch := omega) only [go_sem, ↓reduceIte, reduceCtorEq, Nat.reduceEqDiff, Nat.zero_add, decide_true, value_Env_Sym, zq7_0, zq7_1, zq7_2, zq7_3, envV, symE, List.length_nil, List.nil_append, h1, true_or, and_true]
    iterate 9 (try (refine run_sem 4 ?_; simp -implicitDefEqProofs (disch := omega) only [go_sem, ↓reduceIte, reduceCtorEq, Nat.reduceEqDiff, Nat.zero_add, Nat.zero_le, List.length_nil, List.length_cons, and_true]))
  · have h1' : decide (k < 0) = false := by simpa using h1
    by_cases h2 : (S.length : Int) ≤ k
    · have h2' : decide ((S.length : Int) ≤ k) = true := by simpa using h2
      simp -implicitDefEqProofs (disch := omega) only [go_sem, ↓reduceIte, reduceCtorEq, Nat.reduceAdd, Nat.reduceEqDiff, Nat.reduceLeDiff, Nat.zero_add, Nat.add_zero, decide_false, value_Env_Sym, zq7_0, zq7_1, zq7_2, zq7_3, envV, symE, List.length_nil, List.length_cons, List.nil_append, h1, h2, or_true, true_implies, and_true]
      iterate 9 (try (refine run_sem 4 ?_; simp -implicitDefEqProofs (disch := omega) only [go_sem, ↓reduceIte, reduceCtorEq, Nat.reduceAdd, Nat.reduceEqDiff, Nat.zero_add, decide_true, Nat.zero_le, ge_iff_le, nints_length, List.length_nil, List.length_cons, h2, and_true]))
    · have h2' : decide ((S.length : Int) ≤ k) = false := by simpa using h2
      obtain ⟨x, hx⟩ : ∃ x, S[k.toNat]? = some x := ⟨_, List.getElem?_eq_getElem (by omega)⟩
      have hg := nints_get hx
      have hg2 : S.getD k.toNat 0 = x := by simp [List.getD_eq_getElem?_getD, hx]
      simp -implicitDefEqProofs (disch := omega) only [go_sem, ↓reduceIte, reduceCtorEq, Nat.reduceAdd, Nat.reduceEqDiff, Nat.reduceLeDiff, Nat.zero_add, Nat.add_zero, decide_false, value_Env_Sym, zq7_0, zq7_1, zq7_2, zq7_3, envV, symE, List.length_nil, List.length_cons, List.nil_append, h1, h2, hg2, or_self, true_implies, and_true]
      iterate 9 (try (refine run_sem 4 ?_; simp -implicitDefEqProofs (disch := omega) only [go_sem, need_of, ↓reduceIte, reduceCtorEq, Nat.reduceAdd, Nat.reduceEqDiff, Nat.reduceLeDiff, Nat.zero_add, Nat.add_zero, decide_false, Nat.le_refl, Nat.zero_le, ge_iff_le, nints_length, List.length_nil, List.length_cons, h2, hg, true_implies, and_true]))
theorem c_few (hT : TabOk P tab) (S : List Int) (tS : Bool) (zC : Nat) (C : List Cl) (tC : Bool) : Pure P G n_proofmarklaw03_few [envV S tS zC C tC] fun v => v = .bool (decide (S.length ≤ 60 ∧ C.length ≤ 60)) := by
  intro t
  refine C_keep 0 (Nat.zero_le _) (C_tab hT t_proofmarklaw03_few (by simp [proofmarklaw03_few]) (W_run 14 ?_))
  by_cases h1 : S.length ≤ 60
  · have h1' : decide ((S.length : Int) ≤ 60) = true := by simp; omega
    by_cases h2 : C.length ≤ 60
    · have h2' : decide ((C.length : Int) ≤ 60) = true := by simp; omega
      simp -implicitDefEqProofs (disch := omega) only [go_sem, ↓reduceIte, reduceCtorEq, Nat.reduceAdd, Nat.reduceEqDiff, Nat.reduceLeDiff, Nat.zero_add, Nat.add_zero, decide_true, Nat.le_refl, proofmarklaw03_few, zq2_0, zq2_1, envV, nints_length, List.length_nil, List.length_cons, List.nil_append, h1, h1', h2, and_self, true_implies]
      iterate 9 (try (refine run_sem 4 ?_; simp -implicitDefEqProofs (disch := omega) only [go_sem, ↓reduceIte, reduceCtorEq, Nat.reduceAdd, Nat.reduceEqDiff, Nat.zero_add, Nat.zero_le, List.length_map, List.length_nil, List.length_cons, h2', and_self]))
    · have h2' : decide ((C.length : Int) ≤ 60) = false := by simp; omega
      simp -implicitDefEqProofs (disch := omega) only [go_sem, ↓reduceIte, reduceCtorEq, Nat.reduceAdd, Nat.reduceEqDiff, Nat.reduceLeDiff, Nat.zero_add, Nat.add_zero, decide_false, Nat.le_refl, proofmarklaw03_few, zq2_0, zq2_1, envV, nints_length, List.length_nil, List.length_cons, List.nil_append, h1, h1', h2, and_false, true_implies, and_true]
      iterate 9 (try (refine run_sem 4 ?_; simp -implicitDefEqProofs (disch := omega) only [go_sem, ↓reduceIte, reduceCtorEq, Nat.reduceAdd, Nat.reduceEqDiff, Nat.zero_add, Nat.zero_le, List.length_map, List.length_nil, List.length_cons, h2', and_true]))
  · have h1' : decide ((S.length : Int) ≤ 60) = false := by simp; omega
    simp -implicitDefEqProofs (disch := omega) only [go_sem, ↓reduceIte, reduceCtorEq, Nat.reduceAdd, Nat.reduceEqDiff, Nat.reduceLeDiff, Nat.zero_add, Nat.add_zero, decide_false, proofmarklaw03_few, zq2_0, zq2_1, envV, nints_length, List.length_nil, List.length_cons, List.nil_append, h1, h1', false_and, true_implies, and_true]
    iterate 9 (try (refine run_sem 4 ?_; simp -implicitDefEqProofs (disch := omega) only [go_sem, ↓reduceIte, reduceCtorEq, Nat.reduceEqDiff, Nat.zero_add, Nat.zero_le, List.length_nil, List.length_cons, and_true]))

theorem c_hasN (hT : TabOk P tab) (l : List Int) (z : Bool) (hl : l.length ≤ 1000000) (k : Int) : Pure P G n_proofmarklaw03_has [.lst 1 (nints l) z, .int .i64 k] fun v => v = .bool (decide (k ∈ l)) := by
  intro t
  refine C_keep 0 (Nat.zero_le _) (C_tab hT t_proofmarklaw03_has (by simp [proofmarklaw03_has]) (W_run 1000 ?_))
  simp -implicitDefEqProofs (disch := omega) only [go_sem, ↓reduceIte, reduceCtorEq, Nat.reduceEqDiff, Nat.zero_add, proofmarklaw03_has, zqt_0, zqt_1, zqt_2, zqt_3, zqt_4, zqt_5, zqt_6]
  refine sem_for l (fun i fr σ => (∀ x ∈ l.take i, x ≠ k) ∧ fget fr 0 = .lst 1 (nints l) z ∧ fget fr 1 = .int .i64 k ∧ fget fr 5 = .int .i64 ((i : Nat) : Int))
    (fun e fr σ => (e = .ret ∧ fget fr 4 = .bool true ∧ k ∈ l) ∨ (e = .ex 0 ∧ ∀ x ∈ l, x ≠ k)) ⟨by simp, by simp -implicitDefEqProofs (disch := omega) only [go_sem, ↓reduceIte], by simp -implicitDefEqProofs (disch := omega) only [go_sem, ↓reduceIte, reduceCtorEq], by simp -implicitDefEqProofs (disch := omega) only [go_sem, ↓reduceIte, reduceCtorEq, Nat.reduceEqDiff]; rfl⟩ (fun i x hx fr σ hJ => ?_) (fun i hi fr σ hJ => ?_) (fun e fr σ hE => ?_)
  · obtain ⟨hn, f0, f1, f5⟩ := hJ
    have hlt := (List.getElem?_eq_some_iff.1 hx).1
    have hg := nints_get hx
    have hwi := w_nx hlt (by omega)
    by_cases hk : x = k
    · subst hk
      refine W_run 1000 ?_
      simp -implicitDefEqProofs (disch := omega) only [go_sem, need_of, ↓reduceIte, reduceCtorEq, Nat.reduceEqDiff, Nat.succ_ne_zero, Nat.zero_add, decide_true, Nat.le_refl, beq_self_eq_true, nints_length, List.length_nil, List.length_cons, true_implies, true_and, and_true, f0, f1, f5, hlt, hg]
      exact List.mem_of_getElem? hx
    · refine W_run 1000 ?_
      simp -implicitDefEqProofs (disch := omega) only [go_sem, need_of, ↓reduceIte, reduceCtorEq, Nat.reduceEqDiff, Nat.succ_ne_zero, Nat.zero_add, decide_true, Nat.le_refl, nints_length, List.length_nil, List.length_cons, not_false_eq_true, false_implies, true_implies, true_and, and_true, f0, f1, f5, hlt, hg, hwi, hk]
      refine ⟨_, _, Shift.refl _ _ _ _, ?_⟩
      simp -implicitDefEqProofs (disch := omega) only [go_sem, ↓reduceIte, reduceCtorEq, Nat.reduceEqDiff, Nat.succ_ne_zero, f0, f1]
      intro y hy
      rw [take_snoc2 hx] at hy
      rcases List.mem_append.1 hy with h | h
      · exact hn y h
      · rw [List.mem_singleton.1 h]; exact hk
  · obtain ⟨hn, f0, f1, f5⟩ := hJ
    rw [hi, List.take_length] at hn
    refine W_run 1000 ?_
    simp -implicitDefEqProofs (disch := omega) only [go_sem, ↓reduceIte, reduceCtorEq, Nat.reduceEqDiff, Nat.succ_ne_zero, decide_false, nints_length, true_and, f0, f5, hi, Nat.lt_irrefl]
    exact hn
  · rcases hE with ⟨rfl, f4, hk⟩ | ⟨rfl, hn⟩
    · refine run_sem 1000 ?_
      simp -implicitDefEqProofs (disch := omega) only [go_sem, decide_true, Nat.zero_le, and_true, f4, hk]
    · have hk : ¬ k ∈ l := fun h => hn k h rfl
      refine run_sem 1000 ?_
      simp -implicitDefEqProofs (disch := omega) only [go_sem, ↓reduceIte, decide_false, Nat.zero_le, and_true, hk]
end Go.Proofs.YtfligilbnpcnaaaGreatDoor

