/- Names of instructions, and what they write: walked. -/
import Derived.Test.YtkhdfbokkneeaaaDoorRt2
namespace Go.Proofs.YtkhdfbokkneeaaaDoor
open Go Go.Am Go.Rv
set_option maxRecDepth 100000
variable {P : Program}

def rro (op : Int) : RR := if 1 ≤ op ∧ op ≤ 65 then T.getD (op.toNat - 1) ⟨0, [], 0, 0, 0⟩ else ⟨0, [], 0, 0, 0⟩
theorem rrOf_rro (op : Int) : rrOf op = rrC (rro op) := by unfold rrOf rro; split <;> rfl
theorem bitsV_lst (l : List (Nat × Nat)) : ∃ sz L q, bitsV l = .lst sz L q := by
  cases l <;> exact ⟨_, _, _, rfl⟩
theorem rowOf_rro (op : Int) : ∃ a b sz L q z s m c, rowOf op = [.bool (hasRd (rro op).form), .bool a, .bool b, .lst sz L q, .int .i64 z, .bool s, .int .u32 m, .str (rro op).name, .int .u32 c] := by
  unfold rowOf rro
  split
  · generalize T.getD (op.toNat - 1) ⟨0, [], 0, 0, 0⟩ = r
    obtain ⟨sz, L, q, h⟩ := bitsV_lst (bitsOf r.form)
    exact ⟨hasR1 r.form, hasR2 r.form, sz, L, q, nghts r.form, isSgn r.form, maskOf r.form, matchOf r, by rw [← h]; rfl⟩
  · exact ⟨false, false, 0, [], true, 0, false, 0, 0, rfl⟩
theorem rro_forms (op : Int) : Forms (rro op).form := by
  unfold rro
  split
  · rename_i h
    rw [List.getD_eq_getElem?_getD]
    obtain ⟨r, hk⟩ : ∃ r, T[op.toNat - 1]? = some r := ⟨_, List.getElem?_eq_getElem (by rw [T_len]; omega)⟩
    rw [hk]
    have := (T_forms r (List.mem_of_getElem? hk)).1
    simp only [Option.getD_some]
    unfold Forms; omega
  · simp [Forms]
theorem c_Name (hT : TabOk P tab) (op : Int) (h0 : 0 ≤ op) (h1 : op ≤ 255) : Pure P G0 n_rv_Name [.int .u8 op] fun u => u = .str (rro op).name := by
  intro t
  have hO := c_ofop hT op h0 h1
  obtain ⟨a, b, sz, L, q, z, s, m, c, hr⟩ := rowOf_rro op
  rw [hr] at hO
  refine C_keep 0 (Nat.zero_le _) (C_tab hT t_rv_Name (by simp [rv_Name]) (W_run 1000 ?_))
  simp -implicitDefEqProofs (disch := omega) only [go_sem, ↓reduceIte, reduceCtorEq, Nat.reduceEqDiff, rv_Name, rv_Name_r0, rv_Name_r1, rv_Name_r2]
  refine callPS hT t_rv_of hO rfl 1000 ?_
  simp -implicitDefEqProofs (disch := omega) only [go_sem, ↓reduceIte, reduceCtorEq, Nat.reduceAdd, Nat.reduceEqDiff, Nat.reduceLeDiff, Nat.reduceLT, Nat.zero_add, Bool.not_false, Nat.le_refl, Nat.zero_le]
theorem c_rName (hT : TabOk P tab) (op : Int) (h0 : 0 ≤ op) (h1 : op ≤ 255) : Pure P G0 n_proofmarkref10_Name [.int .u8 op] fun u => u = .str (rro op).name := by
  intro t
  have hO := c_rrow hT op h0 h1
  rw [rrOf_rro, rrC] at hO
  refine C_keep 0 (Nat.zero_le _) (C_tab hT t_proofmarkref10_Name (by simp [proofmarkref10_Name]) (W_run 1000 ?_))
  simp -implicitDefEqProofs (disch := omega) only [go_sem, ↓reduceIte, reduceCtorEq, Nat.reduceEqDiff, proofmarkref10_Name, proofmarkref10_Name_r0, proofmarkref10_Name_r1]
  refine callPS hT t_proofmarkref10_row hO rfl 1000 ?_
  simp -implicitDefEqProofs (disch := omega) only [go_sem, ↓reduceIte, reduceCtorEq, Nat.reduceAdd, Nat.reduceEqDiff, Nat.reduceLeDiff, Nat.zero_add, Nat.le_refl]
def wrs (x : In) : Int × Bool := if (enc T x).2 = 0 ∧ hasRd (rro x.op).form = true ∧ x.rd ≠ 0 then (x.rd, true) else (0, false)
theorem c_Writes (hT : TabOk Tryd.prog tab) (x : In) (hx : InOk x) : Pure Tryd.prog G0 n_rv_Writes [.agg (inC x)] fun u => u = .tup [.int .u8 (wrs x).1, .bool (wrs x).2] := by
  intro t
  have hE := c_Encode hT x hx
  have hO := c_ofop hT x.op hx.1.1 hx.1.2
  obtain ⟨a, b, sz, L, q, z, s, m, c, hr⟩ := rowOf_rro x.op
  rw [hr] at hO
  refine C_keep 0 (Nat.zero_le _) (C_tab hT t_rv_Writes (by simp [rv_Writes]) (W_run 14 ?_))
  simp -implicitDefEqProofs (disch := omega) only [go_sem, ↓reduceIte, reduceCtorEq, Nat.reduceAdd, Nat.reduceEqDiff, Nat.zero_add, Nat.le_refl, rv_Writes, rv_Writes_r0, rv_Writes_r1, rv_Writes_r2, rv_Writes_r3, rv_Writes_r4, rv_Writes_r5, inC, false_implies, and_true]
  iterate 9 (try (refine run_sem 4 ?_; simp -implicitDefEqProofs (disch := omega) only [go_sem, need_of, ↓reduceIte, reduceCtorEq, Nat.reduceAdd, Nat.reduceEqDiff, Nat.reduceLeDiff, Nat.reduceLT, Nat.reduceSub, Nat.reduceMul, Int.reduceToNat, Int.reduceLE, Int.reduceLT, Int.reduceEq, Int.reduceNe, Nat.succ_ne_zero, Nat.zero_add, Nat.add_zero, Nat.mul_one, Nat.one_mul, Nat.zero_mul, decide_true, decide_false, Bool.not_true, Bool.not_false, Nat.le_refl, Nat.zero_le, ge_iff_le, gt_iff_lt, Nat.reduceBEq, Nat.reduceBNe, beq_self_eq_true, bne_self_eq_false, Option.isSome_some, Option.isSome_none, Option.getD_some, Option.getD_none, rv_Writes, rv_Writes_r0, rv_Writes_r1, rv_Writes_r2, rv_Writes_r3, rv_Writes_r4, rv_Writes_r5, inC, false_implies, true_implies, true_and, and_true, not_true_eq_false, not_false_eq_true, Int.reduceBEq, Int.reduceBNe, Bool.not_true, Bool.not_false]))
  refine callPS hT t_rv_Encode hE rfl 4 ?_
  simp -implicitDefEqProofs (disch := omega) only [go_sem, ↓reduceIte, reduceCtorEq, Nat.reduceAdd, Nat.reduceEqDiff, Nat.reduceLT, Nat.zero_add]
  iterate 9 (try (refine run_sem 4 ?_; simp -implicitDefEqProofs (disch := omega) only [go_sem, ↓reduceIte, reduceCtorEq, Nat.reduceAdd, Nat.reduceEqDiff, Nat.reduceLeDiff, Nat.zero_add, Nat.add_zero, true_implies, and_true]))
  by_cases h1 : (enc T x).2 = 0
  · by_cases h2 : hasRd (rro x.op).form = true
    · by_cases h3 : x.rd = 0
      · have hw : wrs x = (0, false) := if_neg (by simp [h3])
        have h3' : (x.rd == 0) = true := by simp [h3]
        rw [h2] at hO
        refine callPS hT t_rv_of hO rfl 4 ?_
        simp -implicitDefEqProofs (disch := omega) only [go_sem, ↓reduceIte, reduceCtorEq, Nat.reduceAdd, Nat.reduceEqDiff, Nat.reduceLT, Nat.zero_add, and_true, h1]
        iterate 16 (try (refine run_sem 4 ?_; simp -implicitDefEqProofs (disch := omega) only [go_sem, ↓reduceIte, reduceCtorEq, Nat.reduceAdd, Nat.reduceEqDiff, Nat.reduceLeDiff, Nat.zero_add, Nat.add_zero, Bool.not_true, Bool.not_false, Nat.le_refl, Nat.zero_le, bne_self_eq_false, true_implies, and_true, Bool.not_true, Bool.not_false, h3', hw]))
      · have hw : wrs x = (x.rd, true) := if_pos ⟨h1, h2, h3⟩
        have h3' : (x.rd == 0) = false := by simpa using h3
        rw [h2] at hO
        refine callPS hT t_rv_of hO rfl 4 ?_
        simp -implicitDefEqProofs (disch := omega) only [go_sem, ↓reduceIte, reduceCtorEq, Nat.reduceAdd, Nat.reduceEqDiff, Nat.reduceLT, Nat.zero_add, and_true, h1]
        iterate 16 (try (refine run_sem 4 ?_; simp -implicitDefEqProofs (disch := omega) only [go_sem, ↓reduceIte, reduceCtorEq, Nat.reduceAdd, Nat.reduceEqDiff, Nat.reduceLeDiff, Nat.zero_add, Nat.add_zero, Bool.not_true, Bool.not_false, Nat.le_refl, Nat.zero_le, bne_self_eq_false, true_implies, and_true, Bool.not_true, Bool.not_false, h3', hw]))
    · have hw : wrs x = (0, false) := if_neg (by simp [h2])
      rw [Bool.eq_false_iff.2 h2] at hO
      refine callPS hT t_rv_of hO rfl 4 ?_
      simp -implicitDefEqProofs (disch := omega) only [go_sem, ↓reduceIte, reduceCtorEq, Nat.reduceAdd, Nat.reduceEqDiff, Nat.reduceLT, Nat.zero_add, and_true, h1]
      iterate 16 (try (refine run_sem 4 ?_; simp -implicitDefEqProofs (disch := omega) only [go_sem, ↓reduceIte, reduceCtorEq, Nat.reduceAdd, Nat.reduceEqDiff, Nat.reduceLeDiff, Nat.zero_add, Nat.add_zero, Bool.not_false, Nat.le_refl, Nat.zero_le, bne_self_eq_false, true_implies, and_true, Bool.not_false, hw]))
  · have hw : wrs x = (0, false) := if_neg (by simp [h1])
    have h1' : ((enc T x).2 == 0) = false := by simpa using h1
    have h1'' : ((enc T x).2 = 0) = False := eq_false h1
    refine callPS hT t_rv_of hO rfl 4 ?_
    simp -implicitDefEqProofs (disch := omega) only [go_sem, ↓reduceIte, reduceCtorEq, Nat.reduceAdd, Nat.reduceEqDiff, Nat.reduceLT, Nat.zero_add, and_true]
    iterate 16 (try (refine run_sem 4 ?_; simp -implicitDefEqProofs (disch := omega) only [go_sem, ↓reduceIte, reduceCtorEq, Nat.reduceAdd, Nat.reduceEqDiff, Nat.zero_add, Bool.not_false, Nat.le_refl, Nat.zero_le, and_true, Bool.not_false, h1', bne, hw]))
theorem c_rWrites (hT : TabOk P tab) (x : In) (hx : InOk x) : Pure P G0 n_proofmarkref10_Writes [.agg (inC x)] fun u => u = .tup [.int .u8 (wrs x).1, .bool (wrs x).2] := by
  intro t
  have hE := c_rEncode hT x hx
  have hO := c_rrow hT x.op hx.1.1 hx.1.2
  have hh := c_has (P := P) (G := G0) hT (rro x.op).form (rro_forms _)
  rw [rrOf_rro, rrC] at hO
  refine C_keep 0 (Nat.zero_le _) (C_tab hT t_proofmarkref10_Writes (by simp [proofmarkref10_Writes]) (W_run 14 ?_))
  simp -implicitDefEqProofs (disch := omega) only [go_sem, ↓reduceIte, reduceCtorEq, Nat.reduceAdd, Nat.reduceEqDiff, Nat.zero_add, Nat.le_refl, proofmarkref10_Writes, proofmarkref10_Writes_r0, proofmarkref10_Writes_r1, proofmarkref10_Writes_r2, proofmarkref10_Writes_r3, proofmarkref10_Writes_r4, proofmarkref10_Writes_r5, inC, false_implies, and_true]
  iterate 9 (try (refine run_sem 4 ?_; simp -implicitDefEqProofs (disch := omega) only [go_sem, need_of, ↓reduceIte, reduceCtorEq, Nat.reduceAdd, Nat.reduceEqDiff, Nat.reduceLeDiff, Nat.reduceLT, Nat.reduceSub, Nat.reduceMul, Int.reduceToNat, Int.reduceLE, Int.reduceLT, Int.reduceEq, Int.reduceNe, Nat.succ_ne_zero, Nat.zero_add, Nat.add_zero, Nat.mul_one, Nat.one_mul, Nat.zero_mul, decide_true, decide_false, Bool.not_true, Bool.not_false, Nat.le_refl, Nat.zero_le, ge_iff_le, gt_iff_lt, Nat.reduceBEq, Nat.reduceBNe, beq_self_eq_true, bne_self_eq_false, Option.isSome_some, Option.isSome_none, Option.getD_some, Option.getD_none, proofmarkref10_Writes, proofmarkref10_Writes_r0, proofmarkref10_Writes_r1, proofmarkref10_Writes_r2, proofmarkref10_Writes_r3, proofmarkref10_Writes_r4, proofmarkref10_Writes_r5, inC, false_implies, true_implies, true_and, and_true, not_true_eq_false, not_false_eq_true, Int.reduceBEq, Int.reduceBNe, Bool.not_true, Bool.not_false]))
  refine callPS hT t_proofmarkref10_Encode hE rfl 4 ?_
  simp -implicitDefEqProofs (disch := omega) only [go_sem, ↓reduceIte, reduceCtorEq, Nat.reduceAdd, Nat.reduceEqDiff, Nat.reduceLT, Nat.zero_add]
  iterate 9 (try (refine run_sem 4 ?_; simp -implicitDefEqProofs (disch := omega) only [go_sem, ↓reduceIte, reduceCtorEq, Nat.reduceAdd, Nat.reduceEqDiff, Nat.reduceLeDiff, Nat.zero_add, Nat.add_zero, true_implies, and_true]))
  refine callPS hT t_proofmarkref10_row hO rfl 4 ?_
  simp -implicitDefEqProofs (disch := omega) only [go_sem, ↓reduceIte, reduceCtorEq, Nat.reduceAdd, Nat.reduceEqDiff, Nat.reduceLeDiff, Nat.zero_add, true_implies, and_true]
  iterate 9 (try (refine run_sem 4 ?_; simp -implicitDefEqProofs (disch := omega) only [go_sem, need_of, ↓reduceIte, reduceCtorEq, Nat.reduceAdd, Nat.reduceEqDiff, Nat.reduceLeDiff, Nat.reduceLT, Nat.reduceSub, Nat.reduceMul, Int.reduceToNat, Int.reduceLE, Int.reduceLT, Int.reduceEq, Int.reduceNe, Nat.succ_ne_zero, Nat.zero_add, Nat.add_zero, Nat.mul_one, Nat.one_mul, Nat.zero_mul, decide_true, decide_false, Bool.not_true, Bool.not_false, Nat.le_refl, Nat.zero_le, ge_iff_le, gt_iff_lt, Nat.reduceBEq, Nat.reduceBNe, beq_self_eq_true, bne_self_eq_false, Option.isSome_some, Option.isSome_none, Option.getD_some, Option.getD_none, proofmarkref10_Writes, proofmarkref10_Writes_r0, proofmarkref10_Writes_r1, proofmarkref10_Writes_r2, proofmarkref10_Writes_r3, proofmarkref10_Writes_r4, proofmarkref10_Writes_r5, inC, false_implies, true_implies, true_and, and_true, not_true_eq_false, not_false_eq_true, Int.reduceBEq, Int.reduceBNe, Bool.not_true, Bool.not_false]))
  by_cases h1 : (enc T x).2 = 0
  · by_cases h2 : hasRd (rro x.op).form = true
    · by_cases h3 : x.rd = 0
      · have hw : wrs x = (0, false) := if_neg (by simp [h3])
        have h3' : (x.rd == 0) = true := by simp [h3]
        rw [h2] at hh
        refine callPS hT t_proofmarkref10_has hh rfl 4 ?_
        simp -implicitDefEqProofs (disch := omega) only [go_sem, ↓reduceIte, reduceCtorEq, Nat.reduceAdd, Nat.reduceEqDiff, Nat.reduceLT, Nat.zero_add, h1]
        iterate 16 (try (refine run_sem 4 ?_; simp -implicitDefEqProofs (disch := omega) only [go_sem, ↓reduceIte, reduceCtorEq, Nat.reduceAdd, Nat.reduceEqDiff, Nat.reduceLeDiff, Nat.zero_add, Bool.not_true, Nat.zero_le, bne_self_eq_false, true_implies, and_true, Bool.not_true, h3', hw]))
      · have hw : wrs x = (x.rd, true) := if_pos ⟨h1, h2, h3⟩
        have h3' : (x.rd == 0) = false := by simpa using h3
        rw [h2] at hh
        refine callPS hT t_proofmarkref10_has hh rfl 4 ?_
        simp -implicitDefEqProofs (disch := omega) only [go_sem, ↓reduceIte, reduceCtorEq, Nat.reduceAdd, Nat.reduceEqDiff, Nat.reduceLT, Nat.zero_add, h1]
        iterate 16 (try (refine run_sem 4 ?_; simp -implicitDefEqProofs (disch := omega) only [go_sem, ↓reduceIte, reduceCtorEq, Nat.reduceAdd, Nat.reduceEqDiff, Nat.reduceLeDiff, Nat.zero_add, Bool.not_true, Nat.zero_le, bne_self_eq_false, true_implies, and_true, Bool.not_true, h3', hw]))
    · have hw : wrs x = (0, false) := if_neg (by simp [h2])
      rw [Bool.eq_false_iff.2 h2] at hh
      refine callPS hT t_proofmarkref10_has hh rfl 4 ?_
      simp -implicitDefEqProofs (disch := omega) only [go_sem, ↓reduceIte, reduceCtorEq, Nat.reduceAdd, Nat.reduceEqDiff, Nat.reduceLT, Nat.zero_add, h1]
      iterate 16 (try (refine run_sem 4 ?_; simp -implicitDefEqProofs (disch := omega) only [go_sem, ↓reduceIte, reduceCtorEq, Nat.reduceAdd, Nat.reduceEqDiff, Nat.zero_add, Bool.not_false, Nat.zero_le, bne_self_eq_false, and_true, Bool.not_false, hw]))
  · have hw : wrs x = (0, false) := if_neg (by simp [h1])
    have h1' : ((enc T x).2 == 0) = false := by simpa using h1
    have h1'' : ((enc T x).2 = 0) = False := eq_false h1
    refine callPS hT t_proofmarkref10_has hh rfl 4 ?_
    simp -implicitDefEqProofs (disch := omega) only [go_sem, ↓reduceIte, reduceCtorEq, Nat.reduceAdd, Nat.reduceEqDiff, Nat.reduceLT, Nat.zero_add]
    iterate 16 (try (refine run_sem 4 ?_; simp -implicitDefEqProofs (disch := omega) only [go_sem, ↓reduceIte, reduceCtorEq, Nat.reduceEqDiff, Nat.zero_add, Bool.not_false, Nat.zero_le, and_true, Bool.not_false, h1', bne, hw]))
end Go.Proofs.YtkhdfbokkneeaaaDoor
