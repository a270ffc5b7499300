/- The document's texts of instructions: walked. -/
import Derived.Test.YtkhdfbokkneeaaaDoorRt1
import Derived.Test.YtkhdfbokkneeaaaDoorRw7
namespace Go.Proofs.YtkhdfbokkneeaaaDoor
open Go Go.Am Go.Rv
set_option maxRecDepth 100000
variable {P : Program} {G : Nat → Option V}

theorem T_forms : ∀ r ∈ T, (r.form = 82 ∨ r.form = 87 ∨ r.form = 73 ∨ r.form = 72 ∨ r.form = 83 ∨ r.form = 66 ∨ r.form = 85 ∨ r.form = 74 ∨ r.form = 69) ∧ r.name.length ≤ 10 := by decide +kernel
theorem cons_ne (c : UInt8) (l : List UInt8) : ((c :: l) == []) = false := rfl
theorem rrOf_eq {op : Int} {r : RR} (h : T[(op - 1).toNat]? = some r) (h1 : 1 ≤ op) (h2 : op ≤ 65) : rrOf op = rrC r := by
  unfold rrOf
  rw [if_pos ⟨h1, h2⟩, show op.toNat - 1 = (op - 1).toNat by omega, List.getD_eq_getElem?_getD, h]; rfl
theorem c_rText (hT : TabOk P tab) (x : In) (hx : InOk x) : Pure P G0 n_proofmarkref10_Text [.agg (inC x)] fun u => u = .str (txt fmt10 T x) := by
  intro t
  have hE := c_rEncode hT x hx
  obtain ⟨ho, hd, h1, h2, hi⟩ := hx
  have w1 : IntKind.i64.wrap x.rd = x.rd := wrap_i64 (by omega) (by omega)
  have w2 : IntKind.i64.wrap x.rs1 = x.rs1 := wrap_i64 (by omega) (by omega)
  have w3 : IntKind.i64.wrap x.rs2 = x.rs2 := wrap_i64 (by omega) (by omega)
  have l1 := fmt10_le x.rd
  have l2 := fmt10_le x.rs1
  have l3 := fmt10_le x.rs2
  have l4 := fmt10_le x.imm
  by_cases hok : (enc T x).2 = 0
  · obtain ⟨r, hr, o1, o2, hrd, hr1, hr2, hn1, hn2, hn3, him, hroom⟩ := enc_ok hok
    have hrow := c_rrow hT x.op ho.1 ho.2
    rw [rrOf_eq hr o1 o2] at hrow
    obtain ⟨hf, hnl⟩ := T_forms r (List.mem_of_getElem? hr)
    have htx : txt fmt10 T x = r.name ++ (glue (parts fmt10 r.form x)).tail := by
      rw [txt, if_pos hok, List.getD_eq_getElem?_getD, hr]; rfl
    have hdg1 := c_digits (P := P) (G := G0) hT x.rd (by omega)
    have hdg2 := c_digits (P := P) (G := G0) hT x.rs1 (by omega)
    have hdg3 := c_digits (P := P) (G := G0) hT x.rs2 (by omega)
    have himm : -9223372036854775808 < x.imm ∧ x.imm ≤ 9223372036854775807 := by
      unfold room at hroom
      repeat' split at hroom
      all_goals (simp at hroom; omega)
    have hdg4 := c_digits (P := P) (G := G0) hT x.imm himm
    have hh := c_has (P := P) (G := G0) hT r.form (by unfold Forms; omega)
    rw [hok] at hE
    rw [htx]
    simp only [rrC] at hrow
    generalize r.form = f at *
    generalize r.name = nm at *
    generalize r.code = cd at *
    generalize r.f3 = f3 at *
    generalize r.f7 = f7 at *
    rcases hf with rfl | rfl | rfl | rfl | rfl | rfl | rfl | rfl | rfl
    all_goals (
      refine C_keep 0 (Nat.zero_le _) (C_tab hT t_proofmarkref10_Text (by simp [proofmarkref10_Text]) (W_run 1000 ?_))
      simp -implicitDefEqProofs (disch := omega) only [go_sem, ↓reduceIte, reduceCtorEq, Nat.reduceAdd, Nat.reduceEqDiff, Nat.zero_add, Nat.le_refl, proofmarkref10_Text, proofmarkref10_Text_r0, proofmarkref10_Text_r1, proofmarkref10_Text_r2, proofmarkref10_Text_r3, proofmarkref10_Text_r4, proofmarkref10_Text_r5, proofmarkref10_Text_r6, proofmarkref10_Text_r7, proofmarkref10_Text_r8, proofmarkref10_Text_r9, proofmarkref10_Text_r10, proofmarkref10_Text_r11, proofmarkref10_Text_r12, proofmarkref10_Text_r13, proofmarkref10_Text_r14, proofmarkref10_Text_r15, proofmarkref10_Text_r16, proofmarkref10_Text_r17, inC, false_implies, and_true, List.nil_append, List.length_cons, List.length_nil]
      refine callPS hT t_proofmarkref10_Encode hE rfl 1000 ?_
      simp -implicitDefEqProofs (disch := omega) only [go_sem, ↓reduceIte, reduceCtorEq, Nat.reduceAdd, Nat.reduceEqDiff, Nat.reduceLeDiff, Nat.reduceLT, Nat.zero_add, Nat.add_zero, bne_self_eq_false, true_implies, and_true, List.length_cons, List.length_nil]
      refine callPS hT t_proofmarkref10_row hrow rfl 1000 ?_
      simp -implicitDefEqProofs (disch := omega) only [go_sem, ↓reduceIte, reduceCtorEq, Nat.reduceAdd, Nat.reduceEqDiff, Nat.reduceLeDiff, Nat.zero_add, Nat.add_zero, Bool.not_false, Nat.le_refl, Nat.zero_le, true_implies, and_true, List.cons_append, List.nil_append, List.append_nil, List.length_cons, List.length_nil]
      refine callPS hT t_proofmarkref10_has hh rfl 1000 ?_
      simp -implicitDefEqProofs (disch := omega) only [go_sem, ↓reduceIte, reduceCtorEq, Nat.reduceAdd, Nat.reduceEqDiff, Nat.reduceLeDiff, Nat.reduceLT, Int.reduceEq, Nat.zero_add, Nat.add_zero, decide_true, decide_false, Nat.zero_le, beq_self_eq_true, bne_self_eq_false, true_implies, true_and, and_true, Int.reduceBNe, List.nil_append, List.length_cons, List.length_nil, hasRd, hasR1, hasR2, w1, w2, or_true, or_false, or_self]
      try (refine callPS hT t_proofmarkref10_digits hdg1 rfl 1000 ?_; simp -implicitDefEqProofs (disch := omega) only [go_sem, need_of, ↓reduceIte, reduceCtorEq, Nat.reduceAdd, Nat.reduceEqDiff, Nat.reduceLeDiff, Nat.zero_add, Nat.add_zero, Nat.le_refl, true_implies, and_true, Int.reduceBNe, List.cons_append, List.nil_append, List.length_cons, List.length_nil, w2])
      try (refine callPS hT t_proofmarkref10_digits hdg2 rfl 1000 ?_; simp -implicitDefEqProofs (disch := omega) only [go_sem, need_of, ↓reduceIte, reduceCtorEq, Nat.reduceAdd, Nat.reduceEqDiff, Nat.reduceLeDiff, Nat.zero_add, Nat.add_zero, Nat.le_refl, true_implies, and_true, Int.reduceBNe, List.cons_append, List.nil_append, List.length_cons, List.length_append, List.length_nil, w3])
      try (refine callPS hT t_proofmarkref10_digits hdg3 rfl 1000 ?_; simp -implicitDefEqProofs (disch := omega) only [go_sem, need_of, ↓reduceIte, reduceCtorEq, Nat.reduceAdd, Nat.reduceEqDiff, Nat.reduceLeDiff, Int.reduceToNat, Int.reduceLE, Nat.zero_add, Nat.add_zero, Nat.le_refl, Nat.zero_le, bne_self_eq_false, true_implies, true_and, and_true, Int.reduceBNe, List.cons_append, cons_ne, List.length_cons, List.length_append, List.length_nil])
      try (refine callPS hT t_proofmarkref10_digits hdg4 rfl 1000 ?_; simp -implicitDefEqProofs (disch := omega) only [go_sem, need_of, ↓reduceIte, reduceCtorEq, Nat.reduceAdd, Nat.reduceEqDiff, Nat.reduceLeDiff, Int.reduceToNat, Int.reduceLE, Nat.zero_add, Nat.zero_le, true_implies, true_and, and_true, List.cons_append, cons_ne, List.length_cons, List.length_append, List.length_nil])
      first
      | (rw [List.take_of_length_le (by simp only [List.length_cons, List.length_append, List.length_nil]; omega)]
         refine (need_of (by simp only [List.length_cons, List.length_append, List.length_nil]; omega)).mpr ?_
         simp [parts, glue, hasRd, hasR1, hasR2])
      | simp [parts, glue, hasRd, hasR1, hasR2])
  · have htx : txt fmt10 T x = [] := by rw [txt, if_neg hok]
    have hok' : ((enc T x).2 = 0) = False := eq_false hok
    rw [htx]
    refine C_keep 0 (Nat.zero_le _) (C_tab hT t_proofmarkref10_Text (by simp [proofmarkref10_Text]) (W_run 1000 ?_))
    simp -implicitDefEqProofs (disch := omega) only [go_sem, ↓reduceIte, reduceCtorEq, Nat.reduceAdd, Nat.reduceEqDiff, Nat.zero_add, Nat.le_refl, proofmarkref10_Text, proofmarkref10_Text_r0, proofmarkref10_Text_r1, proofmarkref10_Text_r2, proofmarkref10_Text_r3, proofmarkref10_Text_r4, proofmarkref10_Text_r5, proofmarkref10_Text_r6, proofmarkref10_Text_r7, proofmarkref10_Text_r8, proofmarkref10_Text_r9, proofmarkref10_Text_r10, proofmarkref10_Text_r11, proofmarkref10_Text_r12, proofmarkref10_Text_r13, proofmarkref10_Text_r14, proofmarkref10_Text_r15, proofmarkref10_Text_r16, proofmarkref10_Text_r17, inC, false_implies, and_true, List.nil_append, List.length_cons, List.length_nil]
    refine callPS hT t_proofmarkref10_Encode hE rfl 1000 ?_
    simp -implicitDefEqProofs (disch := omega) only [go_sem, ↓reduceIte, reduceCtorEq, Nat.reduceAdd, Nat.reduceEqDiff, Nat.reduceLeDiff, Nat.reduceLT, Nat.zero_add, Nat.add_zero, Nat.zero_le, false_implies, true_implies, and_true, not_false_eq_true, List.length_cons, List.length_nil, hok']
end Go.Proofs.YtkhdfbokkneeaaaDoor
