/- The document's Encode, where it gives a word: walked. -/
import Derived.Test.YtkhdfbokkneeaaaDoorRw6b
namespace Go.Proofs.YtkhdfbokkneeaaaDoor
open Go Go.Am Go.Rv
set_option maxRecDepth 100000
variable {P : Program} {G : Nat → Option V}

set_option maxHeartbeats 4000000 in
theorem rEnc_g1 (hT : TabOk P tab) (x : In) (hx : InOk x) (hop : 1 ≤ x.op ∧ x.op ≤ 65) {r : RR} (hk : T[(x.op - 1).toNat]? = some r) (hbad : ¬ (x.rd > 31 ∨ x.rs1 > 31 ∨ x.rs2 > 31 ∨ (hasRd r.form = false ∧ x.rd ≠ 0) ∨ (hasR1 r.form = false ∧ x.rs1 ≠ 0) ∨ (hasR2 r.form = false ∧ x.rs2 ≠ 0) ∨ ((r.form = 82 ∨ r.form = 69) ∧ x.imm ≠ 0))) (hsel : r.form = 82 ∨ r.form = 87 ∨ r.form = 73 ∨ r.form = 72) : Pure P G0 n_proofmarkref10_Encode [.agg (inC x)] fun v => v = .tup [.int .u32 (enc T x).1, .int .i64 (enc T x).2] := by
  obtain ⟨⟨o0, o1⟩, ⟨a0, a1⟩, ⟨b0, b1⟩, ⟨c0, c1⟩, hi⟩ := hx
  have hrow : rrOf x.op = rrC r := by
    unfold rrOf
    rw [if_pos hop]
    have : x.op.toNat - 1 = (x.op - 1).toNat := by omega
    rw [this, List.getD_eq_getElem?_getD, hk]; rfl
  have hf := forms (T_good r (List.mem_of_getElem? hk))
  have hF : Forms r.form := by unfold Forms; rcases hf with h | h | h | h | h | h | h | h | h <;> simp [h]
  have he : enc T x = if x.rd > 31 ∨ x.rs1 > 31 ∨ x.rs2 > 31 ∨ (hasRd r.form = false ∧ x.rd ≠ 0) ∨ (hasR1 r.form = false ∧ x.rs1 ≠ 0) ∨ (hasR2 r.form = false ∧ x.rs2 ≠ 0) ∨ ((r.form = 82 ∨ r.form = 69) ∧ x.imm ≠ 0) then (0, 100)
    else if room r.form x.imm = false then (0, 101)
    else (matchOf r + x.rd * 128 + x.rs1 * 32768 + x.rs2 * 1048576 + spread r.form x.imm, 0) := by
    unfold enc; rw [if_pos (by rw [T_len]; exact hop), hk]
  have bad : (x.rd > 31 ∨ x.rs1 > 31 ∨ x.rs2 > 31 ∨ (hasRd r.form = false ∧ x.rd ≠ 0) ∨ (hasR1 r.form = false ∧ x.rs1 ≠ 0) ∨ (hasR2 r.form = false ∧ x.rs2 ≠ 0) ∨ ((r.form = 82 ∨ r.form = 69) ∧ x.imm ≠ 0)) → enc T x = (0, 100) := fun h => by rw [he, if_pos h]
  intro t
  have h1 := c_has (G := G0) hT r.form hF
  have h2 := c_room (G := G0) hT r.form x.imm hF
  have hn32 : u32 (IntKind.u32.wrap x.imm) := by rw [u32_mod]; exact ⟨by omega, by omega⟩
  have hfl : ∀ a m : Nat, a ≤ 31 → m ≤ 30 → Pure P G0 n_proofmarkref10_field [.int .u32 (IntKind.u32.wrap x.imm), .int .i64 a, .int .i64 m] fun v => v = .int .u32 (fld (IntKind.u32.wrap x.imm) a m) := fun a m ha hm => c_field hT _ a m hn32 ha hm
  refine C_keep 0 (Nat.zero_le _) (C_tab hT t_proofmarkref10_Encode (by simp [proofmarkref10_Encode]) (W_run 1000 ?_))
  simp -implicitDefEqProofs (disch := omega) only [go_sem, ↓reduceIte, reduceCtorEq, Nat.reduceAdd, Nat.reduceEqDiff, Nat.reduceLeDiff, Nat.zero_add, Nat.add_zero, proofmarkref10_Encode, proofmarkref10_Encode_r0, proofmarkref10_Encode_r1, proofmarkref10_Encode_r2, proofmarkref10_Encode_r3, proofmarkref10_Encode_r4, proofmarkref10_Encode_r5, proofmarkref10_Encode_r6, proofmarkref10_Encode_r7, proofmarkref10_Encode_r8, proofmarkref10_Encode_r9, proofmarkref10_Encode_r10, proofmarkref10_Encode_r11, proofmarkref10_Encode_r12, proofmarkref10_Encode_r13, proofmarkref10_Encode_r14, proofmarkref10_Encode_r15, proofmarkref10_Encode_r16, proofmarkref10_Encode_r17, proofmarkref10_Encode_r18, proofmarkref10_Encode_r19, proofmarkref10_Encode_r20, proofmarkref10_Encode_r21, proofmarkref10_Encode_r22, proofmarkref10_Encode_r23, proofmarkref10_Encode_r24, proofmarkref10_Encode_r25, inC]
  refine callP hT t_proofmarkref10_row (c_rrow hT x.op o0 o1) rfl 1000 fun v hv => ?_
  subst hv
  rw [hrow]
  simp -implicitDefEqProofs (disch := omega) only [go_sem, ↓reduceIte, reduceCtorEq, Nat.reduceAdd, Nat.reduceEqDiff, Nat.reduceLeDiff, Nat.zero_add, Nat.add_zero, Bool.not_false, Nat.le_refl, Nat.zero_le, rrC]
  refine callP hT t_proofmarkref10_has h1 rfl 1000 fun v hv => ?_
  subst hv
  have hg := hbad
  simp only [not_or, ne_eq, not_and, Classical.not_not, gt_iff_lt] at hg
  obtain ⟨k1, k2, k3, z1, z2, z3, z4⟩ := hg
  have he2 := he
  rw [if_neg hbad] at he2
  have hok : room r.form x.imm = true → enc T x = (matchOf r + x.rd * 128 + x.rs1 * 32768 + x.rs2 * 1048576 + spread r.form x.imm, 0) := fun h => by rw [he2, h]; rfl
  have hno : room r.form x.imm = false → enc T x = (0, 101) := fun h => by rw [he2, h]; rfl
  have y1 : hasRd r.form = false → (x.rd != 0) = false := fun h => by simp [z1 h]
  have y2 : hasR1 r.form = false → (x.rs1 != 0) = false := fun h => by simp [z2 h]
  have y3 : hasR2 r.form = false → (x.rs2 != 0) = false := fun h => by simp [z3 h]
  have y4 : (r.form = 82 ∨ r.form = 69) → (x.imm != 0) = false := fun h => by simp [z4 h]
  have gg := T_good r (List.mem_of_getElem? hk)
  simp only [good, Bool.and_eq_true, Bool.or_eq_true, decide_eq_true_eq, or_assoc] at gg
  obtain ⟨⟨u0, u1, v0, v1, w0, w1⟩, gf⟩ := gg
  have hnm : r.form ≠ 69 → r.name ≠ [101, 98, 114, 101, 97, 107] := fun h => by
    rcases gf with gf | gf | gf | gf | gf | gf | gf | gf | gf <;> first | exact gf.2 | exact gf.2.2 | exact gf.2.2.2 | exact absurd gf.1 h
  obtain ⟨sa, sb, sc, sd, ha0, ha1, hb0, hb1, hc0, hc1, hd0, hd1, hs, _⟩ := spread_lt r.form x.imm (by rcases hf with h | h | h | h | h | h | h | h | h <;> simp [h])
  have htot : room r.form x.imm = true → 0 ≤ matchOf r + x.rd * 128 + x.rs1 * 32768 + x.rs2 * 1048576 + spread r.form x.imm ∧ matchOf r + x.rd * 128 + x.rs1 * 32768 + x.rs2 * 1048576 + spread r.form x.imm < 4294967296 := fun h => by
    have := dec_enc (hok h) a0 b0 c0
    exact ⟨this.1, this.2.1⟩
  clear gf
  have hM : r.form ≠ 69 → matchOf r = r.code + r.f3 * 4096 + r.f7 * 33554432 := fun h => by unfold matchOf; rw [if_neg (hnm h)]
  have t1 : IntKind.u32.wrap (r.f3 * 4096) = r.f3 * 4096 := wrap_u32 (by omega) (by omega)
  have t2 : IntKind.u32.wrap (r.f7 * 33554432) = r.f7 * 33554432 := wrap_u32 (by omega) (by omega)
  have t3 : IntKind.u32.wrap (IntKind.u32.wrap x.rd * 128) = x.rd * 128 := by rw [wrap_u32 (x := x.rd) (by omega) (by omega)]; exact wrap_u32 (by omega) (by omega)
  have t4 : IntKind.u32.wrap (IntKind.u32.wrap x.rs1 * 32768) = x.rs1 * 32768 := by rw [wrap_u32 (x := x.rs1) (by omega) (by omega)]; exact wrap_u32 (by omega) (by omega)
  have t5 : IntKind.u32.wrap (IntKind.u32.wrap x.rs2 * 1048576) = x.rs2 * 1048576 := by rw [wrap_u32 (x := x.rs2) (by omega) (by omega)]; exact wrap_u32 (by omega) (by omega)
  have t6 : IntKind.u32.wrap (IntKind.u32.wrap x.imm * 1048576) = x.imm % 4096 * 1048576 := by rw [u32_mod, u32_mod]; omega
  have fm : ∀ a m : Nat, a + m ≤ 32 → fld (IntKind.u32.wrap x.imm) a m = x.imm / 2 ^ a % 2 ^ m := fun a m h => by rw [u32_mod, fld_mod _ _ _ h]
  rcases hsel with hq | hq | hq | hq
  all_goals (
    rw [hq] at y1 y2 y3 y4 hnm hok hno htot hs hM
    simp only [hasRd, hasR1, hasR2, Int.reduceEq, or_true, or_false, decide_true, decide_false, Bool.true_eq_false, false_implies, forall_const, ne_eq, not_false_eq_true] at y1 y2 y3 y4 hnm hM
    simp -implicitDefEqProofs (disch := omega) only [go_sem, need_of, ↓reduceIte, reduceCtorEq, Nat.reduceAdd, Nat.reduceEqDiff, Nat.reduceLeDiff, Nat.reduceLT, Int.reduceEq, Nat.zero_add, Nat.add_zero, decide_true, decide_false, Bool.not_true, Bool.not_false, Nat.le_refl, gt_iff_lt, beq_self_eq_true, hq, hasRd, hasR1, hasR2, Int.reduceBEq, k1, k2, k3, y3, y4]
    refine callP hT t_proofmarkref10_room (c_room hT _ _ (by simp [Forms])) rfl 1000 fun v hv => ?_
    subst hv
    cases hr : room _ x.imm with
    | false =>
      simp -implicitDefEqProofs (disch := omega) only [go_sem, ↓reduceIte, reduceCtorEq, Nat.reduceAdd, Nat.reduceEqDiff, Nat.zero_add, Bool.not_false, Nat.zero_le]
      rw [hno hr]
    | true =>
      have ht := htot hr
      simp -implicitDefEqProofs (disch := omega) only [go_sem, need_of, ↓reduceIte, reduceCtorEq, Nat.reduceAdd, Nat.reduceEqDiff, Nat.reduceLeDiff, Int.reduceToNat, Int.reduceLE, Nat.zero_add, Nat.add_zero, Bool.not_true, Nat.le_refl, Nat.zero_le, beq_self_eq_true, hnm, Int.reduceBEq, show min 12 32 = 12 from rfl, show min 25 32 = 25 from rfl, show min 7 32 = 7 from rfl, show min 15 32 = 15 from rfl, show min 20 32 = 20 from rfl, Int.reducePow]
      rw [hok hr]
      simp only [false_implies, true_and, V.tup.injEq, List.cons.injEq, V.int.injEq, and_true, t1, t2, t3, t4, t5, t6]
      rw [hM] at ht ⊢
      simp only [spread, Int.reduceEq, or_true, or_false, if_true, if_false] at ht ⊢
      simp only [u32_mod]
      omega)

end Go.Proofs.YtkhdfbokkneeaaaDoor
