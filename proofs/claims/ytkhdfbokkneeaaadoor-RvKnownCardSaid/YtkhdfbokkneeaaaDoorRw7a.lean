/- The document's Encode, where it refuses: walked. -/
import Derived.Test.YtkhdfbokkneeaaaDoorRw6b
namespace Go.Proofs.YtkhdfbokkneeaaaDoor
open Go Go.Am Go.Rv
set_option maxRecDepth 100000
variable {P : Program} {G : Nat → Option V}

set_option maxHeartbeats 4000000 in
theorem rEnc_bad (hT : TabOk P tab) (x : In) (hx : InOk x) (hop : 1 ≤ x.op ∧ x.op ≤ 65) {r : RR} (hk : T[(x.op - 1).toNat]? = some r) (hbad : (x.rd > 31 ∨ x.rs1 > 31 ∨ x.rs2 > 31 ∨ (hasRd r.form = false ∧ x.rd ≠ 0) ∨ (hasR1 r.form = false ∧ x.rs1 ≠ 0) ∨ (hasR2 r.form = false ∧ x.rs2 ≠ 0) ∨ ((r.form = 82 ∨ r.form = 69) ∧ x.imm ≠ 0))) : Pure P G0 n_proofmarkref10_Encode [.agg (inC x)] fun v => v = .tup [.int .u32 (enc T x).1, .int .i64 (enc T x).2] := by
  obtain ⟨⟨o0, o1⟩, ⟨a0, a1⟩, ⟨b0, b1⟩, ⟨c0, c1⟩, hi⟩ := hx
  have hrow : rrOf x.op = rrC r := by
    unfold rrOf
    rw [if_pos hop]
    have : x.op.toNat - 1 = (x.op - 1).toNat := by omega
    rw [this, List.getD_eq_getElem?_getD, hk]; rfl
  have hf := forms (T_good r (List.mem_of_getElem? hk))
  have hF : Forms r.form := by unfold Forms; rcases hf with h | h | h | h | h | h | h | h | h <;> simp [h]
  have he : enc T x = if x.rd > 31 ∨ x.rs1 > 31 ∨ x.rs2 > 31 ∨ (hasRd r.form = false ∧ x.rd ≠ 0) ∨ (hasR1 r.form = false ∧ x.rs1 ≠ 0) ∨ (hasR2 r.form = false ∧ x.rs2 ≠ 0) ∨ ((r.form = 82 ∨ r.form = 69) ∧ x.imm ≠ 0) then (0, 100)
    else if room r.form x.imm = false then (0, 101)
    else (matchOf r + x.rd * 128 + x.rs1 * 32768 + x.rs2 * 1048576 + spread r.form x.imm, 0) := by
    unfold enc; rw [if_pos (by rw [T_len]; exact hop), hk]
  have bad : (x.rd > 31 ∨ x.rs1 > 31 ∨ x.rs2 > 31 ∨ (hasRd r.form = false ∧ x.rd ≠ 0) ∨ (hasR1 r.form = false ∧ x.rs1 ≠ 0) ∨ (hasR2 r.form = false ∧ x.rs2 ≠ 0) ∨ ((r.form = 82 ∨ r.form = 69) ∧ x.imm ≠ 0)) → enc T x = (0, 100) := fun h => by rw [he, if_pos h]
  intro t
  have h1 := c_has (G := G0) hT r.form hF
  have h2 := c_room (G := G0) hT r.form x.imm hF
  have hn32 : u32 (IntKind.u32.wrap x.imm) := by rw [u32_mod]; exact ⟨by omega, by omega⟩
  have hfl : ∀ a m : Nat, a ≤ 31 → m ≤ 30 → Pure P G0 n_proofmarkref10_field [.int .u32 (IntKind.u32.wrap x.imm), .int .i64 a, .int .i64 m] fun v => v = .int .u32 (fld (IntKind.u32.wrap x.imm) a m) := fun a m ha hm => c_field hT _ a m hn32 ha hm
  refine C_keep 0 (Nat.zero_le _) (C_tab hT t_proofmarkref10_Encode (by simp [proofmarkref10_Encode]) (W_run 1000 ?_))
  simp -implicitDefEqProofs (disch := omega) only [go_sem, ↓reduceIte, reduceCtorEq, Nat.reduceAdd, Nat.reduceEqDiff, Nat.reduceLeDiff, Nat.zero_add, Nat.add_zero, proofmarkref10_Encode, proofmarkref10_Encode_r0, proofmarkref10_Encode_r1, proofmarkref10_Encode_r2, proofmarkref10_Encode_r3, proofmarkref10_Encode_r4, proofmarkref10_Encode_r5, proofmarkref10_Encode_r6, proofmarkref10_Encode_r7, proofmarkref10_Encode_r8, proofmarkref10_Encode_r9, proofmarkref10_Encode_r10, proofmarkref10_Encode_r11, proofmarkref10_Encode_r12, proofmarkref10_Encode_r13, proofmarkref10_Encode_r14, proofmarkref10_Encode_r15, proofmarkref10_Encode_r16, proofmarkref10_Encode_r17, proofmarkref10_Encode_r18, proofmarkref10_Encode_r19, proofmarkref10_Encode_r20, proofmarkref10_Encode_r21, proofmarkref10_Encode_r22, proofmarkref10_Encode_r23, proofmarkref10_Encode_r24, proofmarkref10_Encode_r25, inC]
  refine callP hT t_proofmarkref10_row (c_rrow hT x.op o0 o1) rfl 1000 fun v hv => ?_
  subst hv
  rw [hrow]
  simp -implicitDefEqProofs (disch := omega) only [go_sem, ↓reduceIte, reduceCtorEq, Nat.reduceAdd, Nat.reduceEqDiff, Nat.reduceLeDiff, Nat.zero_add, Nat.add_zero, Bool.not_false, Nat.le_refl, Nat.zero_le, rrC]
  refine callP hT t_proofmarkref10_has h1 rfl 1000 fun v hv => ?_
  subst hv
  have hb := bad hbad
  rcases hf with hq | hq | hq | hq | hq | hq | hq | hq | hq
  all_goals (
    simp only [hq, hasRd, hasR1, hasR2, Int.reduceEq, or_true, or_false, false_or, decide_true, decide_false, Bool.true_eq_false, false_and, true_and, ne_eq, gt_iff_lt] at hbad
    simp -implicitDefEqProofs (disch := omega) only [go_sem, ↓reduceIte, reduceCtorEq, Nat.reduceAdd, Nat.reduceEqDiff, Nat.reduceLeDiff, Nat.reduceLT, Int.reduceEq, Nat.zero_add, Nat.add_zero, decide_true, decide_false, Bool.not_true, Bool.not_false, Nat.le_refl, Nat.zero_le, gt_iff_lt, beq_self_eq_true, hq, hasRd, hasR1, hasR2, Int.reduceBEq]
    repeat' (first | with_reducible refine And.intro ?_ ?_ | with_reducible intro _)
    all_goals (first | (rw [hb]; done) | (exfalso; omega)))

end Go.Proofs.YtkhdfbokkneeaaaDoor
