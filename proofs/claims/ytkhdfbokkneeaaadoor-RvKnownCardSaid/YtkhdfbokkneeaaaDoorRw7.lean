/- The document's Encode: walked. -/
import Derived.Test.YtkhdfbokkneeaaaDoorRw7a
import Derived.Test.YtkhdfbokkneeaaaDoorRw7b
import Derived.Test.YtkhdfbokkneeaaaDoorRw7c
import Derived.Test.YtkhdfbokkneeaaaDoorRw7d
import Derived.Test.YtkhdfbokkneeaaaDoorRw7e
import Derived.Test.YtkhdfbokkneeaaaDoorRw7f
namespace Go.Proofs.YtkhdfbokkneeaaaDoor
open Go Go.Am Go.Rv
set_option maxRecDepth 100000
variable {P : Program} {G : Nat → Option V}

theorem c_rEncode (hT : TabOk P tab) (x : In) (hx : InOk x) : Pure P G0 n_proofmarkref10_Encode [.agg (inC x)] fun v => v = .tup [.int .u32 (enc T x).1, .int .i64 (enc T x).2] := by
  by_cases hop : 1 ≤ x.op ∧ x.op ≤ 65
  · obtain ⟨r, hk⟩ : ∃ r, T[(x.op - 1).toNat]? = some r := ⟨_, List.getElem?_eq_getElem (by rw [T_len]; omega)⟩
    by_cases hbad : (x.rd > 31 ∨ x.rs1 > 31 ∨ x.rs2 > 31 ∨ (hasRd r.form = false ∧ x.rd ≠ 0) ∨ (hasR1 r.form = false ∧ x.rs1 ≠ 0) ∨ (hasR2 r.form = false ∧ x.rs2 ≠ 0) ∨ ((r.form = 82 ∨ r.form = 69) ∧ x.imm ≠ 0))
    · exact rEnc_bad hT x hx hop hk hbad
    · rcases forms (T_good r (List.mem_of_getElem? hk)) with h | h | h | h | h | h | h | h | h
      · exact rEnc_g1 hT x hx hop hk hbad (by simp [h])
      · exact rEnc_g1 hT x hx hop hk hbad (by simp [h])
      · exact rEnc_g1 hT x hx hop hk hbad (by simp [h])
      · exact rEnc_g1 hT x hx hop hk hbad (by simp [h])
      · exact rEnc_g2 hT x hx hop hk hbad h
      · exact rEnc_g3 hT x hx hop hk hbad h
      · exact rEnc_g6 hT x hx hop hk hbad h
      · exact rEnc_g4 hT x hx hop hk hbad h
      · exact rEnc_g5 hT x hx hop hk hbad h
  · obtain ⟨⟨o0, o1⟩, _⟩ := hx
    have he : enc T x = (0, 100) := by unfold enc; rw [if_neg (by rw [T_len]; exact hop)]
    have hrow : rrOf x.op = rrC ⟨0, [], 0, 0, 0⟩ := by unfold rrOf; rw [if_neg hop]
    intro t
    have h1 := c_has (G := G0) hT 0 (by simp [Forms])
    refine C_keep 0 (Nat.zero_le _) (C_tab hT t_proofmarkref10_Encode (by simp [proofmarkref10_Encode]) (W_run 1000 ?_))
    simp -implicitDefEqProofs (disch := omega) only [go_sem, ↓reduceIte, reduceCtorEq, Nat.reduceAdd, Nat.reduceEqDiff, Nat.reduceLeDiff, Nat.zero_add, Nat.add_zero, proofmarkref10_Encode, proofmarkref10_Encode_r0, proofmarkref10_Encode_r1, proofmarkref10_Encode_r2, proofmarkref10_Encode_r3, proofmarkref10_Encode_r4, proofmarkref10_Encode_r5, proofmarkref10_Encode_r6, proofmarkref10_Encode_r7, proofmarkref10_Encode_r8, proofmarkref10_Encode_r9, proofmarkref10_Encode_r10, proofmarkref10_Encode_r11, proofmarkref10_Encode_r12, proofmarkref10_Encode_r13, proofmarkref10_Encode_r14, proofmarkref10_Encode_r15, proofmarkref10_Encode_r16, proofmarkref10_Encode_r17, proofmarkref10_Encode_r18, proofmarkref10_Encode_r19, proofmarkref10_Encode_r20, proofmarkref10_Encode_r21, proofmarkref10_Encode_r22, proofmarkref10_Encode_r23, proofmarkref10_Encode_r24, proofmarkref10_Encode_r25, inC]
    refine callP hT t_proofmarkref10_row (c_rrow hT x.op o0 o1) rfl 1000 fun v hv => ?_
    subst hv
    rw [hrow]
    simp -implicitDefEqProofs (disch := omega) only [go_sem, ↓reduceIte, reduceCtorEq, Nat.reduceAdd, Nat.reduceEqDiff, Nat.reduceLeDiff, Nat.zero_add, Nat.add_zero, Bool.not_false, Nat.le_refl, Nat.zero_le, rrC]
    refine callP hT t_proofmarkref10_has h1 rfl 1000 fun v hv => ?_
    subst hv
    simp -implicitDefEqProofs (disch := omega) only [go_sem, ↓reduceIte, reduceCtorEq, Nat.reduceAdd, Nat.reduceEqDiff, Nat.reduceLeDiff, Nat.reduceLT, Nat.zero_add, Nat.add_zero, Nat.zero_le, beq_self_eq_true, Int.reduceBEq]
    rw [he]
end Go.Proofs.YtkhdfbokkneeaaaDoor
