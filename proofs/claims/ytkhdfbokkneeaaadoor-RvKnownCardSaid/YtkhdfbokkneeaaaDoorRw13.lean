/- The laws' own test; decoding: walked. -/
import Derived.Test.YtkhdfbokkneeaaaDoorRw9
import Derived.Test.YtkhdfbokkneeaaaDoorRw11
import Derived.Test.YtkhdfbokkneeaaaDoorRw12
namespace Go.Proofs.YtkhdfbokkneeaaaDoor
open Go Go.Am Go.Rv
set_option maxRecDepth 100000

theorem first_a : first 4278255891 0 T = some ⟨22, 2, 2, 0, -16⟩ := by decide +kernel
theorem first_z : first 0 0 T = none := by decide +kernel
theorem enc_a : enc T ⟨21, 0, 2, 1, 8⟩ = (1127459, 0) := by decide +kernel
theorem txt_a (F : Lb Tryd.prog) (h2 : F.fmt 2 = [50]) (h16 : F.fmt (-16) = [45, 49, 54]) : txt F.fmt T ⟨22, 2, 2, 0, -16⟩ = [97, 100, 100, 105, 32, 120, 50, 44, 32, 120, 50, 44, 32, 45, 49, 54] := by
  have e : (enc T ⟨22, 2, 2, 0, -16⟩).2 = 0 := by decide +kernel
  have r : T.getD ((22 : Int) - 1).toNat ⟨0, [], 0, 0, 0⟩ = ⟨73, [97, 100, 100, 105], 19, 0, 0⟩ := by decide +kernel
  unfold txt
  rw [if_pos e, r]
  simp [parts, hasRd, hasR1, hasR2, glue, h2, h16]

theorem c_works (hT : TabOk Tryd.prog tab) (F : Lb Tryd.prog) (h2 : F.fmt 2 = [50]) (h16 : F.fmt (-16) = [45, 49, 54]) : Pure Tryd.prog G0 n_proofmarklaw10_works [] fun v => v = .bool true := by
  intro t
  have hd := c_Decode hT 4278255891 (by omega) (by omega)
  rw [first_a] at hd
  have hz := c_Decode hT 0 (by omega) (by omega)
  rw [first_z] at hz
  have he := c_Encode hT ⟨21, 0, 2, 1, 8⟩ ⟨by decide, by decide, by decide, by decide, by unfold i64; decide⟩
  rw [enc_a] at he
  have ht := c_Text hT F ⟨22, 2, 2, 0, -16⟩ ⟨by decide, by decide, by decide, by decide, by unfold i64; decide⟩
  rw [txt_a F h2 h16] at ht
  simp only [errT, inC] at hd hz he ht
  refine C_keep 0 (Nat.zero_le _) (C_tab hT t_proofmarklaw10_works (by simp [proofmarklaw10_works]) (W_run 1000 ?_))
  simp -implicitDefEqProofs (disch := omega) only [go_sem, ↓reduceIte, proofmarklaw10_works, proofmarklaw10_works_r0, proofmarklaw10_works_r1, proofmarklaw10_works_r2, proofmarklaw10_works_r3, proofmarklaw10_works_r4]
  refine callPS hT t_rv_Decode hd rfl 1000 ?_
  simp -implicitDefEqProofs (disch := omega) only [go_sem, ↓reduceIte, reduceCtorEq, Nat.reduceAdd, Nat.reduceEqDiff, Nat.reduceLeDiff, Nat.reduceLT, Nat.zero_add, Bool.not_false, Nat.le_refl]
  refine callPS hT t_rv_Encode he rfl 1000 ?_
  simp -implicitDefEqProofs (disch := omega) only [go_sem, ↓reduceIte, reduceCtorEq, Nat.reduceAdd, Nat.reduceEqDiff, Nat.reduceLT, Nat.zero_add]
  refine callPS hT t_rv_Decode hz rfl 1000 ?_
  simp -implicitDefEqProofs (disch := omega) only [go_sem, ↓reduceIte, reduceCtorEq, Nat.reduceAdd, Nat.reduceEqDiff, Nat.reduceLeDiff, Nat.reduceLT, Nat.zero_add, Nat.add_zero, Bool.not_false, Nat.le_refl, Nat.zero_le, beq_self_eq_true]
  refine callPS hT t_rv_Text ht rfl 1000 ?_
  simp -implicitDefEqProofs (disch := omega) only [go_sem, ↓reduceIte, reduceCtorEq, Nat.reduceAdd, Nat.reduceEqDiff, Nat.zero_add, Nat.zero_le, beq_self_eq_true]
end Go.Proofs.YtkhdfbokkneeaaaDoor
