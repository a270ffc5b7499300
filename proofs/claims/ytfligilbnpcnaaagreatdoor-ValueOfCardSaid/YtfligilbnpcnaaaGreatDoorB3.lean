/- The document's long division. -/
import Derived.Test.YtfligilbnpcnaaaGreatDoorB2
namespace Go.Proofs.YtfligilbnpcnaaaGreatDoor
open Go Go.Am
set_option maxRecDepth 100000
set_option maxHeartbeats 1000000
variable {P : Program} {G : Nat → Option V}
theorem c_divide (hT : TabOk P tab) (a b : Int) (hb : i64 b) (hb0 : b ≠ 0) : Pure P G n_proofmarkref01_divide [.int .i64 a, .int .i64 b] fun v => v = .tup [.int .i64 (IntKind.i64.wrap (IntKind.u64.wrap a / IntKind.u64.wrap b)), .int .i64 (IntKind.i64.wrap (IntKind.u64.wrap a % IntKind.u64.wrap b))] := by
  intro t
  have hB := wU_pos hb hb0
  have hBm := (wU_rg b).2
  have hA := wU_rg a
  refine C_keep 0 (Nat.zero_le _) (C_tab hT t_proofmarkref01_divide (by simp [proofmarkref01_divide]) (W_run 1000 ?_))
  simp -implicitDefEqProofs (disch := omega) only [go_sem, ↓reduceIte, reduceCtorEq, Nat.reduceEqDiff, Nat.zero_add, proofmarkref01_divide, proofmarkref01_divide_r0, proofmarkref01_divide_r1, proofmarkref01_divide_r2, proofmarkref01_divide_r3, proofmarkref01_divide_r4, proofmarkref01_divide_r5, proofmarkref01_divide_r6, proofmarkref01_divide_r7, proofmarkref01_divide_r8, proofmarkref01_divide_r9, proofmarkref01_divide_r10, proofmarkref01_divide_r11]
  refine sem_upto 64 (fun i fr σ => ∃ q r : Int, q = 2 ^ (64 - i) * (IntKind.u64.wrap a / 2 ^ (64 - i) / IntKind.u64.wrap b) ∧ r = IntKind.i64.wrap (IntKind.u64.wrap a / 2 ^ (64 - i) % IntKind.u64.wrap b) ∧ fget fr 0 = .int .i64 a ∧ fget fr 1 = .int .i64 b ∧ fget fr 6 = .int .u64 q ∧ fget fr 7 = .int .i64 r ∧ fget fr 8 = .int .i64 (63 - (i : Int)))
    (fun e fr σ => e = .ex 0 ∧ fget fr 6 = .int .u64 (IntKind.u64.wrap a / IntKind.u64.wrap b) ∧ fget fr 7 = .int .i64 (IntKind.i64.wrap (IntKind.u64.wrap a % IntKind.u64.wrap b))) ⟨0, 0, by rw [Nat.sub_zero, u_top]; simp, by rw [Nat.sub_zero, u_top]; simp; rfl, by simp -implicitDefEqProofs (disch := omega) only [go_sem, ↓reduceIte], by simp -implicitDefEqProofs (disch := omega) only [go_sem, ↓reduceIte, reduceCtorEq], by simp -implicitDefEqProofs (disch := omega) only [go_sem, ↓reduceIte, reduceCtorEq, Nat.reduceEqDiff], by simp -implicitDefEqProofs (disch := omega) only [go_sem, ↓reduceIte, reduceCtorEq, Nat.reduceEqDiff], by simp -implicitDefEqProofs (disch := omega) only [go_sem, ↓reduceIte, reduceCtorEq, Nat.reduceEqDiff]; rfl⟩ (fun i hi fr σ hJ => ?_) (fun i hi fr σ hJ => ?_) (fun e fr σ hE => ?_)
  · obtain ⟨q, r, hq, hr, f0, f1, f6, f7, f8⟩ := hJ
    obtain ⟨k, hk⟩ : ∃ k, k = 63 - i := ⟨_, rfl⟩
    have hk64 : k < 64 := by omega
    have e1 : 64 - i = k + 1 := by omega
    have e3 : 64 - (i + 1) = k := by omega
    have e4 : (63 : Int) - (i : Int) = ((k : Nat) : Int) := by omega
    rw [e1] at hq hr
    rw [e4] at f8
    rw [e3]
    have hk0 : (0 : Int) ≤ (k : Int) := by omega
    have e2 : IntKind.i64.wrap ((k : Int) - 1) = 63 - ((i + 1 : Nat) : Int) := by rw [IntKind.wrap_i64]; omega
    have hba := c_bit (P := P) (G := G) hT a hk64
    have hbt := c_bit (P := P) (G := G) hT r (show 63 < 64 by omega)
    have hud := u_div a k hk64
    have hp := pow_pos2 k
    have hx := bit_rg a k
    have hst := div_step (m := IntKind.u64.wrap a / 2 ^ (k + 1)) hB hx
    have hdv := Int.mul_ediv_self_le (x := IntKind.u64.wrap a) (k := 2 ^ k) (by omega)
    rw [← hud] at hst
    have hlt := Int.emod_lt_of_pos (IntKind.u64.wrap a / 2 ^ (k + 1)) hB
    have hnn := Int.emod_nonneg (IntKind.u64.wrap a / 2 ^ (k + 1)) (show IntKind.u64.wrap b ≠ 0 by omega)
    have hQn : 0 ≤ IntKind.u64.wrap a / 2 ^ (k + 1) / IntKind.u64.wrap b := Int.ediv_nonneg (Int.ediv_nonneg hA.1 (Int.le_of_lt (pow_pos2 _))) (by omega)
    have hMn : 0 ≤ IntKind.u64.wrap a / 2 ^ k := Int.ediv_nonneg hA.1 (by omega)
    have hQl : IntKind.u64.wrap a / 2 ^ k / IntKind.u64.wrap b ≤ IntKind.u64.wrap a / 2 ^ k := Int.ediv_le_self _ hMn
    have hQp := Int.mul_le_mul_of_nonneg_left hQl (show (0 : Int) ≤ 2 ^ k by omega)
    have htop : r / 2 ^ 63 % 2 = IntKind.u64.wrap r / 2 ^ 63 % 2 := (ubit (by omega)).symm
    have hur : IntKind.u64.wrap r = IntKind.u64.wrap a / 2 ^ (k + 1) % IntKind.u64.wrap b := by rw [hr, wU_wI, Int.emod_eq_of_lt hnn (by omega)]
    rw [hur] at htop
    generalize IntKind.u64.wrap a / 2 ^ (k + 1) % IntKind.u64.wrap b = R at *
    generalize IntKind.u64.wrap a / 2 ^ (k + 1) / IntKind.u64.wrap b = Q at *
    generalize a / 2 ^ k % 2 = x at *
    generalize IntKind.u64.wrap a / 2 ^ k = m at *
    have hsh : IntKind.u64.wrap (IntKind.u64.wrap r * 2 ^ min 1 64) = IntKind.u64.wrap (2 * R) := by rw [hur]; show IntKind.u64.wrap (R * 2) = _; rw [Int.mul_comm]
    have hor : orI .u64 (IntKind.u64.wrap (2 * R)) x = IntKind.u64.wrap (2 * R) + x := or_low1 (wU_rg _).1 (wU_rg _).2 (by rw [wrapU_eq]; omega) hx
    have hr2 : IntKind.i64.wrap (IntKind.u64.wrap (2 * R) + x) = IntKind.i64.wrap (2 * R + x) := wI_cg (cg.add (cg_wU _) (cg.refl _))
    have hbl := c_below (P := P) (G := G) hT (IntKind.i64.wrap (2 * R + x)) b
    rw [wU_wI] at hbl
    have hng := c_neg (P := P) (G := G) hT b
    have had := c_add (P := P) (G := G) hT (IntKind.i64.wrap (2 * R + x)) (IntKind.i64.wrap (-b))
    have hs : IntKind.i64.wrap (IntKind.i64.wrap (2 * R + x) + IntKind.i64.wrap (-b)) = IntKind.i64.wrap (2 * R + x - IntKind.u64.wrap b) := wI_cg ((cg.add (cg_wI _) ((cg_wI _).trans (cg.neg (cg_wU b).symm))).trans (by rw [← Int.sub_eq_add_neg]; exact cg.refl _))
    rw [hs] at had
    have w5 : min k 64 = k := by omega
    have h1k : IntKind.u64.wrap (1 * 2 ^ k) = 2 ^ k := by rw [Int.one_mul]; exact wrapU_id (by omega) (by have := pow_le64 (k := k + 1) (by omega); rw [Int.pow_succ] at this; omega)
    have hqstay : q = 2 ^ k * (2 * Q) := by rw [hq, Int.pow_succ, Int.mul_assoc]
    generalize IntKind.u64.wrap b = B at *
    by_cases hW : B ≤ 2 * R + x
    · obtain ⟨s1, s2⟩ := hst.1 hW
      have hho : orI .u64 q (2 ^ k) = 2 ^ k * (2 * Q + 1) := by
        rw [hq]
        refine or_high hk64 hQn ?_
        rw [s1, Int.mul_add, Int.mul_one] at hQp
        rw [Int.pow_succ, Int.mul_assoc]
        omega
      rw [← s2] at had
      rw [← s1] at hho
      by_cases htp : r / 2 ^ 63 % 2 = 1
      · rw [htp] at hbt
        refine W_round [(0, .int .i64 a), (1, .int .i64 b), (6, .int .u64 q), (7, .int .i64 r), (8, .int .i64 ((k : Nat) : Int))] ⟨f0, f1, f6, f7, f8, trivial⟩  1000 ?_
        simp -implicitDefEqProofs (disch := omega) only [go_sem, ↓reduceIte, reduceCtorEq, Nat.reduceEqDiff, decide_true, ge_iff_le, hk0]
        refine callPS hT t_proofmarkref01_bit hbt rfl 1000 ?_
        simp -implicitDefEqProofs (disch := omega) only [go_sem, ↓reduceIte, reduceCtorEq, Nat.reduceEqDiff, Int.reduceToNat, Int.reduceLE, hsh]
        refine callPS hT t_proofmarkref01_bit hba rfl 1000 ?_
        simp -implicitDefEqProofs (disch := omega) only [go_sem, ↓reduceIte, reduceCtorEq, Nat.reduceEqDiff, beq_self_eq_true, hor, hr2]
        refine callPS hT t_proofmarkref01_neg hng rfl 1000 ?_
        simp -implicitDefEqProofs (disch := omega) only [go_sem, ↓reduceIte, reduceCtorEq, Nat.reduceEqDiff]
        refine callPS hT t_proofmarkref01_add had rfl 1000 ?_
        simp -implicitDefEqProofs (disch := omega) only [go_sem, ↓reduceIte, reduceCtorEq, Nat.reduceEqDiff, hk0, Int.toNat_natCast, w5, h1k, hho, e2]
        refine ⟨_, _, Shift.refl _ _ _ _, _, _, rfl, rfl, ?_⟩
        simp -implicitDefEqProofs (disch := omega) only [go_sem, ↓reduceIte, reduceCtorEq, Nat.reduceEqDiff]
      · have htp0 : ¬ r / 2 ^ 63 % 2 = 1 := htp
        have hsm : (2 * R + x) % 18446744073709551616 = 2 * R + x := by
          rw [htop, show (2 : Int) ^ 63 = 9223372036854775808 from rfl] at htp
          exact Int.emod_eq_of_lt (by omega) (by omega)
        have hnl : decide (2 * R + x < B) = false := by simpa using hW
        rw [hsm, hnl] at hbl
        refine W_round [(0, .int .i64 a), (1, .int .i64 b), (6, .int .u64 q), (7, .int .i64 r), (8, .int .i64 ((k : Nat) : Int))] ⟨f0, f1, f6, f7, f8, trivial⟩  1000 ?_
        simp -implicitDefEqProofs (disch := omega) only [go_sem, ↓reduceIte, reduceCtorEq, Nat.reduceEqDiff, decide_true, ge_iff_le, hk0]
        refine callPS hT t_proofmarkref01_bit hbt rfl 1000 ?_
        simp -implicitDefEqProofs (disch := omega) only [go_sem, ↓reduceIte, reduceCtorEq, Nat.reduceEqDiff, Int.reduceToNat, Int.reduceLE, hsh]
        refine callPS hT t_proofmarkref01_bit hba rfl 1000 ?_
        simp -implicitDefEqProofs (disch := omega) only [go_sem, ↓reduceIte, reduceCtorEq, Nat.reduceAdd, Nat.reduceEqDiff, false_implies, true_implies, true_and, not_false_eq_true, hor, hr2, htp0]
        refine callPS hT t_proofmarkref01_below hbl rfl 1000 ?_
        simp -implicitDefEqProofs (disch := omega) only [go_sem, ↓reduceIte, reduceCtorEq, Nat.reduceAdd, Nat.reduceEqDiff, Bool.not_false]
        refine callPS hT t_proofmarkref01_neg hng rfl 1000 ?_
        simp -implicitDefEqProofs (disch := omega) only [go_sem, ↓reduceIte, reduceCtorEq, Nat.reduceEqDiff]
        refine callPS hT t_proofmarkref01_add had rfl 1000 ?_
        simp -implicitDefEqProofs (disch := omega) only [go_sem, ↓reduceIte, reduceCtorEq, Nat.reduceEqDiff, hk0, Int.toNat_natCast, w5, h1k, hho, e2]
        refine ⟨_, _, Shift.refl _ _ _ _, _, _, rfl, rfl, ?_⟩
        simp -implicitDefEqProofs (disch := omega) only [go_sem, ↓reduceIte, reduceCtorEq, Nat.reduceEqDiff]
    · obtain ⟨s1, s2⟩ := hst.2 (by omega)
      have htp0 : ¬ r / 2 ^ 63 % 2 = 1 := by
        intro h
        rw [htop, show (2 : Int) ^ 63 = 9223372036854775808 from rfl] at h
        omega
      have hsm : (2 * R + x) % 18446744073709551616 = 2 * R + x := Int.emod_eq_of_lt (by omega) (by omega)
      have hnl : decide (2 * R + x < B) = true := by simpa using hW
      rw [hsm, hnl] at hbl
      rw [← s1] at hqstay
      rw [← s2] at hr2
      rw [← s2] at hbl
      refine W_round [(0, .int .i64 a), (1, .int .i64 b), (6, .int .u64 q), (7, .int .i64 r), (8, .int .i64 ((k : Nat) : Int))] ⟨f0, f1, f6, f7, f8, trivial⟩  1000 ?_
      simp -implicitDefEqProofs (disch := omega) only [go_sem, ↓reduceIte, reduceCtorEq, Nat.reduceEqDiff, decide_true, ge_iff_le, hk0]
      refine callPS hT t_proofmarkref01_bit hbt rfl 1000 ?_
      simp -implicitDefEqProofs (disch := omega) only [go_sem, ↓reduceIte, reduceCtorEq, Nat.reduceEqDiff, Int.reduceToNat, Int.reduceLE, hsh]
      refine callPS hT t_proofmarkref01_bit hba rfl 1000 ?_
      simp -implicitDefEqProofs (disch := omega) only [go_sem, ↓reduceIte, reduceCtorEq, Nat.reduceAdd, Nat.reduceEqDiff, false_implies, true_implies, true_and, not_false_eq_true, hor, hr2, htp0]
      refine callPS hT t_proofmarkref01_below hbl rfl 1000 ?_
      simp -implicitDefEqProofs (disch := omega) only [go_sem, ↓reduceIte, reduceCtorEq, Nat.reduceAdd, Nat.reduceEqDiff, Bool.not_true, e2]
      refine ⟨_, _, Shift.refl _ _ _ _, _, _, hqstay, rfl, ?_⟩
      simp -implicitDefEqProofs (disch := omega) only [go_sem, ↓reduceIte, reduceCtorEq, Nat.reduceEqDiff]
  · obtain ⟨q, r, hq, hr, f0, f1, f6, f7, f8⟩ := hJ
    have hki : ¬ (0 : Int) ≤ 63 - (i : Int) := by omega
    have hq' : q = IntKind.u64.wrap a / IntKind.u64.wrap b := by rw [hq, hi]; simp
    have hr' : r = IntKind.i64.wrap (IntKind.u64.wrap a % IntKind.u64.wrap b) := by rw [hr, hi]; simp
    refine W_run 1000 ?_
    simp -implicitDefEqProofs (disch := omega) only [go_sem, ↓reduceIte, Nat.reduceEqDiff, decide_false, ge_iff_le, true_and, f6, f7, f8, hki]
    rw [hq', hr']
    exact ⟨rfl, rfl⟩
  · obtain ⟨rfl, f6, f7⟩ := hE
    refine run_sem 1000 ?_
    simp -implicitDefEqProofs (disch := omega) only [go_sem, ↓reduceIte, Nat.reduceEqDiff, Nat.zero_le, and_true, f6, f7]
end Go.Proofs.YtfligilbnpcnaaaGreatDoor

