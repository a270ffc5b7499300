/- The document's words, bit by bit. -/
import Derived.Test.YtfligilbnpcnaaaGreatDoorB1
namespace Go.Proofs.YtfligilbnpcnaaaGreatDoor
open Go Go.Am
set_option maxRecDepth 100000
set_option maxHeartbeats 1000000
variable {P : Program} {G : Nat → Option V}
theorem c_neg (hT : TabOk P tab) (a : Int) : Pure P G n_proofmarkref01_neg [.int .i64 a] fun v => v = .int .i64 (IntKind.i64.wrap (-a)) := by
  intro t
  refine C_keep 0 (Nat.zero_le _) (C_tab hT t_proofmarkref01_neg (by simp [proofmarkref01_neg]) (W_run 1000 ?_))
  simp -implicitDefEqProofs (disch := omega) only [go_sem, ↓reduceIte, reduceCtorEq, Nat.reduceEqDiff, proofmarkref01_neg, proofmarkref01_neg_r0, proofmarkref01_neg_r1]
  refine callPS hT t_proofmarkref01_add (c_add hT _ 1) rfl 1000 ?_
  have e := xor_ones a
  have e2 : IntKind.i64.wrap (IntKind.i64.wrap (-a - 1) + 1) = IntKind.i64.wrap (-a) := wI_cg ((cg.add (cg_wI _) (cg.refl 1)).trans (by rw [Int.sub_add_cancel]; exact cg.refl _))
  simp -implicitDefEqProofs (disch := omega) only [go_sem, ↓reduceIte, reduceCtorEq, Nat.reduceEqDiff, Nat.le_refl, e, e2]
theorem c_one (hT : TabOk P tab) (b : Bool) : Pure P G n_proofmarkref01_one [.bool b] fun v => v = .int .i64 (if b = true then 1 else 0) := by
  intro t
  refine C_keep 0 (Nat.zero_le _) (C_tab hT t_proofmarkref01_one (by simp [proofmarkref01_one]) (W_run 1000 ?_))
  cases b <;> simp -implicitDefEqProofs (disch := omega) only [go_sem, ↓reduceIte, reduceCtorEq, Nat.reduceEqDiff, Nat.le_refl, proofmarkref01_one, proofmarkref01_one_r0, proofmarkref01_one_r1, proofmarkref01_one_r2, proofmarkref01_one_r3, Bool.false_eq_true]
theorem c_mul (hT : TabOk P tab) (a b : Int) : Pure P G n_proofmarkref01_mul [.int .i64 a, .int .i64 b] fun v => v = .int .i64 (IntKind.i64.wrap (a * b)) := by
  intro t
  refine C_keep 0 (Nat.zero_le _) (C_tab hT t_proofmarkref01_mul (by simp [proofmarkref01_mul]) (W_run 1000 ?_))
  simp -implicitDefEqProofs (disch := omega) only [go_sem, ↓reduceIte, reduceCtorEq, Nat.reduceEqDiff, Nat.zero_add, proofmarkref01_mul, proofmarkref01_mul_r0, proofmarkref01_mul_r1, proofmarkref01_mul_r2, proofmarkref01_mul_r3, proofmarkref01_mul_r4, proofmarkref01_mul_r5, proofmarkref01_mul_r6, proofmarkref01_mul_r7]
  refine sem_upto 64 (fun k fr σ => ∃ out : Int, out = IntKind.i64.wrap (a * (b % 2 ^ k)) ∧ fget fr 0 = .int .i64 a ∧ fget fr 1 = .int .i64 b ∧ fget fr 5 = .int .i64 out ∧ fget fr 6 = .int .i64 ((k : Nat) : Int))
    (fun e fr σ => e = .ex 0 ∧ fget fr 5 = .int .i64 (IntKind.i64.wrap (a * (b % 2 ^ 64)))) ⟨0, by simp [Int.emod_one]; rfl, by simp -implicitDefEqProofs (disch := omega) only [go_sem, ↓reduceIte], by simp -implicitDefEqProofs (disch := omega) only [go_sem, ↓reduceIte, reduceCtorEq], by simp -implicitDefEqProofs (disch := omega) only [go_sem, ↓reduceIte, reduceCtorEq, Nat.reduceEqDiff], by simp -implicitDefEqProofs (disch := omega) only [go_sem, ↓reduceIte, reduceCtorEq, Nat.reduceEqDiff]; rfl⟩ (fun k hk fr σ hJ => ?_) (fun k hk fr σ hJ => ?_) (fun e fr σ hE => ?_)
  · obtain ⟨out, ho, f0, f1, f5, f6⟩ := hJ
    have hki : (k : Int) < 64 := by omega
    have hk0 : (0 : Int) ≤ (k : Int) := by omega
    have e2 : IntKind.i64.wrap ((k : Int) + 1) = ((k + 1 : Nat) : Int) := w_nx hk (by omega)
    have hbb := c_bit (P := P) (G := G) hT b hk
    have w5 : min k 64 = k := by omega
    by_cases h1 : b / 2 ^ k % 2 = 1
    · have hm := mul_step ho h1
      rw [h1] at hbb
      have hadd := c_add (P := P) (G := G) hT out (IntKind.i64.wrap (IntKind.u64.wrap (IntKind.u64.wrap a * 2 ^ k)))
      rw [hm] at hadd
      refine W_round [(0, .int .i64 a), (1, .int .i64 b), (5, .int .i64 out), (6, .int .i64 ((k : Nat) : Int))] ⟨f0, f1, f5, f6, trivial⟩  1000 ?_
      simp -implicitDefEqProofs (disch := omega) only [go_sem, ↓reduceIte, reduceCtorEq, Nat.reduceEqDiff, decide_true, hki]
      refine callPS hT t_proofmarkref01_bit hbb rfl 1000 ?_
      simp -implicitDefEqProofs (disch := omega) only [go_sem, ↓reduceIte, reduceCtorEq, Nat.reduceEqDiff, beq_self_eq_true, w5, hk0, Int.toNat_natCast]
      refine callPS hT t_proofmarkref01_add hadd rfl 1000 ?_
      simp -implicitDefEqProofs (disch := omega) only [go_sem, ↓reduceIte, reduceCtorEq, Nat.reduceEqDiff, e2]
      refine ⟨_, _, Shift.refl _ _ _ _, _, rfl, ?_⟩
      simp -implicitDefEqProofs (disch := omega) only [go_sem, ↓reduceIte, reduceCtorEq, Nat.reduceEqDiff]
    · have hm := mul_stay (a := a) h1
      rw [← hm] at ho
      refine W_round [(0, .int .i64 a), (1, .int .i64 b), (5, .int .i64 out), (6, .int .i64 ((k : Nat) : Int))] ⟨f0, f1, f5, f6, trivial⟩  1000 ?_
      simp -implicitDefEqProofs (disch := omega) only [go_sem, ↓reduceIte, reduceCtorEq, Nat.reduceEqDiff, decide_true, hki]
      refine callPS hT t_proofmarkref01_bit hbb rfl 1000 ?_
      simp -implicitDefEqProofs (disch := omega) only [go_sem, need_of, ↓reduceIte, reduceCtorEq, Nat.reduceEqDiff, h1, e2, false_implies, true_implies, true_and]
      refine ⟨_, _, Shift.refl _ _ _ _, _, ho, ?_⟩
      simp -implicitDefEqProofs (disch := omega) only [go_sem, ↓reduceIte, reduceCtorEq, Nat.reduceEqDiff]
  · obtain ⟨out, ho, f0, f1, f5, f6⟩ := hJ
    have hki : ¬ (k : Int) < 64 := by omega
    rw [hk] at ho
    refine W_round [(0, .int .i64 a), (1, .int .i64 b), (5, .int .i64 out), (6, .int .i64 ((k : Nat) : Int))] ⟨f0, f1, f5, f6, trivial⟩  1000 ?_
    simp -implicitDefEqProofs (disch := omega) only [go_sem, ↓reduceIte, reduceCtorEq, Nat.reduceEqDiff, decide_false, hki]
    rw [ho]
  · obtain ⟨rfl, f5⟩ := hE
    refine run_sem 1000 ?_
    have e : IntKind.i64.wrap (a * (b % 2 ^ 64)) = IntKind.i64.wrap (a * b) := wI_cg (cg.mul (cg.refl _) (by show b % 18446744073709551616 % 18446744073709551616 = _; omega))
    simp -implicitDefEqProofs (disch := omega) only [go_sem, ↓reduceIte, Nat.reduceEqDiff, Nat.zero_le, f5, e]
theorem c_below (hT : TabOk P tab) (a b : Int) : Pure P G n_proofmarkref01_below [.int .i64 a, .int .i64 b] fun v => v = .bool (decide (IntKind.u64.wrap a < IntKind.u64.wrap b)) := by
  intro t
  refine C_keep 0 (Nat.zero_le _) (C_tab hT t_proofmarkref01_below (by simp [proofmarkref01_below]) (W_run 1000 ?_))
  simp -implicitDefEqProofs (disch := omega) only [go_sem, ↓reduceIte, reduceCtorEq, Nat.reduceEqDiff, Nat.zero_add, proofmarkref01_below, proofmarkref01_below_r0, proofmarkref01_below_r1, proofmarkref01_below_r2, proofmarkref01_below_r3, proofmarkref01_below_r4, proofmarkref01_below_r5, proofmarkref01_below_r6]
  refine sem_upto 64 (fun i fr σ => IntKind.u64.wrap a / 2 ^ (64 - i) = IntKind.u64.wrap b / 2 ^ (64 - i) ∧ fget fr 0 = .int .i64 a ∧ fget fr 1 = .int .i64 b ∧ fget fr 5 = .int .i64 (63 - (i : Int)))
    (fun e fr σ => (e = .ret ∧ fget fr 4 = .bool (decide (IntKind.u64.wrap a < IntKind.u64.wrap b))) ∨ (e = .ex 0 ∧ IntKind.u64.wrap a = IntKind.u64.wrap b)) ⟨by rw [Nat.sub_zero, u_top, u_top], by simp -implicitDefEqProofs (disch := omega) only [go_sem, ↓reduceIte], by simp -implicitDefEqProofs (disch := omega) only [go_sem, ↓reduceIte, reduceCtorEq], by simp -implicitDefEqProofs (disch := omega) only [go_sem, ↓reduceIte, reduceCtorEq, Nat.reduceEqDiff]; rfl⟩ (fun i hi fr σ hJ => ?_) (fun i hi fr σ hJ => ?_) (fun e fr σ hE => ?_)
  · obtain ⟨hq, f0, f1, f5⟩ := hJ
    obtain ⟨k, hk⟩ : ∃ k, k = 63 - i := ⟨_, rfl⟩
    have hk64 : k < 64 := by omega
    have e1 : 64 - i = k + 1 := by omega
    have e3 : 64 - (i + 1) = k := by omega
    have e4 : (63 : Int) - (i : Int) = ((k : Nat) : Int) := by omega
    rw [e1] at hq
    rw [e4] at f5
    have hk0 : (0 : Int) ≤ (k : Int) := by omega
    have e2 : IntKind.i64.wrap ((k : Int) - 1) = 63 - ((i + 1 : Nat) : Int) := by rw [IntKind.wrap_i64]; omega
    have hba := c_bit (P := P) (G := G) hT a hk64
    have hbb := c_bit (P := P) (G := G) hT b hk64
    rw [e3]
    by_cases hd : a / 2 ^ k % 2 = b / 2 ^ k % 2
    · have hs := below_same hk64 hq hd
      rw [hd] at hba
      refine W_round [(0, .int .i64 a), (1, .int .i64 b), (5, .int .i64 ((k : Nat) : Int))] ⟨f0, f1, f5, trivial⟩  1000 ?_
      simp -implicitDefEqProofs (disch := omega) only [go_sem, ↓reduceIte, reduceCtorEq, Nat.reduceEqDiff, decide_true, ge_iff_le, hk0]
      refine callPS hT t_proofmarkref01_bit hba rfl 1000 ?_
      simp -implicitDefEqProofs (disch := omega) only [go_sem, ↓reduceIte, reduceCtorEq, Nat.reduceEqDiff]
      refine callPS hT t_proofmarkref01_bit hbb rfl 1000 ?_
      simp -implicitDefEqProofs (disch := omega) only [go_sem, ↓reduceIte, reduceCtorEq, Nat.reduceEqDiff, bne_self_eq_false, bne_self_eq_false, e2]
      refine ⟨_, _, Shift.refl _ _ _ _, hs, ?_⟩
      simp -implicitDefEqProofs (disch := omega) only [go_sem, ↓reduceIte, reduceCtorEq, Nat.reduceEqDiff]
    · have hs : (b / 2 ^ k % 2 == 1) = decide (IntKind.u64.wrap a < IntKind.u64.wrap b) := by
        rw [Bool.eq_iff_iff]
        simpa using below_diff hk64 hq hd
      refine W_round [(0, .int .i64 a), (1, .int .i64 b), (5, .int .i64 ((k : Nat) : Int))] ⟨f0, f1, f5, trivial⟩  1000 ?_
      simp -implicitDefEqProofs (disch := omega) only [go_sem, ↓reduceIte, reduceCtorEq, Nat.reduceEqDiff, decide_true, ge_iff_le, hk0]
      refine callPS hT t_proofmarkref01_bit hba rfl 1000 ?_
      simp -implicitDefEqProofs (disch := omega) only [go_sem, ↓reduceIte, reduceCtorEq, Nat.reduceEqDiff]
      refine callPS hT t_proofmarkref01_bit hbb rfl 1000 ?_
      simp -implicitDefEqProofs (disch := omega) only [go_sem, ↓reduceIte, reduceCtorEq, Nat.reduceEqDiff, hd, false_implies, true_implies, and_true]
      refine callPS hT t_proofmarkref01_bit hbb rfl 1000 ?_
      simp -implicitDefEqProofs (disch := omega) only [go_sem, ↓reduceIte, reduceCtorEq, Nat.reduceEqDiff, hs]
  · obtain ⟨hq, f0, f1, f5⟩ := hJ
    have hki : ¬ (0 : Int) ≤ 63 - (i : Int) := by omega
    have hq' : IntKind.u64.wrap a = IntKind.u64.wrap b := by rw [hi] at hq; simpa using hq
    refine W_run 1000 ?_
    simp -implicitDefEqProofs (disch := omega) only [go_sem, ↓reduceIte, reduceCtorEq, Nat.reduceEqDiff, decide_false, ge_iff_le, f5, hki]
    exact hq'
  · rcases hE with ⟨rfl, f4⟩ | ⟨rfl, hq⟩
    · refine run_sem 1000 ?_
      simp -implicitDefEqProofs (disch := omega) only [go_sem, Nat.zero_le, f4]
    · refine run_sem 1000 ?_
      simp -implicitDefEqProofs (disch := omega) only [go_sem, ↓reduceIte, decide_false, Nat.zero_le, hq, Int.lt_irrefl, decide_false]
end Go.Proofs.YtfligilbnpcnaaaGreatDoor

