/- The document's words, bit by bit. -/
import Derived.Test.YtfligilbnpcnaaaGreatDoorWo3
import Derived.Test.YtfligilbnpcnaaaGreatDoorBa
/- The document's words, bit by bit. -/
namespace Go.Proofs.YtfligilbnpcnaaaGreatDoor
open Go Go.Am
set_option maxRecDepth 100000
set_option maxHeartbeats 1000000
variable {P : Program} {G : Nat → Option V}
theorem c_bit (hT : TabOk P tab) (a : Int) {k : Nat} (hk : k < 64) : Pure P G n_proofmarkref01_bit [.int .i64 a, .int .i64 (k : Int)] fun v => v = .int .u64 ((a / 2 ^ k) % 2) := by
  intro t
  refine C_keep 0 (Nat.zero_le _) (C_tab hT t_proofmarkref01_bit (by simp [proofmarkref01_bit]) (W_run 1000 ?_))
  have h0 : (0 : Int) ≤ (k : Int) := by omega
  have e := bit_eq (a := a) hk
  simp -implicitDefEqProofs (disch := omega) only [go_sem, ↓reduceIte, reduceCtorEq, Nat.reduceEqDiff, Nat.zero_add, Nat.le_refl, proofmarkref01_bit, zq14_0, zq14_1, h0, Int.toNat_natCast, e]
theorem c_add (hT : TabOk P tab) (a b : Int) : Pure P G n_proofmarkref01_add [.int .i64 a, .int .i64 b] fun v => v = .int .i64 (IntKind.i64.wrap (a + b)) := by
  intro t
  refine C_keep 0 (Nat.zero_le _) (C_tab hT t_proofmarkref01_add (by simp [proofmarkref01_add]) (W_run 1000 ?_))
  simp -implicitDefEqProofs (disch := omega) only [go_sem, ↓reduceIte, reduceCtorEq, Nat.reduceEqDiff, Nat.zero_add, proofmarkref01_add, zqz_0, zqz_1, zqz_2, zqz_3, zqz_4, zqz_5, zqz_6, zqz_7, zqz_8]
  refine sem_upto 64 (fun k fr σ => ∃ out car : Int, 0 ≤ out ∧ out < 2 ^ k ∧ 0 ≤ car ∧ car ≤ 1 ∧ out + 2 ^ k * car = a % 2 ^ k + b % 2 ^ k ∧ fget fr 0 = .int .i64 a ∧ fget fr 1 = .int .i64 b ∧ fget fr 5 = .int .u64 out ∧ fget fr 6 = .int .u64 car ∧ fget fr 7 = .int .i64 ((k : Nat) : Int))
    (fun e fr σ => e = .ex 0 ∧ ∃ out car : Int, 0 ≤ out ∧ out < 2 ^ 64 ∧ 0 ≤ car ∧ car ≤ 1 ∧ out + 2 ^ 64 * car = a % 2 ^ 64 + b % 2 ^ 64 ∧ fget fr 5 = .int .u64 out) ⟨0, 0, by omega, by decide, by omega, by omega, by simp, by simp -implicitDefEqProofs (disch := omega) only [go_sem, ↓reduceIte], by simp -implicitDefEqProofs (disch := omega) only [go_sem, ↓reduceIte, reduceCtorEq], by simp -implicitDefEqProofs (disch := omega) only [go_sem, ↓reduceIte, reduceCtorEq, Nat.reduceEqDiff], by simp -implicitDefEqProofs (disch := omega) only [go_sem, ↓reduceIte, reduceCtorEq, Nat.reduceEqDiff], by simp -implicitDefEqProofs (disch := omega) only [go_sem, ↓reduceIte, reduceCtorEq, Nat.reduceEqDiff]; rfl⟩ (fun k hk fr σ hJ => ?_) (fun k hk fr σ hJ => ?_) (fun e fr σ hE => ?_)
  · obtain ⟨out, car, h1, h2, h3, h4, h5, f0, f1, f5, f6, f7⟩ := hJ
    have hki : (k : Int) < 64 := by omega
    have hk0 : (0 : Int) ≤ (k : Int) := by omega
    have e2 : IntKind.i64.wrap ((k : Int) + 1) = ((k + 1 : Nat) : Int) := w_nx hk (by omega)
    have hba := c_bit (P := P) (G := G) hT a hk
    have hbb := c_bit (P := P) (G := G) hT b hk
    have ha := bit_rg a k
    have hb := bit_rg b k
    have hst := add_step h1 h2 h3 h4 h5
    generalize a / 2 ^ k % 2 = x at *
    generalize b / 2 ^ k % 2 = y at *
    have w1 : IntKind.u64.wrap (x + y) = x + y := wrapU_id (by omega) (by omega)
    have w2 : IntKind.u64.wrap (x + y + car) = x + y + car := wrapU_id (by omega) (by omega)
    have w3 := and_one (x + y + car)
    have hz := or_bit (x := (x + y + car) % 2) hk h1 h2 (by omega)
    have hp := pow_pos2 k
    have hp64 := pow_le64 (k := k + 1) (by omega)
    rw [Int.pow_succ] at hp64
    have w4 : IntKind.u64.wrap ((x + y + car) % 2 * 2 ^ k) = (x + y + car) % 2 * 2 ^ k := by
      rcases (show (x + y + car) % 2 = 0 ∨ (x + y + car) % 2 = 1 by omega) with h | h <;> rw [h] <;> exact wrapU_id (by omega) (by omega)
    have w5 : min k 64 = k := by omega
    have w6 : (x + y + car).fdiv (2 ^ min 1 64) = (x + y + car) / 2 := Int.fdiv_eq_ediv_of_nonneg _ (by decide)
    refine W_round [(0, .int .i64 a), (1, .int .i64 b), (5, .int .u64 out), (6, .int .u64 car), (7, .int .i64 ((k : Nat) : Int))] ⟨f0, f1, f5, f6, f7, trivial⟩  1000 ?_
    simp -implicitDefEqProofs (disch := omega) only [go_sem, ↓reduceIte, reduceCtorEq, Nat.reduceEqDiff, decide_true, hki]
    refine callPS hT t_proofmarkref01_bit hba rfl 1000 ?_
    simp -implicitDefEqProofs (disch := omega) only [go_sem, ↓reduceIte, reduceCtorEq, Nat.reduceEqDiff]
    refine callPS hT t_proofmarkref01_bit hbb rfl 1000 ?_
    simp -implicitDefEqProofs (disch := omega) only [go_sem, ↓reduceIte, reduceCtorEq, Nat.reduceEqDiff, Int.reduceToNat, Int.reduceLE, e2, w1, w2, w3, w5, hk0, Int.toNat_natCast]
    simp -implicitDefEqProofs (disch := omega) only [go_sem, w4, w6, hz]
    refine ⟨_, _, Shift.refl _ _ _ _, _, _, hst.1, hst.2.1, hst.2.2.1, hst.2.2.2.1, hst.2.2.2.2, ?_⟩
    simp -implicitDefEqProofs (disch := omega) only [go_sem, ↓reduceIte, reduceCtorEq, Nat.reduceEqDiff]
  · obtain ⟨out, car, h1, h2, h3, h4, h5, f0, f1, f5, f6, f7⟩ := hJ
    have hki : ¬ (k : Int) < 64 := by omega
    rw [hk] at h2 h5
    refine W_round [(0, .int .i64 a), (1, .int .i64 b), (5, .int .u64 out), (6, .int .u64 car), (7, .int .i64 ((k : Nat) : Int))] ⟨f0, f1, f5, f6, f7, trivial⟩  1000 ?_
    simp -implicitDefEqProofs (disch := omega) only [go_sem, ↓reduceIte, reduceCtorEq, Nat.reduceEqDiff, decide_false, hki]
    exact ⟨out, car, h1, h2, h3, h4, h5, rfl⟩
  · obtain ⟨rfl, out, car, h1, h2, h3, h4, h5, f5⟩ := hE
    refine run_sem 1000 ?_
    have e : IntKind.i64.wrap out = IntKind.i64.wrap (a + b) := by
      rw [show (2 : Int) ^ 64 = 18446744073709551616 from rfl] at h5
      exact wrapI_mod (by omega)
    simp -implicitDefEqProofs (disch := omega) only [go_sem, ↓reduceIte, Nat.reduceEqDiff, Nat.zero_le, f5, e]
end Go.Proofs.YtfligilbnpcnaaaGreatDoor

/- The document's words, bit by bit. -/
namespace Go.Proofs.YtfligilbnpcnaaaGreatDoor
open Go Go.Am
set_option maxRecDepth 100000
set_option maxHeartbeats 1000000
variable {P : Program} {G : Nat → Option V}
theorem c_neg (hT : TabOk P tab) (a : Int) : Pure P G n_proofmarkref01_neg [.int .i64 a] fun v => v = .int .i64 (IntKind.i64.wrap (-a)) := by
  intro t
  refine C_keep 0 (Nat.zero_le _) (C_tab hT t_proofmarkref01_neg (by simp [proofmarkref01_neg]) (W_run 1000 ?_))
  simp -implicitDefEqProofs (disch := omega) only [go_sem, ↓reduceIte, reduceCtorEq, Nat.reduceEqDiff, proofmarkref01_neg, zq10_0, zq10_1]
  refine callPS hT t_proofmarkref01_add (c_add hT _ 1) rfl 1000 ?_
  have e := xor_ones a
  have e2 : IntKind.i64.wrap (IntKind.i64.wrap (-a - 1) + 1) = IntKind.i64.wrap (-a) := wI_cg ((cg.add (cg_wI _) (cg.refl 1)).trans (by rw [Int.sub_add_cancel]; exact cg.refl _))
  simp -implicitDefEqProofs (disch := omega) only [go_sem, ↓reduceIte, reduceCtorEq, Nat.reduceEqDiff, Nat.le_refl, e, e2]
theorem c_one (hT : TabOk P tab) (b : Bool) : Pure P G n_proofmarkref01_one [.bool b] fun v => v = .int .i64 (if b = true then 1 else 0) := by
  intro t
  refine C_keep 0 (Nat.zero_le _) (C_tab hT t_proofmarkref01_one (by simp [proofmarkref01_one]) (W_run 1000 ?_))
  cases b <;> simp -implicitDefEqProofs (disch := omega) only [go_sem, ↓reduceIte, reduceCtorEq, Nat.reduceEqDiff, Nat.le_refl, proofmarkref01_one, zq15_0, zq15_1, zq15_2, zq15_3, Bool.false_eq_true]
theorem c_mul (hT : TabOk P tab) (a b : Int) : Pure P G n_proofmarkref01_mul [.int .i64 a, .int .i64 b] fun v => v = .int .i64 (IntKind.i64.wrap (a * b)) := by
  intro t
  refine C_keep 0 (Nat.zero_le _) (C_tab hT t_proofmarkref01_mul (by simp [proofmarkref01_mul]) (W_run 1000 ?_))
  simp -implicitDefEqProofs (disch := omega) only [go_sem, ↓reduceIte, reduceCtorEq, Nat.reduceEqDiff, Nat.zero_add, proofmarkref01_mul, zq11_0, zq11_1, zq11_2, zq11_3, zq11_4, zq11_5, zq11_6, zq11_7]
  refine sem_upto 64 (fun k fr σ => ∃ out : Int, out = IntKind.i64.wrap (a * (b % 2 ^ k)) ∧ fget fr 0 = .int .i64 a ∧ fget fr 1 = .int .i64 b ∧ fget fr 5 = .int .i64 out ∧ fget fr 6 = .int .i64 ((k : Nat) : Int))
    (fun e fr σ => e = .ex 0 ∧ fget fr 5 = .int .i64 (IntKind.i64.wrap (a * (b % 2 ^ 64)))) ⟨0, by simp [Int.emod_one]; rfl, by simp -implicitDefEqProofs (disch := omega) only [go_sem, ↓reduceIte], by simp -implicitDefEqProofs (disch := omega) only [go_sem, ↓reduceIte, reduceCtorEq], by simp -implicitDefEqProofs (disch := omega) only [go_sem, ↓reduceIte, reduceCtorEq, Nat.reduceEqDiff], by simp -implicitDefEqProofs (disch := omega) only [go_sem, ↓reduceIte, reduceCtorEq, Nat.reduceEqDiff]; rfl⟩ (fun k hk fr σ hJ => ?_) (fun k hk fr σ hJ => ?_) (fun e fr σ hE => ?_)
  · obtain ⟨out, ho, f0, f1, f5, f6⟩ := hJ
    have hki : (k : Int) < 64 := by omega
    have hk0 : (0 : Int) ≤ (k : Int) := by omega
    have e2 : IntKind.i64.wrap ((k : Int) + 1) = ((k + 1 : Nat) : Int) := w_nx hk (by omega)
    have hbb := c_bit (P := P) (G := G) hT b hk
    have w5 : min k 64 = k := by omega
    by_cases h1 : b / 2 ^ k % 2 = 1
    · have hm := mul_step ho h1
      rw [h1] at hbb
      have hadd := c_add (P := P) (G := G) hT out (IntKind.i64.wrap (IntKind.u64.wrap (IntKind.u64.wrap a * 2 ^ k)))
      rw [hm] at hadd
      refine W_round [(0, .int .i64 a), (1, .int .i64 b), (5, .int .i64 out), (6, .int .i64 ((k : Nat) : Int))] ⟨f0, f1, f5, f6, trivial⟩  1000 ?_
      simp -implicitDefEqProofs (disch := omega) only [go_sem, ↓reduceIte, reduceCtorEq, Nat.reduceEqDiff, decide_true, hki]
      refine callPS hT t_proofmarkref01_bit hbb rfl 1000 ?_
      simp -implicitDefEqProofs (disch := omega) only [go_sem, ↓reduceIte, reduceCtorEq, Nat.reduceEqDiff, beq_self_eq_true, w5, hk0, Int.toNat_natCast]
      refine callPS hT t_proofmarkref01_add hadd rfl 1000 ?_
      simp -implicitDefEqProofs (disch := omega) only [go_sem, ↓reduceIte, reduceCtorEq, Nat.reduceEqDiff, e2]
      refine ⟨_, _, Shift.refl _ _ _ _, _, rfl, ?_⟩
      simp -implicitDefEqProofs (disch := omega) only [go_sem, ↓reduceIte, reduceCtorEq, Nat.reduceEqDiff]
    · have hm := mul_stay (a := a) h1
      rw [← hm] at ho
      refine W_round [(0, .int .i64 a), (1, .int .i64 b), (5, .int .i64 out), (6, .int .i64 ((k : Nat) : Int))] ⟨f0, f1, f5, f6, trivial⟩  1000 ?_
      simp -implicitDefEqProofs (disch := omega) only [go_sem, ↓reduceIte, reduceCtorEq, Nat.reduceEqDiff, decide_true, hki]
      refine callPS hT t_proofmarkref01_bit hbb rfl 1000 ?_
      simp -implicitDefEqProofs (disch := omega) only [go_sem, need_of, ↓reduceIte, reduceCtorEq, Nat.reduceEqDiff, h1, e2, false_implies, true_implies, true_and]
      refine ⟨_, _, Shift.refl _ _ _ _, _, ho, ?_⟩
      simp -implicitDefEqProofs (disch := omega) only [go_sem, ↓reduceIte, reduceCtorEq, Nat.reduceEqDiff]
  · obtain ⟨out, ho, f0, f1, f5, f6⟩ := hJ
    have hki : ¬ (k : Int) < 64 := by omega
    rw [hk] at ho
    refine W_round [(0, .int .i64 a), (1, .int .i64 b), (5, .int .i64 out), (6, .int .i64 ((k : Nat) : Int))] ⟨f0, f1, f5, f6, trivial⟩  1000 ?_
    simp -implicitDefEqProofs (disch := omega) only [go_sem, ↓reduceIte, reduceCtorEq, Nat.reduceEqDiff, decide_false, hki]
    rw [ho]
  · obtain ⟨rfl, f5⟩ := hE
    refine run_sem 1000 ?_
    have e : IntKind.i64.wrap (a * (b % 2 ^ 64)) = IntKind.i64.wrap (a * b) := wI_cg (cg.mul (cg.refl _) (by show b % 18446744073709551616 % 18446744073709551616 = _; omega))
    simp -implicitDefEqProofs (disch := omega) only [go_sem, ↓reduceIte, Nat.reduceEqDiff, Nat.zero_le, f5, e]
theorem c_below (hT : TabOk P tab) (a b : Int) : Pure P G n_proofmarkref01_below [.int .i64 a, .int .i64 b] fun v => v = .bool (decide (IntKind.u64.wrap a < IntKind.u64.wrap b)) := by
  intro t
  refine C_keep 0 (Nat.zero_le _) (C_tab hT t_proofmarkref01_below (by simp [proofmarkref01_below]) (W_run 1000 ?_))
  simp -implicitDefEqProofs (disch := omega) only [go_sem, ↓reduceIte, reduceCtorEq, Nat.reduceEqDiff, Nat.zero_add, proofmarkref01_below, zq16_0, zq16_1, zq16_2, zq16_3, zq16_4, zq16_5, zq16_6]
  refine sem_upto 64 (fun i fr σ => IntKind.u64.wrap a / 2 ^ (64 - i) = IntKind.u64.wrap b / 2 ^ (64 - i) ∧ fget fr 0 = .int .i64 a ∧ fget fr 1 = .int .i64 b ∧ fget fr 5 = .int .i64 (63 - (i : Int)))
    (fun e fr σ => (e = .ret ∧ fget fr 4 = .bool (decide (IntKind.u64.wrap a < IntKind.u64.wrap b))) ∨ (e = .ex 0 ∧ IntKind.u64.wrap a = IntKind.u64.wrap b)) ⟨by rw [Nat.sub_zero, u_top, u_top], by simp -implicitDefEqProofs (disch := omega) only [go_sem, ↓reduceIte], by simp -implicitDefEqProofs (disch := omega) only [go_sem, ↓reduceIte, reduceCtorEq], by simp -implicitDefEqProofs (disch := omega) only [go_sem, ↓reduceIte, reduceCtorEq, Nat.reduceEqDiff]; rfl⟩ (fun i hi fr σ hJ => ?_) (fun i hi fr σ hJ => ?_) (fun e fr σ hE => ?_)
  · obtain ⟨hq, f0, f1, f5⟩ := hJ
    obtain ⟨k, hk⟩ : ∃ k, k = 63 - i := ⟨_, rfl⟩
    have hk64 : k < 64 := by omega
    have e1 : 64 - i = k + 1 := by omega
    have e3 : 64 - (i + 1) = k := by omega
    have e4 : (63 : Int) - (i : Int) = ((k : Nat) : Int) := by omega
    rw [e1] at hq
    rw [e4] at f5
    have hk0 : (0 : Int) ≤ (k : Int) := by omega
    have e2 : IntKind.i64.wrap ((k : Int) - 1) = 63 - ((i + 1 : Nat) : Int) := by rw [IntKind.wrap_i64]; omega
    have hba := c_bit (P := P) (G := G) hT a hk64
    have hbb := c_bit (P := P) (G := G) hT b hk64
    rw [e3]
    by_cases hd : a / 2 ^ k % 2 = b / 2 ^ k % 2
    · have hs := below_same hk64 hq hd
      rw [hd] at hba
      refine W_round [(0, .int .i64 a), (1, .int .i64 b), (5, .int .i64 ((k : Nat) : Int))] ⟨f0, f1, f5, trivial⟩  1000 ?_
      simp -implicitDefEqProofs (disch := omega) only [go_sem, ↓reduceIte, reduceCtorEq, Nat.reduceEqDiff, decide_true, ge_iff_le, hk0]
      refine callPS hT t_proofmarkref01_bit hba rfl 1000 ?_
      simp -implicitDefEqProofs (disch := omega) only [go_sem, ↓reduceIte, reduceCtorEq, Nat.reduceEqDiff]
      refine callPS hT t_proofmarkref01_bit hbb rfl 1000 ?_
      simp -implicitDefEqProofs (disch := omega) only [go_sem, ↓reduceIte, reduceCtorEq, Nat.reduceEqDiff, bne_self_eq_false, bne_self_eq_false, e2]
      refine ⟨_, _, Shift.refl _ _ _ _, hs, ?_⟩
      simp -implicitDefEqProofs (disch := omega) only [go_sem, ↓reduceIte, reduceCtorEq, Nat.reduceEqDiff]
    · have hs : (b / 2 ^ k % 2 == 1) = decide (IntKind.u64.wrap a < IntKind.u64.wrap b) := by
        rw [Bool.eq_iff_iff]
        simpa using below_diff hk64 hq hd
      refine W_round [(0, .int .i64 a), (1, .int .i64 b), (5, .int .i64 ((k : Nat) : Int))] ⟨f0, f1, f5, trivial⟩  1000 ?_
      simp -implicitDefEqProofs (disch := omega) only [go_sem, ↓reduceIte, reduceCtorEq, Nat.reduceEqDiff, decide_true, ge_iff_le, hk0]
      refine callPS hT t_proofmarkref01_bit hba rfl 1000 ?_
      simp -implicitDefEqProofs (disch := omega) only [go_sem, ↓reduceIte, reduceCtorEq, Nat.reduceEqDiff]
      refine callPS hT t_proofmarkref01_bit hbb rfl 1000 ?_
      simp -implicitDefEqProofs (disch := omega) only [go_sem, ↓reduceIte, reduceCtorEq, Nat.reduceEqDiff, hd, false_implies, true_implies, and_true]
      refine callPS hT t_proofmarkref01_bit hbb rfl 1000 ?_
      simp -implicitDefEqProofs (disch := omega) only [go_sem, ↓reduceIte, reduceCtorEq, Nat.reduceEqDiff, hs]
  · obtain ⟨hq, f0, f1, f5⟩ := hJ
    have hki : ¬ (0 : Int) ≤ 63 - (i : Int) := by omega
    have hq' : IntKind.u64.wrap a = IntKind.u64.wrap b := by rw [hi] at hq; simpa using hq
    refine W_run 1000 ?_
    simp -implicitDefEqProofs (disch := omega) only [go_sem, ↓reduceIte, reduceCtorEq, Nat.reduceEqDiff, decide_false, ge_iff_le, f5, hki]
    exact hq'
  · rcases hE with ⟨rfl, f4⟩ | ⟨rfl, hq⟩
    · refine run_sem 1000 ?_
      simp -implicitDefEqProofs (disch := omega) only [go_sem, Nat.zero_le, f4]
    · refine run_sem 1000 ?_
      simp -implicitDefEqProofs (disch := omega) only [go_sem, ↓reduceIte, decide_false, Nat.zero_le, hq, Int.lt_irrefl, decide_false]
end Go.Proofs.YtfligilbnpcnaaaGreatDoor

/- The document's long division. -/
namespace Go.Proofs.YtfligilbnpcnaaaGreatDoor
open Go Go.Am
set_option maxRecDepth 100000
set_option maxHeartbeats 1000000
variable {P : Program} {G : Nat → Option V}
theorem c_divide (hT : TabOk P tab) (a b : Int) (hb : i64 b) (hb0 : b ≠ 0) : Pure P G n_proofmarkref01_divide [.int .i64 a, .int .i64 b] fun v => v = .tup [.int .i64 (IntKind.i64.wrap (IntKind.u64.wrap a / IntKind.u64.wrap b)), .int .i64 (IntKind.i64.wrap (IntKind.u64.wrap a % IntKind.u64.wrap b))] := by
  intro t
  have hB := wU_pos hb hb0
  have hBm := (wU_rg b).2
  have hA := wU_rg a
  refine C_keep 0 (Nat.zero_le _) (C_tab hT t_proofmarkref01_divide (by simp [proofmarkref01_divide]) (W_run 1000 ?_))
  simp -implicitDefEqProofs (disch := omega) only [go_sem, ↓reduceIte, reduceCtorEq, Nat.reduceEqDiff, Nat.zero_add, proofmarkref01_divide, zq1h_0, zq1h_1, zq1h_2, zq1h_3, zq1h_4, zq1h_5, zq1h_6, zq1h_7, zq1h_8, zq1h_9, zq1h_10, zq1h_11]
  refine sem_upto 64 (fun i fr σ => ∃ q r : Int, q = 2 ^ (64 - i) * (IntKind.u64.wrap a / 2 ^ (64 - i) / IntKind.u64.wrap b) ∧ r = IntKind.i64.wrap (IntKind.u64.wrap a / 2 ^ (64 - i) % IntKind.u64.wrap b) ∧ fget fr 0 = .int .i64 a ∧ fget fr 1 = .int .i64 b ∧ fget fr 6 = .int .u64 q ∧ fget fr 7 = .int .i64 r ∧ fget fr 8 = .int .i64 (63 - (i : Int)))
    (fun e fr σ => e = .ex 0 ∧ fget fr 6 = .int .u64 (IntKind.u64.wrap a / IntKind.u64.wrap b) ∧ fget fr 7 = .int .i64 (IntKind.i64.wrap (IntKind.u64.wrap a % IntKind.u64.wrap b))) ⟨0, 0, by rw [Nat.sub_zero, u_top]; simp, by rw [Nat.sub_zero, u_top]; simp; rfl, by simp -implicitDefEqProofs (disch := omega) only [go_sem, ↓reduceIte], by simp -implicitDefEqProofs (disch := omega) only [go_sem, ↓reduceIte, reduceCtorEq], by simp -implicitDefEqProofs (disch := omega) only [go_sem, ↓reduceIte, reduceCtorEq, Nat.reduceEqDiff], by simp -implicitDefEqProofs (disch := omega) only [go_sem, ↓reduceIte, reduceCtorEq, Nat.reduceEqDiff], by simp -implicitDefEqProofs (disch := omega) only [go_sem, ↓reduceIte, reduceCtorEq, Nat.reduceEqDiff]; rfl⟩ (fun i hi fr σ hJ => ?_) (fun i hi fr σ hJ => ?_) (fun e fr σ hE => ?_)
  · obtain ⟨q, r, hq, hr, f0, f1, f6, f7, f8⟩ := hJ
    obtain ⟨k, hk⟩ : ∃ k, k = 63 - i := ⟨_, rfl⟩
    have hk64 : k < 64 := by omega
    have e1 : 64 - i = k + 1 := by omega
    have e3 : 64 - (i + 1) = k := by omega
    have e4 : (63 : Int) - (i : Int) = ((k : Nat) : Int) := by omega
    rw [e1] at hq hr
    rw [e4] at f8
    rw [e3]
    have hk0 : (0 : Int) ≤ (k : Int) := by omega
    have e2 : IntKind.i64.wrap ((k : Int) - 1) = 63 - ((i + 1 : Nat) : Int) := by rw [IntKind.wrap_i64]; omega
    have hba := c_bit (P := P) (G := G) hT a hk64
    have hbt := c_bit (P := P) (G := G) hT r (show 63 < 64 by omega)
    have hud := u_div a k hk64
    have hp := pow_pos2 k
    have hx := bit_rg a k
    have hst := div_step (m := IntKind.u64.wrap a / 2 ^ (k + 1)) hB hx
    have hdv := Int.mul_ediv_self_le (x := IntKind.u64.wrap a) (k := 2 ^ k) (by omega)
    rw [← hud] at hst
    have hlt := Int.emod_lt_of_pos (IntKind.u64.wrap a / 2 ^ (k + 1)) hB
    have hnn := Int.emod_nonneg (IntKind.u64.wrap a / 2 ^ (k + 1)) (show IntKind.u64.wrap b ≠ 0 by omega)
    have hQn : 0 ≤ IntKind.u64.wrap a / 2 ^ (k + 1) / IntKind.u64.wrap b := Int.ediv_nonneg (Int.ediv_nonneg hA.1 (Int.le_of_lt (pow_pos2 _))) (by omega)
    have hMn : 0 ≤ IntKind.u64.wrap a / 2 ^ k := Int.ediv_nonneg hA.1 (by omega)
    have hQl : IntKind.u64.wrap a / 2 ^ k / IntKind.u64.wrap b ≤ IntKind.u64.wrap a / 2 ^ k := Int.ediv_le_self _ hMn
    have hQp := Int.mul_le_mul_of_nonneg_left hQl (show (0 : Int) ≤ 2 ^ k by omega)
    have htop : r / 2 ^ 63 % 2 = IntKind.u64.wrap r / 2 ^ 63 % 2 := (ubit (by omega)).symm
    have hur : IntKind.u64.wrap r = IntKind.u64.wrap a / 2 ^ (k + 1) % IntKind.u64.wrap b := by rw [hr, wU_wI, Int.emod_eq_of_lt hnn (by omega)]
    rw [hur] at htop
    generalize IntKind.u64.wrap a / 2 ^ (k + 1) % IntKind.u64.wrap b = R at *
    generalize IntKind.u64.wrap a / 2 ^ (k + 1) / IntKind.u64.wrap b = Q at *
    generalize a / 2 ^ k % 2 = x at *
    generalize IntKind.u64.wrap a / 2 ^ k = m at *
    have hsh : IntKind.u64.wrap (IntKind.u64.wrap r * 2 ^ min 1 64) = IntKind.u64.wrap (2 * R) := by rw [hur]; show IntKind.u64.wrap (R * 2) = _; rw [Int.mul_comm]
    have hor : orI .u64 (IntKind.u64.wrap (2 * R)) x = IntKind.u64.wrap (2 * R) + x := or_low1 (wU_rg _).1 (wU_rg _).2 (by rw [wrapU_eq]; omega) hx
    have hr2 : IntKind.i64.wrap (IntKind.u64.wrap (2 * R) + x) = IntKind.i64.wrap (2 * R + x) := wI_cg (cg.add (cg_wU _) (cg.refl _))
    have hbl := c_below (P := P) (G := G) hT (IntKind.i64.wrap (2 * R + x)) b
    rw [wU_wI] at hbl
    have hng := c_neg (P := P) (G := G) hT b
    have had := c_add (P := P) (G := G) hT (IntKind.i64.wrap (2 * R + x)) (IntKind.i64.wrap (-b))
    have hs : IntKind.i64.wrap (IntKind.i64.wrap (2 * R + x) + IntKind.i64.wrap (-b)) = IntKind.i64.wrap (2 * R + x - IntKind.u64.wrap b) := wI_cg ((cg.add (cg_wI _) ((cg_wI _).trans (cg.neg (cg_wU b).symm))).trans (by rw [← Int.sub_eq_add_neg]; exact cg.refl _))
    rw [hs] at had
    have w5 : min k 64 = k := by omega
    have h1k : IntKind.u64.wrap (1 * 2 ^ k) = 2 ^ k := by rw [Int.one_mul]; exact wrapU_id (by omega) (by have := pow_le64 (k := k + 1) (by omega); rw [Int.pow_succ] at this; omega)
    have hqstay : q = 2 ^ k * (2 * Q) := by rw [hq, Int.pow_succ, Int.mul_assoc]
    generalize IntKind.u64.wrap b = B at *
    by_cases hW : B ≤ 2 * R + x
    · obtain ⟨s1, s2⟩ := hst.1 hW
      have hho : orI .u64 q (2 ^ k) = 2 ^ k * (2 * Q + 1) := by
        rw [hq]
        refine or_high hk64 hQn ?_
        rw [s1, Int.mul_add, Int.mul_one] at hQp
        rw [Int.pow_succ, Int.mul_assoc]
        omega
      rw [← s2] at had
      rw [← s1] at hho
      by_cases htp : r / 2 ^ 63 % 2 = 1
      · rw [htp] at hbt
        refine W_round [(0, .int .i64 a), (1, .int .i64 b), (6, .int .u64 q), (7, .int .i64 r), (8, .int .i64 ((k : Nat) : Int))] ⟨f0, f1, f6, f7, f8, trivial⟩  1000 ?_
        simp -implicitDefEqProofs (disch := omega) only [go_sem, ↓reduceIte, reduceCtorEq, Nat.reduceEqDiff, decide_true, ge_iff_le, hk0]
        refine callPS hT t_proofmarkref01_bit hbt rfl 1000 ?_
        simp -implicitDefEqProofs (disch := omega) only [go_sem, ↓reduceIte, reduceCtorEq, Nat.reduceEqDiff, Int.reduceToNat, Int.reduceLE, hsh]
        refine callPS hT t_proofmarkref01_bit hba rfl 1000 ?_
        simp -implicitDefEqProofs (disch := omega) only [go_sem, ↓reduceIte, reduceCtorEq, Nat.reduceEqDiff, beq_self_eq_true, hor, hr2]
        refine callPS hT t_proofmarkref01_neg hng rfl 1000 ?_
        simp -implicitDefEqProofs (disch := omega) only [go_sem, ↓reduceIte, reduceCtorEq, Nat.reduceEqDiff]
        refine callPS hT t_proofmarkref01_add had rfl 1000 ?_
        simp -implicitDefEqProofs (disch := omega) only [go_sem, ↓reduceIte, reduceCtorEq, Nat.reduceEqDiff, hk0, Int.toNat_natCast, w5, h1k, hho, e2]
        refine ⟨_, _, Shift.refl _ _ _ _, _, _, rfl, rfl, ?_⟩
        simp -implicitDefEqProofs (disch := omega) only [go_sem, ↓reduceIte, reduceCtorEq, Nat.reduceEqDiff]
      · have htp0 : ¬ r / 2 ^ 63 % 2 = 1 := htp
        have hsm : (2 * R + x) % 18446744073709551616 = 2 * R + x := by
          rw [htop, show (2 : Int) ^ 63 = 9223372036854775808 from rfl] at htp
          exact Int.emod_eq_of_lt (by omega) (by omega)
        have hnl : decide (2 * R + x < B) = false := by simpa using hW
        rw [hsm, hnl] at hbl
        refine W_round [(0, .int .i64 a), (1, .int .i64 b), (6, .int .u64 q), (7, .int .i64 r), (8, .int .i64 ((k : Nat) : Int))] ⟨f0, f1, f6, f7, f8, trivial⟩  1000 ?_
        simp -implicitDefEqProofs (disch := omega) only [go_sem, ↓reduceIte, reduceCtorEq, Nat.reduceEqDiff, decide_true, ge_iff_le, hk0]
        refine callPS hT t_proofmarkref01_bit hbt rfl 1000 ?_
        simp -implicitDefEqProofs (disch := omega) only [go_sem, ↓reduceIte, reduceCtorEq, Nat.reduceEqDiff, Int.reduceToNat, Int.reduceLE, hsh]
        refine callPS hT t_proofmarkref01_bit hba rfl 1000 ?_
        simp -implicitDefEqProofs (disch := omega) only [go_sem, ↓reduceIte, reduceCtorEq, Nat.reduceAdd, Nat.reduceEqDiff, false_implies, true_implies, true_and, not_false_eq_true, hor, hr2, htp0]
        refine callPS hT t_proofmarkref01_below hbl rfl 1000 ?_
        simp -implicitDefEqProofs (disch := omega) only [go_sem, ↓reduceIte, reduceCtorEq, Nat.reduceAdd, Nat.reduceEqDiff, Bool.not_false]
        refine callPS hT t_proofmarkref01_neg hng rfl 1000 ?_
        simp -implicitDefEqProofs (disch := omega) only [go_sem, ↓reduceIte, reduceCtorEq, Nat.reduceEqDiff]
        refine callPS hT t_proofmarkref01_add had rfl 1000 ?_
        simp -implicitDefEqProofs (disch := omega) only [go_sem, ↓reduceIte, reduceCtorEq, Nat.reduceEqDiff, hk0, Int.toNat_natCast, w5, h1k, hho, e2]
        refine ⟨_, _, Shift.refl _ _ _ _, _, _, rfl, rfl, ?_⟩
        simp -implicitDefEqProofs (disch := omega) only [go_sem, ↓reduceIte, reduceCtorEq, Nat.reduceEqDiff]
    · obtain ⟨s1, s2⟩ := hst.2 (by omega)
      have htp0 : ¬ r / 2 ^ 63 % 2 = 1 := by
        intro h
        rw [htop, show (2 : Int) ^ 63 = 9223372036854775808 from rfl] at h
        omega
      have hsm : (2 * R + x) % 18446744073709551616 = 2 * R + x := Int.emod_eq_of_lt (by omega) (by omega)
      have hnl : decide (2 * R + x < B) = true := by simpa using hW
      rw [hsm, hnl] at hbl
      rw [← s1] at hqstay
      rw [← s2] at hr2
      rw [← s2] at hbl
      refine W_round [(0, .int .i64 a), (1, .int .i64 b), (6, .int .u64 q), (7, .int .i64 r), (8, .int .i64 ((k : Nat) : Int))] ⟨f0, f1, f6, f7, f8, trivial⟩  1000 ?_
      simp -implicitDefEqProofs (disch := omega) only [go_sem, ↓reduceIte, reduceCtorEq, Nat.reduceEqDiff, decide_true, ge_iff_le, hk0]
      refine callPS hT t_proofmarkref01_bit hbt rfl 1000 ?_
      simp -implicitDefEqProofs (disch := omega) only [go_sem, ↓reduceIte, reduceCtorEq, Nat.reduceEqDiff, Int.reduceToNat, Int.reduceLE, hsh]
      refine callPS hT t_proofmarkref01_bit hba rfl 1000 ?_
      simp -implicitDefEqProofs (disch := omega) only [go_sem, ↓reduceIte, reduceCtorEq, Nat.reduceAdd, Nat.reduceEqDiff, false_implies, true_implies, true_and, not_false_eq_true, hor, hr2, htp0]
      refine callPS hT t_proofmarkref01_below hbl rfl 1000 ?_
      simp -implicitDefEqProofs (disch := omega) only [go_sem, ↓reduceIte, reduceCtorEq, Nat.reduceAdd, Nat.reduceEqDiff, Bool.not_true, e2]
      refine ⟨_, _, Shift.refl _ _ _ _, _, _, hqstay, rfl, ?_⟩
      simp -implicitDefEqProofs (disch := omega) only [go_sem, ↓reduceIte, reduceCtorEq, Nat.reduceEqDiff]
  · obtain ⟨q, r, hq, hr, f0, f1, f6, f7, f8⟩ := hJ
    have hki : ¬ (0 : Int) ≤ 63 - (i : Int) := by omega
    have hq' : q = IntKind.u64.wrap a / IntKind.u64.wrap b := by rw [hq, hi]; simp
    have hr' : r = IntKind.i64.wrap (IntKind.u64.wrap a % IntKind.u64.wrap b) := by rw [hr, hi]; simp
    refine W_run 1000 ?_
    simp -implicitDefEqProofs (disch := omega) only [go_sem, ↓reduceIte, Nat.reduceEqDiff, decide_false, ge_iff_le, true_and, f6, f7, f8, hki]
    rw [hq', hr']
    exact ⟨rfl, rfl⟩
  · obtain ⟨rfl, f6, f7⟩ := hE
    refine run_sem 1000 ?_
    simp -implicitDefEqProofs (disch := omega) only [go_sem, ↓reduceIte, Nat.reduceEqDiff, Nat.zero_le, and_true, f6, f7]
end Go.Proofs.YtfligilbnpcnaaaGreatDoor

/- The document's shifts and quotients. -/
namespace Go.Proofs.YtfligilbnpcnaaaGreatDoor
open Go Go.Am
set_option maxRecDepth 100000
set_option maxHeartbeats 1000000
variable {P : Program} {G : Nat → Option V}
theorem c_moved (hT : TabOk P tab) (a : Int) (up : Bool) (fill : Int) (m : Nat) (hm : m < 64) (T : Int) (hbit : ∀ k, k < 64 → T / 2 ^ k % 2 = if up = true then (if k < m then 0 else a / 2 ^ (k - m) % 2) else if k + m < 64 then a / 2 ^ (k + m) % 2 else fill) : Pure P G n_proofmarkref01_moved [.int .i64 a, .bool up, .int .u64 fill, .int .i64 ((m : Nat) : Int)] fun v => v = .int .i64 (IntKind.i64.wrap T) := by
  intro t
  refine C_keep 0 (Nat.zero_le _) (C_tab hT t_proofmarkref01_moved (by simp [proofmarkref01_moved]) (W_run 1000 ?_))
  simp -implicitDefEqProofs (disch := omega) only [go_sem, ↓reduceIte, reduceCtorEq, Nat.reduceAdd, Nat.reduceEqDiff, Nat.zero_add, proofmarkref01_moved, zq13_0, zq13_1, zq13_2, zq13_3, zq13_4, zq13_5, zq13_6, zq13_7, zq13_8, zq13_9, zq13_10, zq13_11, zq13_12, zq13_13, zq13_14]
  refine sem_upto 64 (fun k fr σ => ∃ out : Int, out = T % 2 ^ k ∧ fget fr 0 = .int .i64 a ∧ fget fr 1 = .bool up ∧ fget fr 2 = .int .u64 fill ∧ fget fr 3 = .int .i64 ((m : Nat) : Int) ∧ fget fr 9 = .int .u64 out ∧ fget fr 10 = .int .i64 ((k : Nat) : Int))
    (fun e fr σ => e = .ex 0 ∧ fget fr 9 = .int .u64 (T % 2 ^ 64)) ⟨0, by simp [Int.emod_one], by simp -implicitDefEqProofs (disch := omega) only [go_sem, ↓reduceIte], by simp -implicitDefEqProofs (disch := omega) only [go_sem, ↓reduceIte, reduceCtorEq], by simp -implicitDefEqProofs (disch := omega) only [go_sem, ↓reduceIte, reduceCtorEq, Nat.reduceEqDiff], by simp -implicitDefEqProofs (disch := omega) only [go_sem, ↓reduceIte, reduceCtorEq, Nat.reduceEqDiff], by simp -implicitDefEqProofs (disch := omega) only [go_sem, ↓reduceIte, reduceCtorEq, Nat.reduceEqDiff], by simp -implicitDefEqProofs (disch := omega) only [go_sem, ↓reduceIte, reduceCtorEq, Nat.reduceEqDiff]; rfl⟩ (fun k hk fr σ hJ => ?_) (fun k hk fr σ hJ => ?_) (fun e fr σ hE => ?_)
  · obtain ⟨out, ho, f0, f1, f2, f3, f9, f10⟩ := hJ
    have hki : (k : Int) < 64 := by omega
    have hk0 : (0 : Int) ≤ (k : Int) := by omega
    have e2 : IntKind.i64.wrap ((k : Int) + 1) = ((k + 1 : Nat) : Int) := w_nx hk (by omega)
    have w5 : min k 64 = k := by omega
    have e3 : IntKind.i64.wrap ((k : Int) + (m : Int)) = ((k + m : Nat) : Int) := by rw [IntKind.wrap_i64]; omega
    have hb := hbit k hk
    have h01 := bit_rg T k
    have htk := take_bit (T := T) hk rfl
    have hwb := wrapU_bit hk h01
    rw [← ho] at htk
    have hf0 : (0 : Int) ≤ ((k + m : Nat) : Int) := by omega
    cases up with
    | true =>
      rw [if_pos rfl] at hb
      by_cases hlt : k < m
      · rw [if_pos hlt] at hb
        rw [hb] at htk hwb
        have e4 : IntKind.i64.wrap ((k : Int) - (m : Int)) = (k : Int) - (m : Int) := by rw [IntKind.wrap_i64]; omega
        have hn : ¬ (0 : Int) ≤ (k : Int) - (m : Int) := by omega
        have hn2 : (k : Int) - (m : Int) < 0 := by omega
        refine W_round [(0, .int .i64 a), (1, .bool true), (2, .int .u64 fill), (3, .int .i64 ((m : Nat) : Int)), (9, .int .u64 out), (10, .int .i64 ((k : Nat) : Int))] ⟨f0, f1, f2, f3, f9, f10, trivial⟩ 1000 ?_
        simp -implicitDefEqProofs (disch := omega) only [go_sem, ↓reduceIte, reduceCtorEq, Nat.reduceAdd, Nat.reduceEqDiff, decide_true, decide_false, ge_iff_le, hki, e3, e4, hn, hn2, w5, hk0, Int.toNat_natCast, hwb, htk, e2]
        refine ⟨_, _, Shift.refl _ _ _ _, _, rfl, ?_⟩
        simp -implicitDefEqProofs (disch := omega) only [go_sem, ↓reduceIte, reduceCtorEq, Nat.reduceEqDiff]
      · rw [if_neg hlt] at hb
        have e4 : IntKind.i64.wrap ((k : Int) - (m : Int)) = ((k - m : Nat) : Int) := by rw [IntKind.wrap_i64]; omega
        have hn : (0 : Int) ≤ ((k - m : Nat) : Int) := by omega
        have hn2 : ¬ ((k - m : Nat) : Int) < 0 := by omega
        have hn3 : ((k - m : Nat) : Int) < 64 := by omega
        have hbb := c_bit (P := P) (G := G) hT a (show k - m < 64 by omega)
        rw [← hb] at hbb
        generalize k - m = j at *
        refine W_round [(0, .int .i64 a), (1, .bool true), (2, .int .u64 fill), (3, .int .i64 ((m : Nat) : Int)), (9, .int .u64 out), (10, .int .i64 ((k : Nat) : Int))] ⟨f0, f1, f2, f3, f9, f10, trivial⟩ 1000 ?_
        simp -implicitDefEqProofs (disch := omega) only [go_sem, ↓reduceIte, reduceCtorEq, Nat.reduceAdd, Nat.reduceEqDiff, decide_true, ge_iff_le, hki, e3, e4, hn, hn3]
        refine callPS hT t_proofmarkref01_bit hbb rfl 1000 ?_
        simp -implicitDefEqProofs (disch := omega) only [go_sem, ↓reduceIte, reduceCtorEq, Nat.reduceAdd, Nat.reduceEqDiff, decide_false, hn2, w5, hk0, Int.toNat_natCast, hwb, htk, e2]
        refine ⟨_, _, Shift.refl _ _ _ _, _, rfl, ?_⟩
        simp -implicitDefEqProofs (disch := omega) only [go_sem, ↓reduceIte, reduceCtorEq, Nat.reduceEqDiff]
    | false =>
      rw [if_neg (by simp)] at hb
      by_cases hlt : k + m < 64
      · rw [if_pos hlt] at hb
        have hn3 : ((k + m : Nat) : Int) < 64 := by omega
        have hbb := c_bit (P := P) (G := G) hT a hlt
        rw [← hb] at hbb
        generalize k + m = j at *
        refine W_round [(0, .int .i64 a), (1, .bool false), (2, .int .u64 fill), (3, .int .i64 ((m : Nat) : Int)), (9, .int .u64 out), (10, .int .i64 ((k : Nat) : Int))] ⟨f0, f1, f2, f3, f9, f10, trivial⟩ 1000 ?_
        simp -implicitDefEqProofs (disch := omega) only [go_sem, ↓reduceIte, reduceCtorEq, Nat.reduceAdd, Nat.reduceEqDiff, decide_true, ge_iff_le, hki, e3, hf0, hn3]
        refine callPS hT t_proofmarkref01_bit hbb rfl 1000 ?_
        simp -implicitDefEqProofs (disch := omega) only [go_sem, ↓reduceIte, reduceCtorEq, Nat.reduceEqDiff, w5, hk0, Int.toNat_natCast, hwb, htk, e2]
        refine ⟨_, _, Shift.refl _ _ _ _, _, rfl, ?_⟩
        simp -implicitDefEqProofs (disch := omega) only [go_sem, ↓reduceIte, reduceCtorEq, Nat.reduceEqDiff]
      · rw [if_neg hlt] at hb
        have hn3 : ¬ ((k + m : Nat) : Int) < 64 := by omega
        rw [hb] at htk hwb
        generalize k + m = j at *
        refine W_round [(0, .int .i64 a), (1, .bool false), (2, .int .u64 fill), (3, .int .i64 ((m : Nat) : Int)), (9, .int .u64 out), (10, .int .i64 ((k : Nat) : Int))] ⟨f0, f1, f2, f3, f9, f10, trivial⟩ 1000 ?_
        simp -implicitDefEqProofs (disch := omega) only [go_sem, ↓reduceIte, reduceCtorEq, Nat.reduceAdd, Nat.reduceEqDiff, decide_true, decide_false, ge_iff_le, hki, e3, hf0, hn3, w5, hk0, Int.toNat_natCast, hwb, htk, e2]
        refine ⟨_, _, Shift.refl _ _ _ _, _, rfl, ?_⟩
        simp -implicitDefEqProofs (disch := omega) only [go_sem, ↓reduceIte, reduceCtorEq, Nat.reduceEqDiff]
  · obtain ⟨out, ho, f0, f1, f2, f3, f9, f10⟩ := hJ
    have hki : ¬ (k : Int) < 64 := by omega
    rw [hk] at ho
    refine W_round [(0, .int .i64 a), (1, .bool up), (2, .int .u64 fill), (3, .int .i64 ((m : Nat) : Int)), (9, .int .u64 out), (10, .int .i64 ((k : Nat) : Int))] ⟨f0, f1, f2, f3, f9, f10, trivial⟩  1000 ?_
    simp -implicitDefEqProofs (disch := omega) only [go_sem, ↓reduceIte, reduceCtorEq, Nat.reduceEqDiff, decide_false, true_and, hki]
    rw [ho]
  · obtain ⟨rfl, f9⟩ := hE
    refine run_sem 1000 ?_
    have e : IntKind.i64.wrap (T % 2 ^ 64) = IntKind.i64.wrap T := wI_cg (by show T % 18446744073709551616 % 18446744073709551616 = _; omega)
    simp -implicitDefEqProofs (disch := omega) only [go_sem, ↓reduceIte, Nat.reduceEqDiff, Nat.zero_le, and_true, f9, e]
theorem c_signed (hT : TabOk P tab) (a b : Int) (ha : i64 a) (hb : i64 b) (hb0 : b ≠ 0) : Pure P G n_proofmarkref01_signed [.int .i64 a, .int .i64 b] fun v => v = .tup [.int .i64 (IntKind.i64.wrap (a.tdiv b)), .int .i64 (IntKind.i64.wrap (a.tmod b))] := by
  intro t
  refine C_keep 0 (Nat.zero_le _) (C_tab hT t_proofmarkref01_signed (by simp [proofmarkref01_signed]) (W_run 1000 ?_))
  obtain ⟨hy1, hy2, hq, hr⟩ := signed_q ha hb hb0 _ _ rfl rfl
  have hdiv := fun x => c_divide (P := P) (G := G) hT x _ hy1 hy2
  have hna := c_neg (P := P) (G := G) hT a
  have hnb := c_neg (P := P) (G := G) hT b
  have hnx := fun x => c_neg (P := P) (G := G) hT x
  by_cases h1 : a < 0 <;> by_cases h2 : b < 0
  · simp only [h1, h2, if_true, iff_self, not_true_eq_false, if_false] at hq hr hdiv
    rw [← hq, ← hr]
    simp -implicitDefEqProofs (disch := omega) only [go_sem, ↓reduceIte, reduceCtorEq, Nat.reduceEqDiff, Nat.zero_add, decide_true, proofmarkref01_signed, zq1i_0, zq1i_1, zq1i_2, zq1i_3, zq1i_4, zq1i_5, zq1i_6, zq1i_7, zq1i_8, zq1i_9, zq1i_10, zq1i_11, h1]
    refine callPS hT t_proofmarkref01_neg hna rfl 1000 ?_
    simp -implicitDefEqProofs (disch := omega) only [go_sem, ↓reduceIte, reduceCtorEq, Nat.reduceEqDiff, decide_true, h2]
    refine callPS hT t_proofmarkref01_neg hnb rfl 1000 ?_
    simp -implicitDefEqProofs (disch := omega) only [go_sem, ↓reduceIte, reduceCtorEq, Nat.reduceEqDiff]
    refine callPS hT t_proofmarkref01_divide (hdiv _) rfl 1000 ?_
    simp -implicitDefEqProofs (disch := omega) only [go_sem, ↓reduceIte, reduceCtorEq, Nat.reduceAdd, Nat.reduceEqDiff, Nat.reduceLT, Nat.zero_add, decide_true, bne_self_eq_false, h1, h2, decide_true, bne_self_eq_false]
    refine callPS hT t_proofmarkref01_neg (hnx _) rfl 1000 ?_
    simp -implicitDefEqProofs (disch := omega) only [go_sem, ↓reduceIte, reduceCtorEq, Nat.reduceEqDiff, Nat.le_refl, and_true]
  · simp only [h1, h2, if_true, iff_false, not_true_eq_false, not_false_eq_true, if_false] at hq hr hdiv
    rw [← hq, ← hr]
    simp -implicitDefEqProofs (disch := omega) only [go_sem, ↓reduceIte, reduceCtorEq, Nat.reduceEqDiff, Nat.zero_add, decide_true, proofmarkref01_signed, zq1i_0, zq1i_1, zq1i_2, zq1i_3, zq1i_4, zq1i_5, zq1i_6, zq1i_7, zq1i_8, zq1i_9, zq1i_10, zq1i_11, h1]
    refine callPS hT t_proofmarkref01_neg hna rfl 1000 ?_
    simp -implicitDefEqProofs (disch := omega) only [go_sem, ↓reduceIte, reduceCtorEq, Nat.reduceEqDiff, decide_false, h2]
    refine callPS hT t_proofmarkref01_divide (hdiv _) rfl 1000 ?_
    simp -implicitDefEqProofs (disch := omega) only [go_sem, ↓reduceIte, reduceCtorEq, Nat.reduceAdd, Nat.reduceEqDiff, Nat.reduceLT, Nat.zero_add, decide_true, decide_false, false_implies, true_implies, and_true, not_false_eq_true, h1, h2, decide_true, decide_false]
    refine callPS hT t_proofmarkref01_neg (hnx _) rfl 1000 ?_
    simp -implicitDefEqProofs (disch := omega) only [go_sem, ↓reduceIte, reduceCtorEq, Nat.reduceEqDiff, decide_true, h1]
    refine callPS hT t_proofmarkref01_neg (hnx _) rfl 1000 ?_
    simp -implicitDefEqProofs (disch := omega) only [go_sem, ↓reduceIte, reduceCtorEq, Nat.reduceEqDiff, Nat.le_refl, and_true]
  · simp only [h1, h2, if_true, iff_true, not_false_eq_true, if_false] at hq hr hdiv
    rw [← hq, ← hr]
    simp -implicitDefEqProofs (disch := omega) only [go_sem, ↓reduceIte, reduceCtorEq, Nat.reduceEqDiff, Nat.zero_add, decide_true, decide_false, proofmarkref01_signed, zq1i_0, zq1i_1, zq1i_2, zq1i_3, zq1i_4, zq1i_5, zq1i_6, zq1i_7, zq1i_8, zq1i_9, zq1i_10, zq1i_11, h1, h2]
    refine callPS hT t_proofmarkref01_neg hnb rfl 1000 ?_
    simp -implicitDefEqProofs (disch := omega) only [go_sem, ↓reduceIte, reduceCtorEq, Nat.reduceEqDiff]
    refine callPS hT t_proofmarkref01_divide (hdiv _) rfl 1000 ?_
    simp -implicitDefEqProofs (disch := omega) only [go_sem, ↓reduceIte, reduceCtorEq, Nat.reduceAdd, Nat.reduceEqDiff, Nat.reduceLT, Nat.zero_add, decide_true, decide_false, Nat.le_refl, false_implies, true_implies, true_and, and_true, not_false_eq_true, h1, h2, decide_true, decide_false]
    refine callPS hT t_proofmarkref01_neg (hnx _) rfl 1000 ?_
    simp -implicitDefEqProofs (disch := omega) only [go_sem, ↓reduceIte, reduceCtorEq, Nat.reduceEqDiff, decide_false, Nat.le_refl, and_true, h1]
  · simp only [h1, h2, iff_self, not_true_eq_false, if_false] at hq hr hdiv
    rw [← hq, ← hr]
    simp -implicitDefEqProofs (disch := omega) only [go_sem, ↓reduceIte, reduceCtorEq, Nat.reduceEqDiff, Nat.zero_add, decide_false, proofmarkref01_signed, zq1i_0, zq1i_1, zq1i_2, zq1i_3, zq1i_4, zq1i_5, zq1i_6, zq1i_7, zq1i_8, zq1i_9, zq1i_10, zq1i_11, h1, h2]
    refine callPS hT t_proofmarkref01_divide (hdiv _) rfl 1000 ?_
    simp -implicitDefEqProofs (disch := omega) only [go_sem, ↓reduceIte, reduceCtorEq, Nat.reduceAdd, Nat.reduceEqDiff, Nat.reduceLT, Nat.zero_add, decide_false, Nat.le_refl, bne_self_eq_false, and_true, h1, h2, decide_false, bne_self_eq_false]
end Go.Proofs.YtfligilbnpcnaaaGreatDoor

