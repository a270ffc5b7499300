/- The document's words, bit by bit. -/
import Derived.Test.YtfligilbnpcnaaaGreatDoorWo3
import Derived.Test.YtfligilbnpcnaaaGreatDoorBa
namespace Go.Proofs.YtfligilbnpcnaaaGreatDoor
open Go Go.Am
set_option maxRecDepth 100000
set_option maxHeartbeats 1000000
variable {P : Program} {G : Nat → Option V}
theorem c_bit (hT : TabOk P tab) (a : Int) {k : Nat} (hk : k < 64) : Pure P G n_proofmarkref01_bit [.int .i64 a, .int .i64 (k : Int)] fun v => v = .int .u64 ((a / 2 ^ k) % 2) := by
  intro t
  refine C_keep 0 (Nat.zero_le _) (C_tab hT t_proofmarkref01_bit (by simp [proofmarkref01_bit]) (W_run 1000 ?_))
  have h0 : (0 : Int) ≤ (k : Int) := by omega
  have e := bit_eq (a := a) hk
  simp -implicitDefEqProofs (disch := omega) only [go_sem, ↓reduceIte, reduceCtorEq, Nat.reduceEqDiff, Nat.zero_add, Nat.le_refl, proofmarkref01_bit, proofmarkref01_bit_r0, proofmarkref01_bit_r1, h0, Int.toNat_natCast, e]
theorem c_add (hT : TabOk P tab) (a b : Int) : Pure P G n_proofmarkref01_add [.int .i64 a, .int .i64 b] fun v => v = .int .i64 (IntKind.i64.wrap (a + b)) := by
  intro t
  refine C_keep 0 (Nat.zero_le _) (C_tab hT t_proofmarkref01_add (by simp [proofmarkref01_add]) (W_run 1000 ?_))
  simp -implicitDefEqProofs (disch := omega) only [go_sem, ↓reduceIte, reduceCtorEq, Nat.reduceEqDiff, Nat.zero_add, proofmarkref01_add, proofmarkref01_add_r0, proofmarkref01_add_r1, proofmarkref01_add_r2, proofmarkref01_add_r3, proofmarkref01_add_r4, proofmarkref01_add_r5, proofmarkref01_add_r6, proofmarkref01_add_r7, proofmarkref01_add_r8]
  refine sem_upto 64 (fun k fr σ => ∃ out car : Int, 0 ≤ out ∧ out < 2 ^ k ∧ 0 ≤ car ∧ car ≤ 1 ∧ out + 2 ^ k * car = a % 2 ^ k + b % 2 ^ k ∧ fget fr 0 = .int .i64 a ∧ fget fr 1 = .int .i64 b ∧ fget fr 5 = .int .u64 out ∧ fget fr 6 = .int .u64 car ∧ fget fr 7 = .int .i64 ((k : Nat) : Int))
    (fun e fr σ => e = .ex 0 ∧ ∃ out car : Int, 0 ≤ out ∧ out < 2 ^ 64 ∧ 0 ≤ car ∧ car ≤ 1 ∧ out + 2 ^ 64 * car = a % 2 ^ 64 + b % 2 ^ 64 ∧ fget fr 5 = .int .u64 out) ⟨0, 0, by omega, by decide, by omega, by omega, by simp, by simp -implicitDefEqProofs (disch := omega) only [go_sem, ↓reduceIte], by simp -implicitDefEqProofs (disch := omega) only [go_sem, ↓reduceIte, reduceCtorEq], by simp -implicitDefEqProofs (disch := omega) only [go_sem, ↓reduceIte, reduceCtorEq, Nat.reduceEqDiff], by simp -implicitDefEqProofs (disch := omega) only [go_sem, ↓reduceIte, reduceCtorEq, Nat.reduceEqDiff], by simp -implicitDefEqProofs (disch := omega) only [go_sem, ↓reduceIte, reduceCtorEq, Nat.reduceEqDiff]; rfl⟩ (fun k hk fr σ hJ => ?_) (fun k hk fr σ hJ => ?_) (fun e fr σ hE => ?_)
  · obtain ⟨out, car, h1, h2, h3, h4, h5, f0, f1, f5, f6, f7⟩ := hJ
    have hki : (k : Int) < 64 := by omega
    have hk0 : (0 : Int) ≤ (k : Int) := by omega
    have e2 : IntKind.i64.wrap ((k : Int) + 1) = ((k + 1 : Nat) : Int) := w_nx hk (by omega)
    have hba := c_bit (P := P) (G := G) hT a hk
    have hbb := c_bit (P := P) (G := G) hT b hk
    have ha := bit_rg a k
    have hb := bit_rg b k
    have hst := add_step h1 h2 h3 h4 h5
    generalize a / 2 ^ k % 2 = x at *
    generalize b / 2 ^ k % 2 = y at *
    have w1 : IntKind.u64.wrap (x + y) = x + y := wrapU_id (by omega) (by omega)
    have w2 : IntKind.u64.wrap (x + y + car) = x + y + car := wrapU_id (by omega) (by omega)
    have w3 := and_one (x + y + car)
    have hz := or_bit (x := (x + y + car) % 2) hk h1 h2 (by omega)
    have hp := pow_pos2 k
    have hp64 := pow_le64 (k := k + 1) (by omega)
    rw [Int.pow_succ] at hp64
    have w4 : IntKind.u64.wrap ((x + y + car) % 2 * 2 ^ k) = (x + y + car) % 2 * 2 ^ k := by
      rcases (show (x + y + car) % 2 = 0 ∨ (x + y + car) % 2 = 1 by omega) with h | h <;> rw [h] <;> exact wrapU_id (by omega) (by omega)
    have w5 : min k 64 = k := by omega
    have w6 : (x + y + car).fdiv (2 ^ min 1 64) = (x + y + car) / 2 := Int.fdiv_eq_ediv_of_nonneg _ (by decide)
    refine W_round [(0, .int .i64 a), (1, .int .i64 b), (5, .int .u64 out), (6, .int .u64 car), (7, .int .i64 ((k : Nat) : Int))] ⟨f0, f1, f5, f6, f7, trivial⟩  1000 ?_
    simp -implicitDefEqProofs (disch := omega) only [go_sem, ↓reduceIte, reduceCtorEq, Nat.reduceEqDiff, decide_true, hki]
    refine callPS hT t_proofmarkref01_bit hba rfl 1000 ?_
    simp -implicitDefEqProofs (disch := omega) only [go_sem, ↓reduceIte, reduceCtorEq, Nat.reduceEqDiff]
    refine callPS hT t_proofmarkref01_bit hbb rfl 1000 ?_
    simp -implicitDefEqProofs (disch := omega) only [go_sem, ↓reduceIte, reduceCtorEq, Nat.reduceEqDiff, Int.reduceToNat, Int.reduceLE, e2, w1, w2, w3, w5, hk0, Int.toNat_natCast]
    simp -implicitDefEqProofs (disch := omega) only [go_sem, w4, w6, hz]
    refine ⟨_, _, Shift.refl _ _ _ _, _, _, hst.1, hst.2.1, hst.2.2.1, hst.2.2.2.1, hst.2.2.2.2, ?_⟩
    simp -implicitDefEqProofs (disch := omega) only [go_sem, ↓reduceIte, reduceCtorEq, Nat.reduceEqDiff]
  · obtain ⟨out, car, h1, h2, h3, h4, h5, f0, f1, f5, f6, f7⟩ := hJ
    have hki : ¬ (k : Int) < 64 := by omega
    rw [hk] at h2 h5
    refine W_round [(0, .int .i64 a), (1, .int .i64 b), (5, .int .u64 out), (6, .int .u64 car), (7, .int .i64 ((k : Nat) : Int))] ⟨f0, f1, f5, f6, f7, trivial⟩  1000 ?_
    simp -implicitDefEqProofs (disch := omega) only [go_sem, ↓reduceIte, reduceCtorEq, Nat.reduceEqDiff, decide_false, hki]
    exact ⟨out, car, h1, h2, h3, h4, h5, rfl⟩
  · obtain ⟨rfl, out, car, h1, h2, h3, h4, h5, f5⟩ := hE
    refine run_sem 1000 ?_
    have e : IntKind.i64.wrap out = IntKind.i64.wrap (a + b) := by
      rw [show (2 : Int) ^ 64 = 18446744073709551616 from rfl] at h5
      exact wrapI_mod (by omega)
    simp -implicitDefEqProofs (disch := omega) only [go_sem, ↓reduceIte, Nat.reduceEqDiff, Nat.zero_le, f5, e]
end Go.Proofs.YtfligilbnpcnaaaGreatDoor

