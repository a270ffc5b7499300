/- The document's shifts and quotients. -/
import Derived.Test.YtfligilbnpcnaaaGreatDoorB3
namespace Go.Proofs.YtfligilbnpcnaaaGreatDoor
open Go Go.Am
set_option maxRecDepth 100000
set_option maxHeartbeats 1000000
variable {P : Program} {G : Nat → Option V}
theorem c_moved (hT : TabOk P tab) (a : Int) (up : Bool) (fill : Int) (m : Nat) (hm : m < 64) (T : Int) (hbit : ∀ k, k < 64 → T / 2 ^ k % 2 = if up = true then (if k < m then 0 else a / 2 ^ (k - m) % 2) else if k + m < 64 then a / 2 ^ (k + m) % 2 else fill) : Pure P G n_proofmarkref01_moved [.int .i64 a, .bool up, .int .u64 fill, .int .i64 ((m : Nat) : Int)] fun v => v = .int .i64 (IntKind.i64.wrap T) := by
  intro t
  refine C_keep 0 (Nat.zero_le _) (C_tab hT t_proofmarkref01_moved (by simp [proofmarkref01_moved]) (W_run 1000 ?_))
  simp -implicitDefEqProofs (disch := omega) only [go_sem, ↓reduceIte, reduceCtorEq, Nat.reduceAdd, Nat.reduceEqDiff, Nat.zero_add, proofmarkref01_moved, proofmarkref01_moved_r0, proofmarkref01_moved_r1, proofmarkref01_moved_r2, proofmarkref01_moved_r3, proofmarkref01_moved_r4, proofmarkref01_moved_r5, proofmarkref01_moved_r6, proofmarkref01_moved_r7, proofmarkref01_moved_r8, proofmarkref01_moved_r9, proofmarkref01_moved_r10, proofmarkref01_moved_r11, proofmarkref01_moved_r12, proofmarkref01_moved_r13, proofmarkref01_moved_r14]
  refine sem_upto 64 (fun k fr σ => ∃ out : Int, out = T % 2 ^ k ∧ fget fr 0 = .int .i64 a ∧ fget fr 1 = .bool up ∧ fget fr 2 = .int .u64 fill ∧ fget fr 3 = .int .i64 ((m : Nat) : Int) ∧ fget fr 9 = .int .u64 out ∧ fget fr 10 = .int .i64 ((k : Nat) : Int))
    (fun e fr σ => e = .ex 0 ∧ fget fr 9 = .int .u64 (T % 2 ^ 64)) ⟨0, by simp [Int.emod_one], by simp -implicitDefEqProofs (disch := omega) only [go_sem, ↓reduceIte], by simp -implicitDefEqProofs (disch := omega) only [go_sem, ↓reduceIte, reduceCtorEq], by simp -implicitDefEqProofs (disch := omega) only [go_sem, ↓reduceIte, reduceCtorEq, Nat.reduceEqDiff], by simp -implicitDefEqProofs (disch := omega) only [go_sem, ↓reduceIte, reduceCtorEq, Nat.reduceEqDiff], by simp -implicitDefEqProofs (disch := omega) only [go_sem, ↓reduceIte, reduceCtorEq, Nat.reduceEqDiff], by simp -implicitDefEqProofs (disch := omega) only [go_sem, ↓reduceIte, reduceCtorEq, Nat.reduceEqDiff]; rfl⟩ (fun k hk fr σ hJ => ?_) (fun k hk fr σ hJ => ?_) (fun e fr σ hE => ?_)
  · obtain ⟨out, ho, f0, f1, f2, f3, f9, f10⟩ := hJ
    have hki : (k : Int) < 64 := by omega
    have hk0 : (0 : Int) ≤ (k : Int) := by omega
    have e2 : IntKind.i64.wrap ((k : Int) + 1) = ((k + 1 : Nat) : Int) := w_nx hk (by omega)
    have w5 : min k 64 = k := by omega
    have e3 : IntKind.i64.wrap ((k : Int) + (m : Int)) = ((k + m : Nat) : Int) := by rw [IntKind.wrap_i64]; omega
    have hb := hbit k hk
    have h01 := bit_rg T k
    have htk := take_bit (T := T) hk rfl
    have hwb := wrapU_bit hk h01
    rw [← ho] at htk
    have hf0 : (0 : Int) ≤ ((k + m : Nat) : Int) := by omega
    cases up with
    | true =>
      rw [if_pos rfl] at hb
      by_cases hlt : k < m
      · rw [if_pos hlt] at hb
        rw [hb] at htk hwb
        have e4 : IntKind.i64.wrap ((k : Int) - (m : Int)) = (k : Int) - (m : Int) := by rw [IntKind.wrap_i64]; omega
        have hn : ¬ (0 : Int) ≤ (k : Int) - (m : Int) := by omega
        have hn2 : (k : Int) - (m : Int) < 0 := by omega
        refine W_round [(0, .int .i64 a), (1, .bool true), (2, .int .u64 fill), (3, .int .i64 ((m : Nat) : Int)), (9, .int .u64 out), (10, .int .i64 ((k : Nat) : Int))] ⟨f0, f1, f2, f3, f9, f10, trivial⟩ 1000 ?_
        simp -implicitDefEqProofs (disch := omega) only [go_sem, ↓reduceIte, reduceCtorEq, Nat.reduceAdd, Nat.reduceEqDiff, decide_true, decide_false, ge_iff_le, hki, e3, e4, hn, hn2, w5, hk0, Int.toNat_natCast, hwb, htk, e2]
        refine ⟨_, _, Shift.refl _ _ _ _, _, rfl, ?_⟩
        simp -implicitDefEqProofs (disch := omega) only [go_sem, ↓reduceIte, reduceCtorEq, Nat.reduceEqDiff]
      · rw [if_neg hlt] at hb
        have e4 : IntKind.i64.wrap ((k : Int) - (m : Int)) = ((k - m : Nat) : Int) := by rw [IntKind.wrap_i64]; omega
        have hn : (0 : Int) ≤ ((k - m : Nat) : Int) := by omega
        have hn2 : ¬ ((k - m : Nat) : Int) < 0 := by omega
        have hn3 : ((k - m : Nat) : Int) < 64 := by omega
        have hbb := c_bit (P := P) (G := G) hT a (show k - m < 64 by omega)
        rw [← hb] at hbb
        generalize k - m = j at *
        refine W_round [(0, .int .i64 a), (1, .bool true), (2, .int .u64 fill), (3, .int .i64 ((m : Nat) : Int)), (9, .int .u64 out), (10, .int .i64 ((k : Nat) : Int))] ⟨f0, f1, f2, f3, f9, f10, trivial⟩ 1000 ?_
        simp -implicitDefEqProofs (disch := omega) only [go_sem, ↓reduceIte, reduceCtorEq, Nat.reduceAdd, Nat.reduceEqDiff, decide_true, ge_iff_le, hki, e3, e4, hn, hn3]
        refine callPS hT t_proofmarkref01_bit hbb rfl 1000 ?_
        simp -implicitDefEqProofs (disch := omega) only [go_sem, ↓reduceIte, reduceCtorEq, Nat.reduceAdd, Nat.reduceEqDiff, decide_false, hn2, w5, hk0, Int.toNat_natCast, hwb, htk, e2]
        refine ⟨_, _, Shift.refl _ _ _ _, _, rfl, ?_⟩
        simp -implicitDefEqProofs (disch := omega) only [go_sem, ↓reduceIte, reduceCtorEq, Nat.reduceEqDiff]
    | false =>
      rw [if_neg (by simp)] at hb
      by_cases hlt : k + m < 64
      · rw [if_pos hlt] at hb
        have hn3 : ((k + m : Nat) : Int) < 64 := by omega
        have hbb := c_bit (P := P) (G := G) hT a hlt
        rw [← hb] at hbb
        generalize k + m = j at *
        refine W_round [(0, .int .i64 a), (1, .bool false), (2, .int .u64 fill), (3, .int .i64 ((m : Nat) : Int)), (9, .int .u64 out), (10, .int .i64 ((k : Nat) : Int))] ⟨f0, f1, f2, f3, f9, f10, trivial⟩ 1000 ?_
        simp -implicitDefEqProofs (disch := omega) only [go_sem, ↓reduceIte, reduceCtorEq, Nat.reduceAdd, Nat.reduceEqDiff, decide_true, ge_iff_le, hki, e3, hf0, hn3]
        refine callPS hT t_proofmarkref01_bit hbb rfl 1000 ?_
        simp -implicitDefEqProofs (disch := omega) only [go_sem, ↓reduceIte, reduceCtorEq, Nat.reduceEqDiff, w5, hk0, Int.toNat_natCast, hwb, htk, e2]
        refine ⟨_, _, Shift.refl _ _ _ _, _, rfl, ?_⟩
        simp -implicitDefEqProofs (disch := omega) only [go_sem, ↓reduceIte, reduceCtorEq, Nat.reduceEqDiff]
      · rw [if_neg hlt] at hb
        have hn3 : ¬ ((k + m : Nat) : Int) < 64 := by omega
        rw [hb] at htk hwb
        generalize k + m = j at *
        refine W_round [(0, .int .i64 a), (1, .bool false), (2, .int .u64 fill), (3, .int .i64 ((m : Nat) : Int)), (9, .int .u64 out), (10, .int .i64 ((k : Nat) : Int))] ⟨f0, f1, f2, f3, f9, f10, trivial⟩ 1000 ?_
        simp -implicitDefEqProofs (disch := omega) only [go_sem, ↓reduceIte, reduceCtorEq, Nat.reduceAdd, Nat.reduceEqDiff, decide_true, decide_false, ge_iff_le, hki, e3, hf0, hn3, w5, hk0, Int.toNat_natCast, hwb, htk, e2]
        refine ⟨_, _, Shift.refl _ _ _ _, _, rfl, ?_⟩
        simp -implicitDefEqProofs (disch := omega) only [go_sem, ↓reduceIte, reduceCtorEq, Nat.reduceEqDiff]
  · obtain ⟨out, ho, f0, f1, f2, f3, f9, f10⟩ := hJ
    have hki : ¬ (k : Int) < 64 := by omega
    rw [hk] at ho
    refine W_round [(0, .int .i64 a), (1, .bool up), (2, .int .u64 fill), (3, .int .i64 ((m : Nat) : Int)), (9, .int .u64 out), (10, .int .i64 ((k : Nat) : Int))] ⟨f0, f1, f2, f3, f9, f10, trivial⟩  1000 ?_
    simp -implicitDefEqProofs (disch := omega) only [go_sem, ↓reduceIte, reduceCtorEq, Nat.reduceEqDiff, decide_false, true_and, hki]
    rw [ho]
  · obtain ⟨rfl, f9⟩ := hE
    refine run_sem 1000 ?_
    have e : IntKind.i64.wrap (T % 2 ^ 64) = IntKind.i64.wrap T := wI_cg (by show T % 18446744073709551616 % 18446744073709551616 = _; omega)
    simp -implicitDefEqProofs (disch := omega) only [go_sem, ↓reduceIte, Nat.reduceEqDiff, Nat.zero_le, and_true, f9, e]
theorem c_signed (hT : TabOk P tab) (a b : Int) (ha : i64 a) (hb : i64 b) (hb0 : b ≠ 0) : Pure P G n_proofmarkref01_signed [.int .i64 a, .int .i64 b] fun v => v = .tup [.int .i64 (IntKind.i64.wrap (a.tdiv b)), .int .i64 (IntKind.i64.wrap (a.tmod b))] := by
  intro t
  refine C_keep 0 (Nat.zero_le _) (C_tab hT t_proofmarkref01_signed (by simp [proofmarkref01_signed]) (W_run 1000 ?_))
  obtain ⟨hy1, hy2, hq, hr⟩ := signed_q ha hb hb0 _ _ rfl rfl
  have hdiv := fun x => c_divide (P := P) (G := G) hT x _ hy1 hy2
  have hna := c_neg (P := P) (G := G) hT a
  have hnb := c_neg (P := P) (G := G) hT b
  have hnx := fun x => c_neg (P := P) (G := G) hT x
  by_cases h1 : a < 0 <;> by_cases h2 : b < 0
  · simp only [h1, h2, if_true, iff_self, not_true_eq_false, if_false] at hq hr hdiv
    rw [← hq, ← hr]
    simp -implicitDefEqProofs (disch := omega) only [go_sem, ↓reduceIte, reduceCtorEq, Nat.reduceEqDiff, Nat.zero_add, decide_true, proofmarkref01_signed, proofmarkref01_signed_r0, proofmarkref01_signed_r1, proofmarkref01_signed_r2, proofmarkref01_signed_r3, proofmarkref01_signed_r4, proofmarkref01_signed_r5, proofmarkref01_signed_r6, proofmarkref01_signed_r7, proofmarkref01_signed_r8, proofmarkref01_signed_r9, proofmarkref01_signed_r10, proofmarkref01_signed_r11, h1]
    refine callPS hT t_proofmarkref01_neg hna rfl 1000 ?_
    simp -implicitDefEqProofs (disch := omega) only [go_sem, ↓reduceIte, reduceCtorEq, Nat.reduceEqDiff, decide_true, h2]
    refine callPS hT t_proofmarkref01_neg hnb rfl 1000 ?_
    simp -implicitDefEqProofs (disch := omega) only [go_sem, ↓reduceIte, reduceCtorEq, Nat.reduceEqDiff]
    refine callPS hT t_proofmarkref01_divide (hdiv _) rfl 1000 ?_
    simp -implicitDefEqProofs (disch := omega) only [go_sem, ↓reduceIte, reduceCtorEq, Nat.reduceAdd, Nat.reduceEqDiff, Nat.reduceLT, Nat.zero_add, decide_true, bne_self_eq_false, h1, h2, decide_true, bne_self_eq_false]
    refine callPS hT t_proofmarkref01_neg (hnx _) rfl 1000 ?_
    simp -implicitDefEqProofs (disch := omega) only [go_sem, ↓reduceIte, reduceCtorEq, Nat.reduceEqDiff, Nat.le_refl, and_true]
  · simp only [h1, h2, if_true, iff_false, not_true_eq_false, not_false_eq_true, if_false] at hq hr hdiv
    rw [← hq, ← hr]
    simp -implicitDefEqProofs (disch := omega) only [go_sem, ↓reduceIte, reduceCtorEq, Nat.reduceEqDiff, Nat.zero_add, decide_true, proofmarkref01_signed, proofmarkref01_signed_r0, proofmarkref01_signed_r1, proofmarkref01_signed_r2, proofmarkref01_signed_r3, proofmarkref01_signed_r4, proofmarkref01_signed_r5, proofmarkref01_signed_r6, proofmarkref01_signed_r7, proofmarkref01_signed_r8, proofmarkref01_signed_r9, proofmarkref01_signed_r10, proofmarkref01_signed_r11, h1]
    refine callPS hT t_proofmarkref01_neg hna rfl 1000 ?_
    simp -implicitDefEqProofs (disch := omega) only [go_sem, ↓reduceIte, reduceCtorEq, Nat.reduceEqDiff, decide_false, h2]
    refine callPS hT t_proofmarkref01_divide (hdiv _) rfl 1000 ?_
    simp -implicitDefEqProofs (disch := omega) only [go_sem, ↓reduceIte, reduceCtorEq, Nat.reduceAdd, Nat.reduceEqDiff, Nat.reduceLT, Nat.zero_add, decide_true, decide_false, false_implies, true_implies, and_true, not_false_eq_true, h1, h2, decide_true, decide_false]
    refine callPS hT t_proofmarkref01_neg (hnx _) rfl 1000 ?_
    simp -implicitDefEqProofs (disch := omega) only [go_sem, ↓reduceIte, reduceCtorEq, Nat.reduceEqDiff, decide_true, h1]
    refine callPS hT t_proofmarkref01_neg (hnx _) rfl 1000 ?_
    simp -implicitDefEqProofs (disch := omega) only [go_sem, ↓reduceIte, reduceCtorEq, Nat.reduceEqDiff, Nat.le_refl, and_true]
  · simp only [h1, h2, if_true, iff_true, not_false_eq_true, if_false] at hq hr hdiv
    rw [← hq, ← hr]
    simp -implicitDefEqProofs (disch := omega) only [go_sem, ↓reduceIte, reduceCtorEq, Nat.reduceEqDiff, Nat.zero_add, decide_true, decide_false, proofmarkref01_signed, proofmarkref01_signed_r0, proofmarkref01_signed_r1, proofmarkref01_signed_r2, proofmarkref01_signed_r3, proofmarkref01_signed_r4, proofmarkref01_signed_r5, proofmarkref01_signed_r6, proofmarkref01_signed_r7, proofmarkref01_signed_r8, proofmarkref01_signed_r9, proofmarkref01_signed_r10, proofmarkref01_signed_r11, h1, h2]
    refine callPS hT t_proofmarkref01_neg hnb rfl 1000 ?_
    simp -implicitDefEqProofs (disch := omega) only [go_sem, ↓reduceIte, reduceCtorEq, Nat.reduceEqDiff]
    refine callPS hT t_proofmarkref01_divide (hdiv _) rfl 1000 ?_
    simp -implicitDefEqProofs (disch := omega) only [go_sem, ↓reduceIte, reduceCtorEq, Nat.reduceAdd, Nat.reduceEqDiff, Nat.reduceLT, Nat.zero_add, decide_true, decide_false, Nat.le_refl, false_implies, true_implies, true_and, and_true, not_false_eq_true, h1, h2, decide_true, decide_false]
    refine callPS hT t_proofmarkref01_neg (hnx _) rfl 1000 ?_
    simp -implicitDefEqProofs (disch := omega) only [go_sem, ↓reduceIte, reduceCtorEq, Nat.reduceEqDiff, decide_false, Nat.le_refl, and_true, h1]
  · simp only [h1, h2, iff_self, not_true_eq_false, if_false] at hq hr hdiv
    rw [← hq, ← hr]
    simp -implicitDefEqProofs (disch := omega) only [go_sem, ↓reduceIte, reduceCtorEq, Nat.reduceEqDiff, Nat.zero_add, decide_false, proofmarkref01_signed, proofmarkref01_signed_r0, proofmarkref01_signed_r1, proofmarkref01_signed_r2, proofmarkref01_signed_r3, proofmarkref01_signed_r4, proofmarkref01_signed_r5, proofmarkref01_signed_r6, proofmarkref01_signed_r7, proofmarkref01_signed_r8, proofmarkref01_signed_r9, proofmarkref01_signed_r10, proofmarkref01_signed_r11, h1, h2]
    refine callPS hT t_proofmarkref01_divide (hdiv _) rfl 1000 ?_
    simp -implicitDefEqProofs (disch := omega) only [go_sem, ↓reduceIte, reduceCtorEq, Nat.reduceAdd, Nat.reduceEqDiff, Nat.reduceLT, Nat.zero_add, decide_false, Nat.le_refl, bne_self_eq_false, and_true, h1, h2, decide_false, bne_self_eq_false]
end Go.Proofs.YtfligilbnpcnaaaGreatDoor

