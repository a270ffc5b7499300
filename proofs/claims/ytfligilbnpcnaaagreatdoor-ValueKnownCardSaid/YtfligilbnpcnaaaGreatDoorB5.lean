/- The document's operations are the program's. -/
import Derived.Test.YtfligilbnpcnaaaGreatDoorBM
namespace Go.Proofs.YtfligilbnpcnaaaGreatDoor
open Go Go.Am
set_option maxRecDepth 100000
set_option maxHeartbeats 1000000
variable {P : Program} {G : Nat → Option V}
theorem divS_eq {a b : Int} (hb0 : b ≠ 0) : IntKind.i64.wrap (a.tdiv b) = divS a b := by
  rw [divS, if_neg hb0]
  split
  · rename_i h
    rw [h, show (-1 : Int) = -(1 : Int) from rfl, Int.tdiv_neg, Int.tdiv_one, Int.zero_sub]
  · rfl
theorem remS_eq {a b : Int} (ha : i64 a) (hb0 : b ≠ 0) : IntKind.i64.wrap (a.tmod b) = remS a b := by
  have e : a.tmod b = remS a b := by
    rw [remS, if_neg hb0]
    split
    · rename_i h
      rw [h, show (-1 : Int) = -(1 : Int) from rfl, Int.tmod_neg, Int.tmod_one]
    · rfl
  rw [e]
  have h : i64 (remS a b) := by
    rw [← e]
    have h1 := Int.natAbs_tmod a b
    have h2 : (a.tmod b).natAbs ≤ a.natAbs := by rw [h1]; exact Nat.mod_le _ _
    unfold i64 at *
    by_cases h : 0 ≤ a
    · have := Int.tmod_nonneg b h
      omega
    · have := Int.tmod_nonneg b (a := -a) (by omega)
      rw [Int.neg_tmod] at this
      omega
  exact wrap_i64 h.1 h.2
theorem divN_eq {a b : Int} (hb0 : b ≠ 0) : IntKind.i64.wrap (IntKind.u64.wrap a / IntKind.u64.wrap b) = divN a b := by
  rw [divN, if_neg hb0, Int.tdiv_eq_ediv_of_nonneg (wU_rg a).1]
  exact wI_cg (cg_wU _).symm
theorem remN_eq {a b : Int} (hb0 : b ≠ 0) : IntKind.i64.wrap (IntKind.u64.wrap a % IntKind.u64.wrap b) = remN a b := by
  rw [remN, if_neg hb0, Int.tmod_eq_emod_of_nonneg (wU_rg a).1]
def quoW (op a b : Int) : Int := if op = 4 then divS a b else if op = 5 then remS a b else if op = 6 then divN a b else remN a b
theorem c_quotients (hT : TabOk P tab) (op a b : Int) (ho : op = 4 ∨ op = 5 ∨ op = 6 ∨ op = 7) (ha : i64 a) (hb : i64 b) : Pure P G n_proofmarkref01_quotients [.int .u8 op, .int .i64 a, .int .i64 b] fun v => v = .int .i64 (quoW op a b) := by
  intro t
  refine C_keep 0 (Nat.zero_le _) (C_tab hT t_proofmarkref01_quotients (by simp [proofmarkref01_quotients]) (W_run 1000 ?_))
  by_cases h0 : b = 0
  · subst h0
    rcases ho with rfl | rfl | rfl | rfl
    · simp -implicitDefEqProofs (disch := omega) only [go_sem, ↓reduceIte, reduceCtorEq, Nat.reduceAdd, Nat.reduceEqDiff, Nat.zero_add, Nat.le_refl, beq_self_eq_true, proofmarkref01_quotients, zq12_0, zq12_1, zq12_2, zq12_3, zq12_4, zq12_5, zq12_6, zq12_7, zq12_8, zq12_9, zq12_10, true_and]; rfl
    · simp -implicitDefEqProofs (disch := omega) only [go_sem, ↓reduceIte, reduceCtorEq, Nat.reduceAdd, Nat.reduceEqDiff, Int.reduceEq, Nat.zero_add, Nat.le_refl, beq_self_eq_true, proofmarkref01_quotients, zq12_0, zq12_1, zq12_2, zq12_3, zq12_4, zq12_5, zq12_6, zq12_7, zq12_8, zq12_9, zq12_10, false_implies, true_implies, true_and, not_false_eq_true]; rfl
    · simp -implicitDefEqProofs (disch := omega) only [go_sem, ↓reduceIte, reduceCtorEq, Nat.reduceAdd, Nat.reduceEqDiff, Int.reduceEq, Nat.zero_add, Nat.le_refl, beq_self_eq_true, proofmarkref01_quotients, zq12_0, zq12_1, zq12_2, zq12_3, zq12_4, zq12_5, zq12_6, zq12_7, zq12_8, zq12_9, zq12_10, false_implies, true_implies, true_and, not_false_eq_true]; rfl
    · simp -implicitDefEqProofs (disch := omega) only [go_sem, ↓reduceIte, reduceCtorEq, Nat.reduceAdd, Nat.reduceEqDiff, Int.reduceEq, Nat.zero_add, Nat.le_refl, beq_self_eq_true, proofmarkref01_quotients, zq12_0, zq12_1, zq12_2, zq12_3, zq12_4, zq12_5, zq12_6, zq12_7, zq12_8, zq12_9, zq12_10, false_implies, true_implies, true_and, not_false_eq_true]; rfl
  · have hd := c_divide (P := P) (G := G) hT a b hb h0
    have hs := c_signed (P := P) (G := G) hT a b ha hb h0
    rw [divN_eq h0, remN_eq h0] at hd
    rw [divS_eq h0, remS_eq ha h0] at hs
    rcases ho with rfl | rfl | rfl | rfl
    · simp -implicitDefEqProofs (disch := omega) only [go_sem, ↓reduceIte, reduceCtorEq, Nat.reduceAdd, Nat.reduceEqDiff, Nat.zero_add, Nat.le_refl, beq_self_eq_true, proofmarkref01_quotients, zq12_0, zq12_1, zq12_2, zq12_3, zq12_4, zq12_5, zq12_6, zq12_7, zq12_8, zq12_9, zq12_10, false_implies, true_implies, true_and, not_false_eq_true, h0]
      refine callPS hT t_proofmarkref01_divide hd rfl 1000 ?_
      simp -implicitDefEqProofs (disch := omega) only [go_sem, ↓reduceIte, reduceCtorEq, Nat.reduceAdd, Nat.reduceEqDiff, Nat.reduceLT, Nat.zero_add, beq_self_eq_true]
      refine callPS hT t_proofmarkref01_signed hs rfl 1000 ?_
      simp -implicitDefEqProofs (disch := omega) only [go_sem, ↓reduceIte, reduceCtorEq, Nat.reduceAdd, Nat.reduceEqDiff, Nat.reduceLT, Nat.zero_add, Nat.le_refl, beq_self_eq_true, true_and]; rfl
    · simp -implicitDefEqProofs (disch := omega) only [go_sem, ↓reduceIte, reduceCtorEq, Nat.reduceAdd, Nat.reduceEqDiff, Int.reduceEq, Nat.zero_add, Nat.le_refl, proofmarkref01_quotients, zq12_0, zq12_1, zq12_2, zq12_3, zq12_4, zq12_5, zq12_6, zq12_7, zq12_8, zq12_9, zq12_10, false_implies, true_implies, true_and, not_false_eq_true, h0]
      refine callPS hT t_proofmarkref01_divide hd rfl 1000 ?_
      simp -implicitDefEqProofs (disch := omega) only [go_sem, ↓reduceIte, reduceCtorEq, Nat.reduceAdd, Nat.reduceEqDiff, Nat.reduceLT, Int.reduceEq, Nat.zero_add, beq_self_eq_true, false_implies, true_implies, true_and, not_false_eq_true]
      refine callPS hT t_proofmarkref01_signed hs rfl 1000 ?_
      simp -implicitDefEqProofs (disch := omega) only [go_sem, ↓reduceIte, reduceCtorEq, Nat.reduceAdd, Nat.reduceEqDiff, Nat.reduceLT, Int.reduceEq, Nat.zero_add, Nat.le_refl, false_implies, true_implies, true_and, not_false_eq_true]; rfl
    · simp -implicitDefEqProofs (disch := omega) only [go_sem, ↓reduceIte, reduceCtorEq, Nat.reduceAdd, Nat.reduceEqDiff, Int.reduceEq, Nat.zero_add, Nat.le_refl, beq_self_eq_true, proofmarkref01_quotients, zq12_0, zq12_1, zq12_2, zq12_3, zq12_4, zq12_5, zq12_6, zq12_7, zq12_8, zq12_9, zq12_10, false_implies, true_implies, true_and, not_false_eq_true, h0]
      refine callPS hT t_proofmarkref01_divide hd rfl 1000 ?_
      simp -implicitDefEqProofs (disch := omega) only [go_sem, ↓reduceIte, reduceCtorEq, Nat.reduceAdd, Nat.reduceEqDiff, Nat.reduceLT, Int.reduceEq, Nat.zero_add, Nat.le_refl, beq_self_eq_true, false_implies, true_implies, true_and, not_false_eq_true]; rfl
    · simp -implicitDefEqProofs (disch := omega) only [go_sem, ↓reduceIte, reduceCtorEq, Nat.reduceAdd, Nat.reduceEqDiff, Int.reduceEq, Nat.zero_add, Nat.le_refl, proofmarkref01_quotients, zq12_0, zq12_1, zq12_2, zq12_3, zq12_4, zq12_5, zq12_6, zq12_7, zq12_8, zq12_9, zq12_10, false_implies, true_implies, true_and, not_false_eq_true, h0]
      refine callPS hT t_proofmarkref01_divide hd rfl 1000 ?_
      simp -implicitDefEqProofs (disch := omega) only [go_sem, ↓reduceIte, reduceCtorEq, Nat.reduceAdd, Nat.reduceEqDiff, Nat.reduceLT, Int.reduceEq, Nat.zero_add, Nat.le_refl, false_implies, true_implies, true_and, not_false_eq_true]; rfl
theorem and63U (x : Int) : IntKind.i64.wrap (andI .u64 (IntKind.u64.wrap x) 63) = x % 64 := by
  have h : andI .u64 (IntKind.u64.wrap x) 63 = IntKind.u64.wrap x % 64 := and_low .u64 6 _ 63 rfl (by decide)
  rw [h, wrapU_eq, IntKind.wrap_i64]
  omega
theorem and63I (x : Int) : andI .i64 x 63 = x % 64 := and_low .i64 6 _ 63 rfl (by decide)
theorem c_shl (hT : TabOk P tab) (a b : Int) : Pure P G n_proofmarkref01_moved [.int .i64 a, .bool true, .int .u64 0, .int .i64 (b % 64)] fun v => v = .int .i64 (doW 11 a b) := by
  obtain ⟨m, hm⟩ : ∃ m : Nat, b % 64 = m := ⟨(b % 64).toNat, by omega⟩
  have h := c_moved (P := P) (G := G) hT a true 0 m (by omega) (a * 2 ^ m) (fun k hk => by rw [if_pos rfl]; exact bit_up)
  have e : doW 11 a b = IntKind.i64.wrap (a * 2 ^ m) := by
    show IntKind.i64.wrap (a * 2 ^ min (andI .i64 b 63).toNat 64) = _
    rw [and63I, hm, Int.toNat_natCast, Nat.min_eq_left (by omega)]
  rw [hm, e]; exact h
theorem c_shr (hT : TabOk P tab) (a b : Int) : Pure P G n_proofmarkref01_moved [.int .i64 a, .bool false, .int .u64 0, .int .i64 (b % 64)] fun v => v = .int .i64 (doW 12 a b) := by
  obtain ⟨m, hm⟩ : ∃ m : Nat, b % 64 = m := ⟨(b % 64).toNat, by omega⟩
  have h := c_moved (P := P) (G := G) hT a false 0 m (by omega) (IntKind.u64.wrap a / 2 ^ m) (fun k hk => by
    rw [if_neg (by simp), bit_down]
    split
    · rename_i h; exact ubit h
    · rw [udiv_big a (by omega)]; rfl)
  have e : doW 12 a b = IntKind.i64.wrap (IntKind.u64.wrap a / 2 ^ m) := by
    show IntKind.i64.wrap ((IntKind.u64.wrap a).fdiv (2 ^ min (andI .i64 b 63).toNat 64)) = _
    rw [and63I, hm, Int.toNat_natCast, Nat.min_eq_left (by omega), Int.fdiv_eq_ediv_of_nonneg _ (Int.le_of_lt (pow_pos2 m))]
  rw [hm, e]; exact h
theorem c_sar (hT : TabOk P tab) (a b : Int) (ha : i64 a) : Pure P G n_proofmarkref01_moved [.int .i64 a, .bool false, .int .u64 (a / 2 ^ 63 % 2), .int .i64 (b % 64)] fun v => v = .int .i64 (doW 13 a b) := by
  obtain ⟨m, hm⟩ : ∃ m : Nat, b % 64 = m := ⟨(b % 64).toNat, by omega⟩
  have h := c_moved (P := P) (G := G) hT a false (a / 2 ^ 63 % 2) m (by omega) (a / 2 ^ m) (fun k hk => by
    rw [if_neg (by simp), bit_down]
    split
    · rfl
    · rw [ediv_big ha (k := k + m) (by omega), ediv_big ha (k := 63) (by omega)])
  have hp := pow_pos2 m
  have e : doW 13 a b = IntKind.i64.wrap (a / 2 ^ m) := by
    have hr : i64 (a / 2 ^ m) := by
      unfold i64 at *
      have h1 := Int.ediv_le_ediv hp (a := a) (b := 9223372036854775807) (by omega)
      have h2 := Int.ediv_le_ediv hp (a := -9223372036854775808) (b := a) (by omega)
      have h3 : (9223372036854775807 : Int) / 2 ^ m ≤ 9223372036854775807 := Int.ediv_le_self _ (by omega)
      have h4 : -9223372036854775808 ≤ (-9223372036854775808 : Int) / 2 ^ m := by
        rw [Int.le_ediv_iff_mul_le hp]
        omega
      omega
    rw [wrap_i64 hr.1 hr.2]
    show a.fdiv (2 ^ min (andI .i64 b 63).toNat 64) = _
    rw [and63I, hm, Int.toNat_natCast, Nat.min_eq_left (by omega), Int.fdiv_eq_ediv_of_nonneg _ (Int.le_of_lt (pow_pos2 m))]
  rw [hm, e]; exact h
theorem c_rDo (hT : TabOk P tab) (op a b : Int) (ho : 0 ≤ op ∧ op ≤ 255) (ha : i64 a) (hb : i64 b) : Pure P G n_proofmarkref01_Do [.int .u8 op, .int .i64 a, .int .i64 b] fun v => v = .int .i64 (doW op a b) := by
  intro t
  refine C_keep 0 (Nat.zero_le _) (C_tab hT t_proofmarkref01_Do (by simp [proofmarkref01_Do]) (W_run 1000 ?_))
  have h63 := and63U b
  have hadd := fun x => c_add (P := P) (G := G) hT a x
  have hsub : IntKind.i64.wrap (a + IntKind.i64.wrap (-b)) = doW 2 a b := wI_cg (cg.add (cg.refl _) (cg_wI _))
  by_cases h1 : op = 1
  · subst h1
    simp -implicitDefEqProofs (disch := omega) only [go_sem, ↓reduceIte, reduceCtorEq, Nat.reduceAdd, Nat.reduceEqDiff, Nat.zero_add, beq_self_eq_true, proofmarkref01_Do, zqo_0, zqo_1, zqo_2, zqo_3, zqo_4, zqo_5, zqo_6, zqo_7, zqo_8, zqo_9, zqo_10, zqo_11, zqo_12, zqo_13, zqo_14, zqo_15, zqo_16, zqo_17, zqo_18, zqo_19, zqo_20, zqo_21, zqo_22, zqo_23, zqo_24, zqo_25, zqo_26, zqo_27, zqo_28, zqo_29, zqo_30, zqo_31, zqo_32, h63]
    refine callPS hT t_proofmarkref01_add (hadd b) rfl 1000 ?_
    simp -implicitDefEqProofs (disch := omega) only [go_sem, ↓reduceIte, reduceCtorEq, Nat.reduceEqDiff, Nat.le_refl, true_and]; rfl
  by_cases h2 : op = 2
  · subst h2
    simp -implicitDefEqProofs (disch := omega) only [go_sem, ↓reduceIte, reduceCtorEq, Nat.reduceAdd, Nat.reduceEqDiff, Int.reduceEq, Nat.zero_add, beq_self_eq_true, proofmarkref01_Do, zqo_0, zqo_1, zqo_2, zqo_3, zqo_4, zqo_5, zqo_6, zqo_7, zqo_8, zqo_9, zqo_10, zqo_11, zqo_12, zqo_13, zqo_14, zqo_15, zqo_16, zqo_17, zqo_18, zqo_19, zqo_20, zqo_21, zqo_22, zqo_23, zqo_24, zqo_25, zqo_26, zqo_27, zqo_28, zqo_29, zqo_30, zqo_31, zqo_32, false_implies, true_implies, true_and, not_false_eq_true, h63]
    refine callPS hT t_proofmarkref01_neg (c_neg hT b) rfl 1000 ?_
    simp -implicitDefEqProofs (disch := omega) only [go_sem, ↓reduceIte, reduceCtorEq, Nat.reduceEqDiff]
    refine callPS hT t_proofmarkref01_add (hadd _) rfl 1000 ?_
    simp -implicitDefEqProofs (disch := omega) only [go_sem, ↓reduceIte, reduceCtorEq, Nat.reduceEqDiff, Nat.le_refl, and_true, hsub]
  by_cases h3 : op = 3
  · subst h3
    simp -implicitDefEqProofs (disch := omega) only [go_sem, ↓reduceIte, reduceCtorEq, Nat.reduceAdd, Nat.reduceEqDiff, Int.reduceEq, Nat.zero_add, beq_self_eq_true, proofmarkref01_Do, zqo_0, zqo_1, zqo_2, zqo_3, zqo_4, zqo_5, zqo_6, zqo_7, zqo_8, zqo_9, zqo_10, zqo_11, zqo_12, zqo_13, zqo_14, zqo_15, zqo_16, zqo_17, zqo_18, zqo_19, zqo_20, zqo_21, zqo_22, zqo_23, zqo_24, zqo_25, zqo_26, zqo_27, zqo_28, zqo_29, zqo_30, zqo_31, zqo_32, false_implies, true_implies, true_and, not_false_eq_true, h63]
    refine callPS hT t_proofmarkref01_mul (c_mul hT a b) rfl 1000 ?_
    simp -implicitDefEqProofs (disch := omega) only [go_sem, ↓reduceIte, reduceCtorEq, Nat.reduceEqDiff, Nat.le_refl, true_and]; rfl
  by_cases h4 : op = 4
  · subst h4
    simp -implicitDefEqProofs (disch := omega) only [go_sem, ↓reduceIte, reduceCtorEq, Nat.reduceAdd, Nat.reduceEqDiff, Int.reduceEq, Nat.zero_add, beq_self_eq_true, proofmarkref01_Do, zqo_0, zqo_1, zqo_2, zqo_3, zqo_4, zqo_5, zqo_6, zqo_7, zqo_8, zqo_9, zqo_10, zqo_11, zqo_12, zqo_13, zqo_14, zqo_15, zqo_16, zqo_17, zqo_18, zqo_19, zqo_20, zqo_21, zqo_22, zqo_23, zqo_24, zqo_25, zqo_26, zqo_27, zqo_28, zqo_29, zqo_30, zqo_31, zqo_32, false_implies, true_implies, true_and, not_false_eq_true, h63]
    refine callPS hT t_proofmarkref01_quotients (c_quotients hT 4 a b (by omega) ha hb) rfl 1000 ?_
    simp -implicitDefEqProofs (disch := omega) only [go_sem, ↓reduceIte, reduceCtorEq, Nat.reduceEqDiff, Nat.le_refl, true_and]; rfl
  by_cases h5 : op = 5
  · subst h5
    simp -implicitDefEqProofs (disch := omega) only [go_sem, ↓reduceIte, reduceCtorEq, Nat.reduceAdd, Nat.reduceEqDiff, Int.reduceEq, Nat.zero_add, Nat.le_refl, beq_self_eq_true, proofmarkref01_Do, zqo_0, zqo_1, zqo_2, zqo_3, zqo_4, zqo_5, zqo_6, zqo_7, zqo_8, zqo_9, zqo_10, zqo_11, zqo_12, zqo_13, zqo_14, zqo_15, zqo_16, zqo_17, zqo_18, zqo_19, zqo_20, zqo_21, zqo_22, zqo_23, zqo_24, zqo_25, zqo_26, zqo_27, zqo_28, zqo_29, zqo_30, zqo_31, zqo_32, false_implies, true_implies, true_and, not_false_eq_true, h63]
    refine callPS hT t_proofmarkref01_quotients (c_quotients hT 5 a b (by omega) ha hb) rfl 1000 ?_
    simp -implicitDefEqProofs (disch := omega) only [go_sem, ↓reduceIte, reduceCtorEq, Nat.reduceEqDiff, Nat.le_refl, true_and]; rfl
  by_cases h6 : op = 6
  · subst h6
    simp -implicitDefEqProofs (disch := omega) only [go_sem, ↓reduceIte, reduceCtorEq, Nat.reduceAdd, Nat.reduceEqDiff, Int.reduceEq, Nat.zero_add, Nat.le_refl, beq_self_eq_true, proofmarkref01_Do, zqo_0, zqo_1, zqo_2, zqo_3, zqo_4, zqo_5, zqo_6, zqo_7, zqo_8, zqo_9, zqo_10, zqo_11, zqo_12, zqo_13, zqo_14, zqo_15, zqo_16, zqo_17, zqo_18, zqo_19, zqo_20, zqo_21, zqo_22, zqo_23, zqo_24, zqo_25, zqo_26, zqo_27, zqo_28, zqo_29, zqo_30, zqo_31, zqo_32, false_implies, true_implies, true_and, not_false_eq_true, h63]
    refine callPS hT t_proofmarkref01_quotients (c_quotients hT 6 a b (by omega) ha hb) rfl 1000 ?_
    simp -implicitDefEqProofs (disch := omega) only [go_sem, ↓reduceIte, reduceCtorEq, Nat.reduceEqDiff, Nat.le_refl, true_and]; rfl
  by_cases h7 : op = 7
  · subst h7
    simp -implicitDefEqProofs (disch := omega) only [go_sem, ↓reduceIte, reduceCtorEq, Nat.reduceAdd, Nat.reduceEqDiff, Int.reduceEq, Nat.zero_add, Nat.le_refl, beq_self_eq_true, proofmarkref01_Do, zqo_0, zqo_1, zqo_2, zqo_3, zqo_4, zqo_5, zqo_6, zqo_7, zqo_8, zqo_9, zqo_10, zqo_11, zqo_12, zqo_13, zqo_14, zqo_15, zqo_16, zqo_17, zqo_18, zqo_19, zqo_20, zqo_21, zqo_22, zqo_23, zqo_24, zqo_25, zqo_26, zqo_27, zqo_28, zqo_29, zqo_30, zqo_31, zqo_32, false_implies, true_implies, true_and, not_false_eq_true, h63]
    refine callPS hT t_proofmarkref01_quotients (c_quotients hT 7 a b (by omega) ha hb) rfl 1000 ?_
    simp -implicitDefEqProofs (disch := omega) only [go_sem, ↓reduceIte, reduceCtorEq, Nat.reduceEqDiff, Nat.le_refl, true_and]; rfl
  by_cases h8 : op = 8
  · subst h8
    simp -implicitDefEqProofs (disch := omega) only [go_sem, ↓reduceIte, reduceCtorEq, Nat.reduceAdd, Nat.reduceEqDiff, Int.reduceEq, Nat.zero_add, Nat.le_refl, beq_self_eq_true, proofmarkref01_Do, zqo_0, zqo_1, zqo_2, zqo_3, zqo_4, zqo_5, zqo_6, zqo_7, zqo_8, zqo_9, zqo_10, zqo_11, zqo_12, zqo_13, zqo_14, zqo_15, zqo_16, zqo_17, zqo_18, zqo_19, zqo_20, zqo_21, zqo_22, zqo_23, zqo_24, zqo_25, zqo_26, zqo_27, zqo_28, zqo_29, zqo_30, zqo_31, zqo_32, false_implies, true_implies, true_and, not_false_eq_true, h63]; rfl
  by_cases h9 : op = 9
  · subst h9
    simp -implicitDefEqProofs (disch := omega) only [go_sem, ↓reduceIte, reduceCtorEq, Nat.reduceAdd, Nat.reduceEqDiff, Int.reduceEq, Nat.zero_add, Nat.le_refl, beq_self_eq_true, proofmarkref01_Do, zqo_0, zqo_1, zqo_2, zqo_3, zqo_4, zqo_5, zqo_6, zqo_7, zqo_8, zqo_9, zqo_10, zqo_11, zqo_12, zqo_13, zqo_14, zqo_15, zqo_16, zqo_17, zqo_18, zqo_19, zqo_20, zqo_21, zqo_22, zqo_23, zqo_24, zqo_25, zqo_26, zqo_27, zqo_28, zqo_29, zqo_30, zqo_31, zqo_32, false_implies, true_implies, true_and, not_false_eq_true, h63]; rfl
  by_cases h10 : op = 10
  · subst h10
    simp -implicitDefEqProofs (disch := omega) only [go_sem, ↓reduceIte, reduceCtorEq, Nat.reduceAdd, Nat.reduceEqDiff, Int.reduceEq, Nat.zero_add, Nat.le_refl, beq_self_eq_true, proofmarkref01_Do, zqo_0, zqo_1, zqo_2, zqo_3, zqo_4, zqo_5, zqo_6, zqo_7, zqo_8, zqo_9, zqo_10, zqo_11, zqo_12, zqo_13, zqo_14, zqo_15, zqo_16, zqo_17, zqo_18, zqo_19, zqo_20, zqo_21, zqo_22, zqo_23, zqo_24, zqo_25, zqo_26, zqo_27, zqo_28, zqo_29, zqo_30, zqo_31, zqo_32, false_implies, true_implies, true_and, not_false_eq_true, h63]; rfl
  by_cases h11 : op = 11
  · subst h11
    simp -implicitDefEqProofs (disch := omega) only [go_sem, ↓reduceIte, reduceCtorEq, Nat.reduceAdd, Nat.reduceEqDiff, Int.reduceEq, Nat.zero_add, Nat.le_refl, beq_self_eq_true, proofmarkref01_Do, zqo_0, zqo_1, zqo_2, zqo_3, zqo_4, zqo_5, zqo_6, zqo_7, zqo_8, zqo_9, zqo_10, zqo_11, zqo_12, zqo_13, zqo_14, zqo_15, zqo_16, zqo_17, zqo_18, zqo_19, zqo_20, zqo_21, zqo_22, zqo_23, zqo_24, zqo_25, zqo_26, zqo_27, zqo_28, zqo_29, zqo_30, zqo_31, zqo_32, false_implies, true_implies, true_and, not_false_eq_true, h63]
    refine callPS hT t_proofmarkref01_moved (c_shl hT a b) rfl 1000 ?_
    simp -implicitDefEqProofs (disch := omega) only [go_sem, ↓reduceIte, reduceCtorEq, Nat.reduceEqDiff, Nat.le_refl, and_true]
  by_cases h12 : op = 12
  · subst h12
    simp -implicitDefEqProofs (disch := omega) only [go_sem, ↓reduceIte, reduceCtorEq, Nat.reduceAdd, Nat.reduceEqDiff, Int.reduceEq, Nat.zero_add, Nat.le_refl, beq_self_eq_true, proofmarkref01_Do, zqo_0, zqo_1, zqo_2, zqo_3, zqo_4, zqo_5, zqo_6, zqo_7, zqo_8, zqo_9, zqo_10, zqo_11, zqo_12, zqo_13, zqo_14, zqo_15, zqo_16, zqo_17, zqo_18, zqo_19, zqo_20, zqo_21, zqo_22, zqo_23, zqo_24, zqo_25, zqo_26, zqo_27, zqo_28, zqo_29, zqo_30, zqo_31, zqo_32, false_implies, true_implies, true_and, not_false_eq_true, h63]
    refine callPS hT t_proofmarkref01_moved (c_shr hT a b) rfl 1000 ?_
    simp -implicitDefEqProofs (disch := omega) only [go_sem, ↓reduceIte, reduceCtorEq, Nat.reduceEqDiff, Nat.le_refl, and_true]
  by_cases h13 : op = 13
  · subst h13
    simp -implicitDefEqProofs (disch := omega) only [go_sem, ↓reduceIte, reduceCtorEq, Nat.reduceAdd, Nat.reduceEqDiff, Int.reduceEq, Nat.zero_add, Nat.le_refl, beq_self_eq_true, proofmarkref01_Do, zqo_0, zqo_1, zqo_2, zqo_3, zqo_4, zqo_5, zqo_6, zqo_7, zqo_8, zqo_9, zqo_10, zqo_11, zqo_12, zqo_13, zqo_14, zqo_15, zqo_16, zqo_17, zqo_18, zqo_19, zqo_20, zqo_21, zqo_22, zqo_23, zqo_24, zqo_25, zqo_26, zqo_27, zqo_28, zqo_29, zqo_30, zqo_31, zqo_32, false_implies, true_implies, true_and, not_false_eq_true, h63]
    refine callPS hT t_proofmarkref01_bit (c_bit hT a (show 63 < 64 by omega)) rfl 1000 ?_
    simp -implicitDefEqProofs (disch := omega) only [go_sem, ↓reduceIte, reduceCtorEq, Nat.reduceEqDiff]
    refine callPS hT t_proofmarkref01_moved (c_sar hT a b ha) rfl 1000 ?_
    simp -implicitDefEqProofs (disch := omega) only [go_sem, ↓reduceIte, reduceCtorEq, Nat.reduceEqDiff, Nat.le_refl, and_true]
  by_cases h14 : op = 14
  · subst h14
    have hbl := c_below (P := P) (G := G) hT (xorI .i64 a (-9223372036854775808)) (xorI .i64 b (-9223372036854775808))
    rw [xor_min ha, xor_min hb] at hbl
    have e : decide (a + 9223372036854775808 < b + 9223372036854775808) = decide (a < b) := by rw [Bool.eq_iff_iff, decide_eq_true_eq, decide_eq_true_eq]; omega
    rw [e] at hbl
    have e2 : (if decide (a < b) = true then (1 : Int) else 0) = doW 14 a b := by
      show _ = (if a < b then 1 else 0)
      by_cases h : a < b <;> simp [h]
    simp -implicitDefEqProofs (disch := omega) only [go_sem, ↓reduceIte, reduceCtorEq, Nat.reduceAdd, Nat.reduceEqDiff, Int.reduceEq, Nat.zero_add, Nat.le_refl, beq_self_eq_true, proofmarkref01_Do, zqo_0, zqo_1, zqo_2, zqo_3, zqo_4, zqo_5, zqo_6, zqo_7, zqo_8, zqo_9, zqo_10, zqo_11, zqo_12, zqo_13, zqo_14, zqo_15, zqo_16, zqo_17, zqo_18, zqo_19, zqo_20, zqo_21, zqo_22, zqo_23, zqo_24, zqo_25, zqo_26, zqo_27, zqo_28, zqo_29, zqo_30, zqo_31, zqo_32, false_implies, true_implies, true_and, not_false_eq_true, h63]
    refine callPS hT t_proofmarkref01_below hbl rfl 1000 ?_
    simp -implicitDefEqProofs (disch := omega) only [go_sem, ↓reduceIte, reduceCtorEq, Nat.reduceEqDiff]
    refine callPS hT t_proofmarkref01_one (c_one hT _) rfl 1000 ?_
    simp -implicitDefEqProofs (disch := omega) only [go_sem, ↓reduceIte, reduceCtorEq, Nat.reduceEqDiff, Nat.le_refl, true_and]
    rfl
  by_cases h15 : op = 15
  · subst h15
    have e2 : (if decide (IntKind.u64.wrap a < IntKind.u64.wrap b) = true then (1 : Int) else 0) = doW 15 a b := by
      show _ = (if IntKind.u64.wrap a < IntKind.u64.wrap b then 1 else 0)
      by_cases h : IntKind.u64.wrap a < IntKind.u64.wrap b <;> simp [h]
    simp -implicitDefEqProofs (disch := omega) only [go_sem, ↓reduceIte, reduceCtorEq, Nat.reduceAdd, Nat.reduceEqDiff, Int.reduceEq, Nat.zero_add, Nat.le_refl, beq_self_eq_true, proofmarkref01_Do, zqo_0, zqo_1, zqo_2, zqo_3, zqo_4, zqo_5, zqo_6, zqo_7, zqo_8, zqo_9, zqo_10, zqo_11, zqo_12, zqo_13, zqo_14, zqo_15, zqo_16, zqo_17, zqo_18, zqo_19, zqo_20, zqo_21, zqo_22, zqo_23, zqo_24, zqo_25, zqo_26, zqo_27, zqo_28, zqo_29, zqo_30, zqo_31, zqo_32, false_implies, true_implies, true_and, not_false_eq_true, h63]
    refine callPS hT t_proofmarkref01_below (c_below hT a b) rfl 1000 ?_
    simp -implicitDefEqProofs (disch := omega) only [go_sem, ↓reduceIte, reduceCtorEq, Nat.reduceEqDiff]
    refine callPS hT t_proofmarkref01_one (c_one hT _) rfl 1000 ?_
    simp -implicitDefEqProofs (disch := omega) only [go_sem, ↓reduceIte, reduceCtorEq, Nat.reduceEqDiff, Nat.le_refl, true_and]
    rfl
  by_cases h16 : op = 16
  · subst h16
    have e2 : (if (a == b) = true then (1 : Int) else 0) = doW 16 a b := by
      show _ = (if a = b then 1 else 0)
      by_cases h : a = b <;> simp [h]
    simp -implicitDefEqProofs (disch := omega) only [go_sem, ↓reduceIte, reduceCtorEq, Nat.reduceAdd, Nat.reduceEqDiff, Int.reduceEq, Nat.zero_add, Nat.le_refl, beq_self_eq_true, proofmarkref01_Do, zqo_0, zqo_1, zqo_2, zqo_3, zqo_4, zqo_5, zqo_6, zqo_7, zqo_8, zqo_9, zqo_10, zqo_11, zqo_12, zqo_13, zqo_14, zqo_15, zqo_16, zqo_17, zqo_18, zqo_19, zqo_20, zqo_21, zqo_22, zqo_23, zqo_24, zqo_25, zqo_26, zqo_27, zqo_28, zqo_29, zqo_30, zqo_31, zqo_32, false_implies, true_implies, true_and, not_false_eq_true, h63]
    refine callPS hT t_proofmarkref01_one (c_one hT _) rfl 1000 ?_
    simp -implicitDefEqProofs (disch := omega) only [go_sem, ↓reduceIte, reduceCtorEq, Nat.reduceEqDiff, Nat.le_refl, true_and]
    rfl
  have e : doW op a b = 0 := by simp [doW, h1, h2, h3, h4, h5, h6, h7, h8, h9, h10, h11, h12, h13, h14, h15, h16]
  simp -implicitDefEqProofs (disch := omega) only [go_sem, ↓reduceIte, reduceCtorEq, Nat.reduceAdd, Nat.reduceEqDiff, Nat.zero_add, Nat.le_refl, proofmarkref01_Do, zqo_0, zqo_1, zqo_2, zqo_3, zqo_4, zqo_5, zqo_6, zqo_7, zqo_8, zqo_9, zqo_10, zqo_11, zqo_12, zqo_13, zqo_14, zqo_15, zqo_16, zqo_17, zqo_18, zqo_19, zqo_20, zqo_21, zqo_22, zqo_23, zqo_24, zqo_25, zqo_26, zqo_27, zqo_28, zqo_29, zqo_30, zqo_31, zqo_32, false_implies, true_implies, true_and, and_true, not_false_eq_true, h63, h1, h2, h3, h4, h5, h6, h7, h8, h9, h10, h11, h12, h13, h14, h15, h16, e]
end Go.Proofs.YtfligilbnpcnaaaGreatDoor

