/- What an operation makes: the program's word.Do, by operations. -/
import Derived.Test.YtfligilbnpcnaaaGreatDoorV1
namespace Go.Proofs.YtfligilbnpcnaaaGreatDoor
open Go Go.Am
set_option maxRecDepth 100000
set_option maxHeartbeats 1000000
variable {P : Program} {G : Nat → Option V}

def divS (a b : Int) : Int := if b = 0 then -1 else if b = -1 then IntKind.i64.wrap (0 - a) else IntKind.i64.wrap (a.tdiv b)
def remS (a b : Int) : Int := if b = 0 then a else if b = -1 then 0 else a.tmod b
def divN (a b : Int) : Int := if b = 0 then -1 else IntKind.i64.wrap (IntKind.u64.wrap ((IntKind.u64.wrap a).tdiv (IntKind.u64.wrap b)))
def remN (a b : Int) : Int := if b = 0 then a else IntKind.i64.wrap ((IntKind.u64.wrap a).tmod (IntKind.u64.wrap b))
/-- A function of two numbers that makes this number. -/
def Two (P : Program) (G : Nat → Option V) (f : Nat) (d : Int → Int → Int) : Prop := ∀ a b : Int, i64 a → i64 b → Pure P G f [.int .i64 a, .int .i64 b] fun v => v = .int .i64 (d a b)
theorem w_one (hT : TabOk P tab) (b : Bool) : Pure P G n_word_one [.bool b] fun v => v = .int .i64 (if b = true then 1 else 0) := by
  intro t
  refine C_keep 0 (Nat.zero_le _) (C_tab hT t_word_one (by simp [word_one]) (W_run 1000 ?_))
  cases b
  · simp -implicitDefEqProofs (disch := omega) only [go_sem, ↓reduceIte, reduceCtorEq, Nat.reduceEqDiff, Nat.le_refl, word_one, zq1x_0, zq1x_1, zq1x_2, zq1x_3, Bool.false_eq_true, and_true]
  · simp -implicitDefEqProofs (disch := omega) only [go_sem, ↓reduceIte, reduceCtorEq, Nat.reduceEqDiff, Nat.le_refl, word_one, zq1x_0, zq1x_1, zq1x_2, zq1x_3, and_true]
theorem wrap_rg (x : Int) : i64 (IntKind.i64.wrap x) := by
  simp [i64, IntKind.wrap, IntKind.signed, IntKind.bits]
  omega
theorem and63 (b : Int) : 0 ≤ andI IntKind.i64 b 63 := by
  have h1 : (BitVec.ofInt IntKind.i64.bits b &&& BitVec.ofInt IntKind.i64.bits 63).toNat ≤ 63 := by
    rw [BitVec.toNat_and]
    exact Nat.and_le_right
  rw [andI, wrap_i64 (by omega) (by omega)]
  omega
theorem w_div (hT : TabOk P tab) : Two P G n_word_div divS := by
  intro a b ha hb t
  refine C_keep 0 (Nat.zero_le _) (C_tab hT t_word_div (by simp [word_div]) (W_run 1000 ?_))
  by_cases h0 : b = 0
  · subst h0
    simp -implicitDefEqProofs (disch := omega) only [go_sem, ↓reduceIte, reduceCtorEq, Nat.reduceEqDiff, Nat.zero_add, Nat.le_refl, beq_self_eq_true, word_div, zq1m_0, zq1m_1, zq1m_2, zq1m_3, zq1m_4, zq1m_5, zq1m_6, divS]
  · by_cases h1 : b = -1
    · subst h1
      simp -implicitDefEqProofs (disch := omega) only [go_sem, ↓reduceIte, reduceCtorEq, Nat.reduceEqDiff, Nat.zero_add, Nat.le_refl, beq_self_eq_true, word_div, zq1m_0, zq1m_1, zq1m_2, zq1m_3, zq1m_4, zq1m_5, zq1m_6, divS, false_implies, true_implies, true_and, and_true]
    · have h0' : decide (b = 0) = false := by simpa using h0
      have h1' : decide (b = -1) = false := by simpa using h1
      simp -implicitDefEqProofs (disch := omega) only [go_sem, ↓reduceIte, reduceCtorEq, Nat.reduceEqDiff, Nat.zero_add, Nat.le_refl, word_div, zq1m_0, zq1m_1, zq1m_2, zq1m_3, zq1m_4, zq1m_5, zq1m_6, divS, h0, h1, false_implies, true_implies, true_and, and_true]
theorem w_rem (hT : TabOk P tab) : Two P G n_word_rem remS := by
  intro a b ha hb t
  refine C_keep 0 (Nat.zero_le _) (C_tab hT t_word_rem (by simp [word_rem]) (W_run 1000 ?_))
  by_cases h0 : b = 0
  · subst h0
    simp -implicitDefEqProofs (disch := omega) only [go_sem, ↓reduceIte, reduceCtorEq, Nat.reduceEqDiff, Nat.zero_add, Nat.le_refl, beq_self_eq_true, word_rem, zq1n_0, zq1n_1, zq1n_2, zq1n_3, zq1n_4, zq1n_5, zq1n_6, remS]
  · by_cases h1 : b = -1
    · subst h1
      simp -implicitDefEqProofs (disch := omega) only [go_sem, ↓reduceIte, reduceCtorEq, Nat.reduceEqDiff, Nat.zero_add, Nat.le_refl, beq_self_eq_true, word_rem, zq1n_0, zq1n_1, zq1n_2, zq1n_3, zq1n_4, zq1n_5, zq1n_6, remS, false_implies, true_implies, true_and, and_true]
    · have h0' : decide (b = 0) = false := by simpa using h0
      have h1' : decide (b = -1) = false := by simpa using h1
      simp -implicitDefEqProofs (disch := omega) only [go_sem, ↓reduceIte, reduceCtorEq, Nat.reduceEqDiff, Nat.zero_add, Nat.le_refl, word_rem, zq1n_0, zq1n_1, zq1n_2, zq1n_3, zq1n_4, zq1n_5, zq1n_6, remS, h0, h1, false_implies, true_implies, true_and, and_true]
theorem u64_ne {b : Int} (hb : i64 b) (h : b ≠ 0) : IntKind.u64.wrap b ≠ 0 := by
  unfold i64 at hb
  unfold IntKind.wrap
  simp only [IntKind.signed, IntKind.bits]
  omega
theorem w_divU (hT : TabOk P tab) : Two P G n_word_divU divN := by
  intro a b ha hb t
  refine C_keep 0 (Nat.zero_le _) (C_tab hT t_word_divU (by simp [word_divU]) (W_run 1000 ?_))
  by_cases h0 : b = 0
  · subst h0
    simp -implicitDefEqProofs (disch := omega) only [go_sem, ↓reduceIte, reduceCtorEq, Nat.reduceEqDiff, Nat.zero_add, Nat.le_refl, beq_self_eq_true, word_divU, zq1o_0, zq1o_1, zq1o_2, zq1o_3, divN]
  · have h2 := u64_ne hb h0
    simp -implicitDefEqProofs (disch := omega) only [go_sem, ↓reduceIte, reduceCtorEq, Nat.reduceEqDiff, Nat.zero_add, Nat.le_refl, word_divU, zq1o_0, zq1o_1, zq1o_2, zq1o_3, divN, h0, h2, false_implies, true_implies, true_and, and_true]
theorem w_remU (hT : TabOk P tab) : Two P G n_word_remU remN := by
  intro a b ha hb t
  refine C_keep 0 (Nat.zero_le _) (C_tab hT t_word_remU (by simp [word_remU]) (W_run 1000 ?_))
  by_cases h0 : b = 0
  · subst h0
    simp -implicitDefEqProofs (disch := omega) only [go_sem, ↓reduceIte, reduceCtorEq, Nat.reduceEqDiff, Nat.zero_add, Nat.le_refl, beq_self_eq_true, word_remU, zq1p_0, zq1p_1, zq1p_2, zq1p_3, remN]
  · have h2 := u64_ne hb h0
    simp -implicitDefEqProofs (disch := omega) only [go_sem, ↓reduceIte, reduceCtorEq, Nat.reduceEqDiff, Nat.zero_add, Nat.le_refl, word_remU, zq1p_0, zq1p_1, zq1p_2, zq1p_3, remN, h0, h2, false_implies, true_implies, true_and, and_true]
theorem w_S1 (hT : TabOk P tab) : Two P G n_word_of_S1 fun a b => IntKind.i64.wrap (a + b) := by
  intro a b ha hb t
  refine C_keep 0 (Nat.zero_le _) (C_tab hT t_word_of_S1 (by simp [word_of_S1]) (W_run 1000 ?_))
  simp -implicitDefEqProofs (disch := omega) only [go_sem, ↓reduceIte, reduceCtorEq, Nat.reduceEqDiff, Nat.zero_add, Nat.le_refl, word_of_S1, zq1j_0, zq1j_1]
theorem w_S2 (hT : TabOk P tab) : Two P G n_word_of_S2 fun a b => IntKind.i64.wrap (a - b) := by
  intro a b ha hb t
  refine C_keep 0 (Nat.zero_le _) (C_tab hT t_word_of_S2 (by simp [word_of_S2]) (W_run 1000 ?_))
  simp -implicitDefEqProofs (disch := omega) only [go_sem, ↓reduceIte, reduceCtorEq, Nat.reduceEqDiff, Nat.zero_add, Nat.le_refl, word_of_S2, zq1k_0, zq1k_1]
theorem w_S3 (hT : TabOk P tab) : Two P G n_word_of_S3 fun a b => IntKind.i64.wrap (a * b) := by
  intro a b ha hb t
  refine C_keep 0 (Nat.zero_le _) (C_tab hT t_word_of_S3 (by simp [word_of_S3]) (W_run 1000 ?_))
  simp -implicitDefEqProofs (disch := omega) only [go_sem, ↓reduceIte, reduceCtorEq, Nat.reduceEqDiff, Nat.zero_add, Nat.le_refl, word_of_S3, zq1l_0, zq1l_1]
theorem w_S4 (hT : TabOk P tab) : Two P G n_word_of_S4 fun a b => andI .i64 a b := by
  intro a b ha hb t
  refine C_keep 0 (Nat.zero_le _) (C_tab hT t_word_of_S4 (by simp [word_of_S4]) (W_run 1000 ?_))
  simp -implicitDefEqProofs (disch := omega) only [go_sem, ↓reduceIte, reduceCtorEq, Nat.reduceEqDiff, Nat.zero_add, Nat.le_refl, word_of_S4, zq1q_0, zq1q_1]
theorem w_S5 (hT : TabOk P tab) : Two P G n_word_of_S5 fun a b => orI .i64 a b := by
  intro a b ha hb t
  refine C_keep 0 (Nat.zero_le _) (C_tab hT t_word_of_S5 (by simp [word_of_S5]) (W_run 1000 ?_))
  simp -implicitDefEqProofs (disch := omega) only [go_sem, ↓reduceIte, reduceCtorEq, Nat.reduceEqDiff, Nat.zero_add, Nat.le_refl, word_of_S5, zq1r_0, zq1r_1]
theorem w_S6 (hT : TabOk P tab) : Two P G n_word_of_S6 fun a b => xorI .i64 a b := by
  intro a b ha hb t
  refine C_keep 0 (Nat.zero_le _) (C_tab hT t_word_of_S6 (by simp [word_of_S6]) (W_run 1000 ?_))
  simp -implicitDefEqProofs (disch := omega) only [go_sem, ↓reduceIte, reduceCtorEq, Nat.reduceEqDiff, Nat.zero_add, Nat.le_refl, word_of_S6, zq1s_0, zq1s_1]
theorem w_S7 (hT : TabOk P tab) : Two P G n_word_of_S7 fun a b => IntKind.i64.wrap (a * 2 ^ min (andI .i64 b 63).toNat 64) := by
  intro a b ha hb t
  refine C_keep 0 (Nat.zero_le _) (C_tab hT t_word_of_S7 (by simp [word_of_S7]) (W_run 1000 ?_))
  simp -implicitDefEqProofs (disch := omega) only [go_sem, ↓reduceIte, reduceCtorEq, Nat.reduceEqDiff, Nat.zero_add, Nat.le_refl, word_of_S7, zq1t_0, zq1t_1, and63]
theorem w_S8 (hT : TabOk P tab) : Two P G n_word_of_S8 fun a b => IntKind.i64.wrap ((IntKind.u64.wrap a).fdiv (2 ^ min (andI .i64 b 63).toNat 64)) := by
  intro a b ha hb t
  refine C_keep 0 (Nat.zero_le _) (C_tab hT t_word_of_S8 (by simp [word_of_S8]) (W_run 1000 ?_))
  simp -implicitDefEqProofs (disch := omega) only [go_sem, ↓reduceIte, reduceCtorEq, Nat.reduceEqDiff, Nat.zero_add, Nat.le_refl, word_of_S8, zq1u_0, zq1u_1, and63]
theorem w_S9 (hT : TabOk P tab) : Two P G n_word_of_S9 fun a b => a.fdiv (2 ^ min (andI .i64 b 63).toNat 64) := by
  intro a b ha hb t
  refine C_keep 0 (Nat.zero_le _) (C_tab hT t_word_of_S9 (by simp [word_of_S9]) (W_run 1000 ?_))
  simp -implicitDefEqProofs (disch := omega) only [go_sem, ↓reduceIte, reduceCtorEq, Nat.reduceEqDiff, Nat.zero_add, Nat.le_refl, word_of_S9, zq1v_0, zq1v_1, and63]
theorem w_S10 (hT : TabOk P tab) : Two P G n_word_of_S10 fun a b => if a < b then 1 else 0 := by
  intro a b ha hb t
  refine C_keep 0 (Nat.zero_le _) (C_tab hT t_word_of_S10 (by simp [word_of_S10]) (W_run 1000 ?_))
  simp -implicitDefEqProofs (disch := omega) only [go_sem, ↓reduceIte, reduceCtorEq, Nat.reduceEqDiff, Nat.zero_add, word_of_S10, zq1w_0, zq1w_1]
  refine callPS hT t_word_one (w_one hT _) rfl 1000 ?_
  simp -implicitDefEqProofs (disch := omega) only [go_sem, ↓reduceIte, reduceCtorEq, Nat.reduceEqDiff, Nat.le_refl, decide_eq_true_eq]
theorem w_S11 (hT : TabOk P tab) : Two P G n_word_of_S11 fun a b => if IntKind.u64.wrap a < IntKind.u64.wrap b then 1 else 0 := by
  intro a b ha hb t
  refine C_keep 0 (Nat.zero_le _) (C_tab hT t_word_of_S11 (by simp [word_of_S11]) (W_run 1000 ?_))
  simp -implicitDefEqProofs (disch := omega) only [go_sem, ↓reduceIte, reduceCtorEq, Nat.reduceEqDiff, Nat.zero_add, word_of_S11, zq1y_0, zq1y_1]
  refine callPS hT t_word_one (w_one hT _) rfl 1000 ?_
  simp -implicitDefEqProofs (disch := omega) only [go_sem, ↓reduceIte, reduceCtorEq, Nat.reduceEqDiff, Nat.le_refl, decide_eq_true_eq]
theorem w_S12 (hT : TabOk P tab) : Two P G n_word_of_S12 fun a b => if a = b then 1 else 0 := by
  intro a b ha hb t
  refine C_keep 0 (Nat.zero_le _) (C_tab hT t_word_of_S12 (by simp [word_of_S12]) (W_run 1000 ?_))
  simp -implicitDefEqProofs (disch := omega) only [go_sem, ↓reduceIte, reduceCtorEq, Nat.reduceEqDiff, Nat.zero_add, word_of_S12, zq1z_0, zq1z_1]
  refine callPS hT t_word_one (w_one hT _) rfl 1000 ?_
  simp -implicitDefEqProofs (disch := omega) only [go_sem, ↓reduceIte, reduceCtorEq, Nat.reduceEqDiff, Nat.le_refl]
end Go.Proofs.YtfligilbnpcnaaaGreatDoor

