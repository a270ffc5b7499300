/- The document's texts of instructions: walked. -/
import Derived.Test.YtkhdfbokkneeaaaDoorRw16
import Derived.Test.YtkhdfbokkneeaaaDoorAmD
namespace Go.Proofs.YtkhdfbokkneeaaaDoor
open Go Go.Am Go.Rv
set_option maxRecDepth 100000
variable {P : Program} {G : Nat → Option V}

theorem fmt_neg {n : Int} (h : i64 n) (hn : n < 0) (hm : n ≠ -9223372036854775808) : fmt10 n = 45 :: fmt10 (-n) := by
  have h1 : i64 (-n) := by simp only [i64] at h ⊢; omega
  have e1 : fmt10 n = Lib.itoa n := by unfold fmt10; exact if_pos h
  have e2 : fmt10 (-n) = Lib.itoa (-n) := by unfold fmt10; exact if_pos h1
  rw [e1, e2, Lib.itoa, if_pos hn, Lib.itoa, if_neg (by omega)]
  congr 2
  omega
theorem fmt_pos {n : Int} (h : i64 n) (hn : 0 ≤ n) : fmt10 n = Lib.decDigits n.toNat := by
  have e1 : fmt10 n = Lib.itoa n := by unfold fmt10; exact if_pos h
  rw [e1, Lib.itoa, if_neg (by omega)]
/-- What is left of a number, and the digits behind. -/
def dgs (n0 k : Nat) (s : List UInt8) : Prop := (s = [] ∧ k = n0) ∨ (s ≠ [] ∧ ((0 < k ∧ Lib.decDigits n0 = Lib.decDigits k ++ s) ∨ (k = 0 ∧ Lib.decDigits n0 = s)))
theorem dgs_step {n0 k : Nat} {s : List UInt8} (h : dgs n0 k s) (hk : 0 < k ∨ s = []) : dgs n0 (k / 10) (UInt8.ofNat (48 + k % 10) :: s) := by
  refine .inr ⟨by simp, ?_⟩
  have hd : Lib.decDigits n0 = Lib.decDigits k ++ s := by
    rcases h with ⟨rfl, rfl⟩ | ⟨hs, ⟨h0, h1⟩ | ⟨h0, h1⟩⟩
    · simp
    · exact h1
    · rcases hk with hk | hk
      · omega
      · exact absurd hk hs
  by_cases hlt : k < 10
  · have e : Lib.decDigits k = [UInt8.ofNat (48 + k)] := by rw [Lib.decDigits, dif_pos hlt]
    refine .inr ⟨by omega, ?_⟩
    rw [hd, e, Nat.mod_eq_of_lt hlt]; rfl
  · have e : Lib.decDigits k = Lib.decDigits (k / 10) ++ [UInt8.ofNat (48 + k % 10)] := by rw [Lib.decDigits, dif_neg hlt]
    refine .inl ⟨by omega, ?_⟩
    rw [hd, e, List.append_assoc]; rfl
theorem dgs_end {n0 : Nat} {s : List UInt8} (h : dgs n0 0 s) (hs : s ≠ []) : s = Lib.decDigits n0 := by
  rcases h with ⟨h, _⟩ | ⟨_, ⟨h0, _⟩ | ⟨_, h⟩⟩
  · exact absurd h hs
  · omega
  · exact h.symm
def ten : List UInt8 := [48, 49, 50, 51, 52, 53, 54, 55, 56, 57]
theorem ten_at : ∀ k : Nat, k < 10 → List.take (k + 1 - k) (List.drop k ten) = [UInt8.ofNat (48 + k)] := by decide

abbrev dgJ (t n0 : Nat) : Nat → Fr → H → Prop := fun m fr σ => ∃ k s, dgs n0 k s ∧ k ≤ n0 ∧ m = (if s = [] then k + 1 else k) ∧ fget fr 0 = .int .i64 ((k : Nat) : Int) ∧ fget fr 3 = .str s ∧ σ = ⟨t, []⟩
abbrev dgE (n0 : Nat) : AE → Fr → H → Prop := fun e fr _ => e = .ex 0 ∧ fget fr 3 = .str (Lib.decDigits n0)
theorem dg_round (hT : TabOk P tab) {t n0 : Nat} (hn : (n0 : Int) ≤ 9223372036854775807) (hL : (Lib.decDigits n0).length ≤ 100) {m : Nat} {fr : Fr} {σ : H} (hJ : dgJ t n0 m fr σ) :
    W P G 28 0 (AC.seq (AC.seq (AC.reg proofmarkref10_digits_r4 [11, 12, 13, 14, 15])   (AC.cond (Arg.t 16)   AC.skip   (AC.exit 0)))   (AC.block 1 (AC.seq (AC.reg proofmarkref10_digits_r5 [17, 18])   (AC.seq (AC.reg proofmarkref10_digits_r6 [19, 20, 21, 22, 23, 24])   (AC.reg proofmarkref10_digits_r7 [25, 26]))))) fr σ (seqQ (fun fr σ => ∃ m' fr' σ', m' < m ∧ Shift G 28 0 fr σ fr' σ' ∧ dgJ t n0 m' fr' σ') (dgE n0)) := by
  obtain ⟨k, s, hd, hk, rfl, f0, f3, rfl⟩ := hJ
  by_cases hgo : 0 < k ∨ s = []
  · have hst := dgs_step hd hgo
    have hr : (k : Int).tmod 10 = ((k % 10 : Nat) : Int) := rfl
    have hq : (k : Int).tdiv 10 = ((k / 10 : Nat) : Int) := rfl
    have h10 : k % 10 < 10 := by omega
    have ht := ten_at (k % 10) h10
    simp only [ten] at ht
    have hsl : s.length ≤ 100 := by
      rcases hd with ⟨rfl, _⟩ | ⟨_, ⟨_, h⟩ | ⟨_, h⟩⟩
      · simp
      · rw [h, List.length_append] at hL; omega
      · rw [h] at hL; exact hL
    have h11 : ([UInt8.ofNat (48 + k % 10)] ++ s).length ≤ 9223372036854775807 := by simp; omega
    have e1 : IntKind.i64.wrap (((k % 10 : Nat) : Int) + 1) = ((k % 10 + 1 : Nat) : Int) := by
      rw [wrap_id] <;> simp [IntKind.min, IntKind.max, IntKind.signed, IntKind.bits] <;> omega
    have e2 : IntKind.i64.wrap ((k / 10 : Nat) : Int) = ((k / 10 : Nat) : Int) := by
      rw [wrap_id] <;> simp [IntKind.min, IntKind.max, IntKind.signed, IntKind.bits] <;> omega
    have e3 : IntKind.i64.wrap ((k % 10 : Nat) : Int) = ((k % 10 : Nat) : Int) := by
      rw [wrap_id] <;> simp [IntKind.min, IntKind.max, IntKind.signed, IntKind.bits] <;> omega
    by_cases h0 : 0 < k
    · have h0' : (0 : Int) < (k : Int) := by omega
      have h0'' : decide ((0 : Int) < (k : Int)) = true := decide_eq_true h0'
      refine W_round [(0, .int .i64 ((k : Nat) : Int)), (3, .str s)] ⟨f0, f3, trivial⟩  14 ?_
      simp -implicitDefEqProofs (disch := omega) only [go_sem, ↓reduceIte, reduceCtorEq, Nat.reduceEqDiff, decide_true, gt_iff_lt, proofmarkref10_digits_r4, proofmarkref10_digits_r5, proofmarkref10_digits_r6, proofmarkref10_digits_r7, h0']
      iterate 9 (try (refine run_sem 4 ?_; simp -implicitDefEqProofs (disch := omega) only [go_sem, need_of, ↓reduceIte, reduceCtorEq, Nat.reduceAdd, Nat.reduceEqDiff, Nat.reduceLeDiff, Int.reduceEq, Nat.zero_add, and_true, not_false_eq_true, hr, hq, e1, e2, ht, List.cons_append, List.nil_append, List.length_cons, List.length_nil]))
      refine ⟨k / 10, _, _, ?_, Shift.refl _ _ _ _, k / 10, UInt8.ofNat (48 + k % 10) :: s, hst, by omega, by simp, ?_⟩
      · split <;> omega
      · simp -implicitDefEqProofs (disch := omega) only [go_sem, ↓reduceIte, reduceCtorEq, and_true]
    · have hs : s = [] := hgo.resolve_left h0
      have hk0 : k = 0 := by omega
      subst hs hk0
      have hb : (([] : List UInt8) == []) = true := rfl
      refine W_round [(0, .int .i64 0), (3, .str [])] ⟨f0, f3, trivial⟩  14 ?_
      have q1 : Int.tmod 0 10 = 0 := rfl
      have q2 : IntKind.i64.wrap (0 + 1) = 1 := by decide
      have q3 : Int.tdiv 0 10 = 0 := rfl
      have q4 : IntKind.i64.wrap 0 = 0 := by decide
      simp -implicitDefEqProofs (disch := omega) only [go_sem, ↓reduceIte, reduceCtorEq, Nat.reduceAdd, Nat.reduceEqDiff, Nat.zero_add, decide_false, gt_iff_lt, beq_self_eq_true, proofmarkref10_digits_r4, proofmarkref10_digits_r5, proofmarkref10_digits_r6, proofmarkref10_digits_r7, Int.lt_irrefl]
      iterate 9 (try (refine run_sem 4 ?_; simp -implicitDefEqProofs (disch := omega) only [go_sem, ↓reduceIte, reduceCtorEq, Nat.reduceAdd, Nat.reduceEqDiff, Nat.reduceLeDiff, Nat.reduceSub, Int.reduceToNat, Int.reduceLE, Int.reduceEq, Nat.zero_add, Nat.add_zero, and_true, not_false_eq_true, q1, q2, q3, q4, List.drop_zero, List.take_succ_cons, List.take_zero, List.cons_append, List.nil_append, List.length_cons, List.length_nil]))
      refine ⟨0, _, _, by simp, Shift.refl _ _ _ _, 0, [48], hst, by omega, by simp, ?_⟩
      simp -implicitDefEqProofs (disch := omega) only [go_sem, ↓reduceIte, reduceCtorEq, and_true]
      simp
  · have hk0 : k = 0 := by omega
    have hs : s ≠ [] := fun h => hgo (.inr h)
    subst hk0
    have hend := dgs_end hd hs
    have hb : (s == []) = false := by simpa using hs
    refine W_round [(0, .int .i64 0), (3, .str s)] ⟨f0, f3, trivial⟩  14 ?_
    simp -implicitDefEqProofs (disch := omega) only [go_sem, ↓reduceIte, reduceCtorEq, Nat.reduceAdd, Nat.reduceEqDiff, decide_false, gt_iff_lt, proofmarkref10_digits_r4, proofmarkref10_digits_r5, proofmarkref10_digits_r6, proofmarkref10_digits_r7, Int.lt_irrefl, hb, hs]
    iterate 9 (try (refine run_sem 4 ?_; simp -implicitDefEqProofs (disch := omega) only [go_sem, need_of, ↓reduceIte, reduceCtorEq, Nat.reduceAdd, Nat.reduceEqDiff, Nat.reduceLeDiff, Nat.reduceLT, Nat.reduceSub, Nat.reduceMul, Int.reduceToNat, Int.reduceLE, Int.reduceLT, Int.reduceEq, Int.reduceNe, Nat.succ_ne_zero, Nat.zero_add, Nat.add_zero, Nat.mul_one, Nat.one_mul, Nat.zero_mul, decide_true, decide_false, Bool.not_true, Bool.not_false, Nat.le_refl, Nat.zero_le, ge_iff_le, gt_iff_lt, Nat.reduceBEq, Nat.reduceBNe, beq_self_eq_true, bne_self_eq_false, Option.isSome_some, Option.isSome_none, Option.getD_some, Option.getD_none, proofmarkref10_digits, proofmarkref10_digits_r0, proofmarkref10_digits_r1, proofmarkref10_digits_r2, proofmarkref10_digits_r3, proofmarkref10_digits_r4, proofmarkref10_digits_r5, proofmarkref10_digits_r6, proofmarkref10_digits_r7, proofmarkref10_digits_r8, false_implies, true_implies, true_and, and_true, not_true_eq_false, not_false_eq_true, hb, hs]))
    exact ⟨rfl, by rw [← hend]; rfl⟩
theorem c_digits_pos (hT : TabOk P tab) (n : Int) (hn : 0 ≤ n ∧ n ≤ 9223372036854775807) : Pure P G n_proofmarkref10_digits [.int .i64 n] fun u => u = .str (fmt10 n) := by
  intro t
  have hf := fmt_pos (n := n) (by simp only [i64]; omega) hn.1
  have hL := fmt10_le n
  rw [hf] at hL ⊢
  have hneg : ¬ n < 0 := by omega
  obtain ⟨k, rfl⟩ := Int.eq_ofNat_of_zero_le hn.1
  rw [Int.toNat_natCast] at hL ⊢
  refine C_keep 0 (Nat.zero_le _) (C_tab hT t_proofmarkref10_digits (by simp [proofmarkref10_digits]) (W_run 1000 ?_))
  simp -implicitDefEqProofs (disch := omega) only [go_sem, ↓reduceIte, reduceCtorEq, Nat.reduceEqDiff, decide_false, proofmarkref10_digits, proofmarkref10_digits_r0, proofmarkref10_digits_r1, proofmarkref10_digits_r2, proofmarkref10_digits_r3, proofmarkref10_digits_r4, proofmarkref10_digits_r5, proofmarkref10_digits_r6, proofmarkref10_digits_r7, proofmarkref10_digits_r8, hneg]
  refine sem_invE (dgJ t k) (dgE k) (m0 := k + 1) ⟨k, [], .inl ⟨rfl, rfl⟩, Nat.le_refl _, by simp, ?_⟩ (fun m fr σ hJ => dg_round hT (by omega) (by omega) hJ) (fun e fr σ hE => ?_)
  · simp -implicitDefEqProofs (disch := omega) only [go_sem, ↓reduceIte, reduceCtorEq, Nat.reduceEqDiff, and_true]
    try simp
  · obtain ⟨rfl, f3⟩ := hE
    refine run_sem 1000 ?_
    simp -implicitDefEqProofs (disch := omega) only [go_sem, ↓reduceIte, Nat.reduceEqDiff, Nat.zero_le, and_true, f3]
theorem c_digits (hT : TabOk P tab) (n : Int) (hn : -9223372036854775808 < n ∧ n ≤ 9223372036854775807) : Pure P G n_proofmarkref10_digits [.int .i64 n] fun u => u = .str (fmt10 n) := by
  by_cases h : n < 0
  · intro t
    have hf := fmt_neg (n := n) (by simp only [i64]; omega) h (by omega)
    have hp := c_digits_pos (P := P) (G := G) hT (-n) (by omega)
    have e : IntKind.i64.wrap (0 - n) = -n := by
      rw [wrap_id] <;> simp [IntKind.min, IntKind.max, IntKind.signed, IntKind.bits] <;> omega
    have hL := fmt10_le (-n)
    rw [hf]
    refine C_keep 0 (Nat.zero_le _) (C_tab hT t_proofmarkref10_digits (by simp [proofmarkref10_digits]) (W_run 1000 ?_))
    simp -implicitDefEqProofs (disch := omega) only [go_sem, ↓reduceIte, reduceCtorEq, Nat.reduceEqDiff, decide_true, proofmarkref10_digits, proofmarkref10_digits_r0, proofmarkref10_digits_r1, proofmarkref10_digits_r2, proofmarkref10_digits_r3, proofmarkref10_digits_r4, proofmarkref10_digits_r5, proofmarkref10_digits_r6, proofmarkref10_digits_r7, proofmarkref10_digits_r8, h, e]
    refine callPS hT t_proofmarkref10_digits hp rfl 1000 ?_
    simp -implicitDefEqProofs (disch := omega) only [go_sem, need_of, ↓reduceIte, reduceCtorEq, Nat.reduceEqDiff, Nat.zero_add, Nat.le_refl, and_true, List.cons_append, List.nil_append, List.length_cons, List.length_nil]
  · exact c_digits_pos hT n (by omega)
end Go.Proofs.YtkhdfbokkneeaaaDoor
