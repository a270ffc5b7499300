/- The document's rows and numbers: walked. -/
import Derived.Test.YtkhdfbokkneeaaaDoorRw6
import Derived.Test.YtkhdfbokkneeaaaDoorAmD
namespace Go.Proofs.YtkhdfbokkneeaaaDoor
open Go Go.Am Go.Rv
set_option maxRecDepth 100000
variable {P : Program} {G : Nat → Option V}

theorem c_signed (hT : TabOk P tab) (n : Int) (b : Nat) (h0 : 0 ≤ n) (h1 : n < 4294967296) (hb : 1 ≤ b) (hb2 : b ≤ 32) : Pure P G n_proofmarkref10_signed [.int .i64 n, .int .i64 b] fun v => v = .int .i64 (sgn n b) := by
  intro t
  obtain ⟨p1, p2⟩ := pow_lt (b - 1) 31 (by omega)
  obtain ⟨q1, q2⟩ := pow_lt b 32 hb2
  have e1 : IntKind.i64.wrap ((b : Int) - 1) = ((b - 1 : Nat) : Int) := by rw [wrap_i64 (by omega) (by omega)]; omega
  have e2 : min (b - 1) 64 = b - 1 := by omega
  have e3 : min b 64 = b := by omega
  have e4 : IntKind.i64.wrap (1 * 2 ^ (b - 1)) = 2 ^ (b - 1) := by rw [Int.one_mul]; exact wrap_i64 (by omega) (by omega)
  have e5 : IntKind.i64.wrap (1 * 2 ^ b) = 2 ^ b := by rw [Int.one_mul]; exact wrap_i64 (by omega) (by omega)
  have e6 : IntKind.i64.wrap (n - 2 ^ b) = n - 2 ^ b := wrap_i64 (by omega) (by omega)
  refine C_keep 0 (Nat.zero_le _) (C_tab hT t_proofmarkref10_signed (by simp [proofmarkref10_signed]) (W_run 1000 ?_))
  simp -implicitDefEqProofs (disch := omega) only [go_sem, need_of, ↓reduceIte, reduceCtorEq, Nat.reduceEqDiff, Nat.zero_add, Nat.le_refl, ge_iff_le, proofmarkref10_signed, proofmarkref10_signed_r0, proofmarkref10_signed_r1, proofmarkref10_signed_r2, proofmarkref10_signed_r3, e1, e2, e3, e4, e5, e6, Int.toNat_natCast]
  unfold sgn
  refine ⟨fun h => ?_, fun h => ?_⟩
  · rw [if_pos h]
  · rw [if_neg h]

theorem c_is (hT : TabOk P tab) (w : Int) (hw : u32 w) {r : RR} (hg : good r = true) : Pure P G n_proofmarkref10_is [.int .u32 w, .agg (rrC r)] fun v => v = .bool (is w r) := by
  intro t
  have hf := forms hg
  have g1 := c_field (G := G) hT w 0 7 hw (by omega) (by omega)
  have g2 := c_field (G := G) hT w 12 3 hw (by omega) (by omega)
  have g3 := c_field (G := G) hT w 26 6 hw (by omega) (by omega)
  have g4 := c_field (G := G) hT w 25 7 hw (by omega) (by omega)
  have bdec : ∀ a b : Int, (a == b) = decide (a = b) := fun a b => rfl
  have sdec : ∀ a b : List UInt8, (a == b) = decide (a = b) := fun a b => by rw [Bool.eq_iff_iff]; simp
  have fin : ∀ b : Bool, b = is w r → V.bool b = V.bool (is w r) := fun b h => by rw [h]
  have gg := hg
  simp only [good, Bool.and_eq_true, decide_eq_true_eq] at gg
  have shr1 : r.f7.fdiv (2 ^ min 1 32) = r.f7 / 2 := by rw [Int.fdiv_eq_ediv_of_nonneg _ (by decide)]; rfl
  rcases hf with hq | hq | hq | hq | hq | hq | hq | hq | hq
  · have isE : is w r = decide (fld w 0 7 = r.code ∧ fld w 12 3 = r.f3 ∧ fld w 25 7 = r.f7) := by unfold is; simp [hq]
    refine C_keep 0 (Nat.zero_le _) (C_tab hT t_proofmarkref10_is (by simp [proofmarkref10_is]) (W_run 1000 ?_))
    simp -implicitDefEqProofs (disch := omega) only [go_sem, ↓reduceIte, reduceCtorEq, Nat.reduceAdd, Nat.reduceEqDiff, Nat.reduceLeDiff, Nat.zero_add, Nat.add_zero, beq_self_eq_true, proofmarkref10_is, proofmarkref10_is_r0, proofmarkref10_is_r1, proofmarkref10_is_r2, proofmarkref10_is_r3, proofmarkref10_is_r4, proofmarkref10_is_r5, proofmarkref10_is_r6, proofmarkref10_is_r7, proofmarkref10_is_r8, proofmarkref10_is_r9, proofmarkref10_is_r10, proofmarkref10_is_r11, proofmarkref10_is_r12, rrC, hq, Int.reduceBEq]
    refine callP hT t_proofmarkref10_field g1 rfl 1000 fun v hv => ?_
    subst hv
    simp -implicitDefEqProofs (disch := omega) only [go_sem, ↓reduceIte, reduceCtorEq, Nat.reduceAdd, Nat.reduceEqDiff, Nat.reduceLeDiff, Nat.zero_add, Nat.zero_le]
    refine ⟨fun h0 => ?_, fun h0 => fin _ (by rw [isE]; simp [*])⟩
    refine callP hT t_proofmarkref10_field g2 rfl 1000 fun v hv => ?_
    subst hv
    simp -implicitDefEqProofs (disch := omega) only [go_sem, ↓reduceIte, reduceCtorEq, Nat.reduceAdd, Nat.reduceEqDiff, Nat.zero_add, Nat.le_refl, Nat.zero_le]
    refine ⟨fun h1 => ?_, fun h1 => fin _ (by rw [isE]; simp [*])⟩
    refine callP hT t_proofmarkref10_field g4 rfl 1000 fun v hv => ?_
    subst hv
    simp -implicitDefEqProofs (disch := omega) only [go_sem, ↓reduceIte, reduceCtorEq, Nat.reduceAdd, Nat.reduceEqDiff, Nat.zero_add, Nat.zero_le]
    exact fin _ (by rw [isE]; simp [*])
  · have isE : is w r = decide (fld w 0 7 = r.code ∧ fld w 12 3 = r.f3 ∧ fld w 25 7 = r.f7) := by unfold is; simp [hq]
    refine C_keep 0 (Nat.zero_le _) (C_tab hT t_proofmarkref10_is (by simp [proofmarkref10_is]) (W_run 1000 ?_))
    simp -implicitDefEqProofs (disch := omega) only [go_sem, ↓reduceIte, reduceCtorEq, Nat.reduceAdd, Nat.reduceEqDiff, Nat.reduceLeDiff, Nat.zero_add, Nat.add_zero, beq_self_eq_true, proofmarkref10_is, proofmarkref10_is_r0, proofmarkref10_is_r1, proofmarkref10_is_r2, proofmarkref10_is_r3, proofmarkref10_is_r4, proofmarkref10_is_r5, proofmarkref10_is_r6, proofmarkref10_is_r7, proofmarkref10_is_r8, proofmarkref10_is_r9, proofmarkref10_is_r10, proofmarkref10_is_r11, proofmarkref10_is_r12, rrC, hq, Int.reduceBEq]
    refine callP hT t_proofmarkref10_field g1 rfl 1000 fun v hv => ?_
    subst hv
    simp -implicitDefEqProofs (disch := omega) only [go_sem, ↓reduceIte, reduceCtorEq, Nat.reduceAdd, Nat.reduceEqDiff, Nat.reduceLeDiff, Nat.zero_add, Nat.zero_le]
    refine ⟨fun h0 => ?_, fun h0 => fin _ (by rw [isE]; simp [*])⟩
    refine callP hT t_proofmarkref10_field g2 rfl 1000 fun v hv => ?_
    subst hv
    simp -implicitDefEqProofs (disch := omega) only [go_sem, ↓reduceIte, reduceCtorEq, Nat.reduceAdd, Nat.reduceEqDiff, Nat.zero_add, Nat.le_refl, Nat.zero_le]
    refine ⟨fun h1 => ?_, fun h1 => fin _ (by rw [isE]; simp [*])⟩
    refine callP hT t_proofmarkref10_field g4 rfl 1000 fun v hv => ?_
    subst hv
    simp -implicitDefEqProofs (disch := omega) only [go_sem, ↓reduceIte, reduceCtorEq, Nat.reduceAdd, Nat.reduceEqDiff, Nat.zero_add, Nat.zero_le]
    exact fin _ (by rw [isE]; simp [*])
  · have isE : is w r = decide (fld w 0 7 = r.code ∧ fld w 12 3 = r.f3) := by unfold is; simp [hq]
    refine C_keep 0 (Nat.zero_le _) (C_tab hT t_proofmarkref10_is (by simp [proofmarkref10_is]) (W_run 1000 ?_))
    simp -implicitDefEqProofs (disch := omega) only [go_sem, ↓reduceIte, reduceCtorEq, Nat.reduceAdd, Nat.reduceEqDiff, Nat.reduceLeDiff, Nat.zero_add, Nat.add_zero, proofmarkref10_is, proofmarkref10_is_r0, proofmarkref10_is_r1, proofmarkref10_is_r2, proofmarkref10_is_r3, proofmarkref10_is_r4, proofmarkref10_is_r5, proofmarkref10_is_r6, proofmarkref10_is_r7, proofmarkref10_is_r8, proofmarkref10_is_r9, proofmarkref10_is_r10, proofmarkref10_is_r11, proofmarkref10_is_r12, rrC, hq, Int.reduceBEq]
    refine callP hT t_proofmarkref10_field g1 rfl 1000 fun v hv => ?_
    subst hv
    simp -implicitDefEqProofs (disch := omega) only [go_sem, ↓reduceIte, reduceCtorEq, Nat.reduceAdd, Nat.reduceEqDiff, Nat.reduceLeDiff, Nat.zero_add, Nat.zero_le]
    refine ⟨fun h0 => ?_, fun h0 => fin _ (by rw [isE]; simp [*])⟩
    refine callP hT t_proofmarkref10_field g2 rfl 1000 fun v hv => ?_
    subst hv
    simp -implicitDefEqProofs (disch := omega) only [go_sem, ↓reduceIte, reduceCtorEq, Nat.reduceAdd, Nat.reduceEqDiff, Nat.zero_add, Nat.zero_le]
    exact fin _ (by rw [isE]; simp [*])
  · have isE : is w r = decide (fld w 0 7 = r.code ∧ fld w 12 3 = r.f3 ∧ fld w 26 6 = r.f7 / 2) := by unfold is; simp [hq]
    refine C_keep 0 (Nat.zero_le _) (C_tab hT t_proofmarkref10_is (by simp [proofmarkref10_is]) (W_run 1000 ?_))
    simp -implicitDefEqProofs (disch := omega) only [go_sem, ↓reduceIte, reduceCtorEq, Nat.reduceAdd, Nat.reduceEqDiff, Nat.reduceLeDiff, Nat.zero_add, Nat.add_zero, beq_self_eq_true, proofmarkref10_is, proofmarkref10_is_r0, proofmarkref10_is_r1, proofmarkref10_is_r2, proofmarkref10_is_r3, proofmarkref10_is_r4, proofmarkref10_is_r5, proofmarkref10_is_r6, proofmarkref10_is_r7, proofmarkref10_is_r8, proofmarkref10_is_r9, proofmarkref10_is_r10, proofmarkref10_is_r11, proofmarkref10_is_r12, rrC, hq, Int.reduceBEq]
    refine callP hT t_proofmarkref10_field g1 rfl 1000 fun v hv => ?_
    subst hv
    simp -implicitDefEqProofs (disch := omega) only [go_sem, ↓reduceIte, reduceCtorEq, Nat.reduceAdd, Nat.reduceEqDiff, Nat.reduceLeDiff, Nat.zero_add, Nat.zero_le]
    refine ⟨fun h0 => ?_, fun h0 => fin _ (by rw [isE]; simp [*])⟩
    refine callP hT t_proofmarkref10_field g2 rfl 1000 fun v hv => ?_
    subst hv
    simp -implicitDefEqProofs (disch := omega) only [go_sem, ↓reduceIte, reduceCtorEq, Nat.reduceAdd, Nat.reduceEqDiff, Int.reduceToNat, Int.reduceLE, Nat.zero_add, Nat.le_refl, Nat.zero_le, shr1]
    refine ⟨fun h1 => ?_, fun h1 => fin _ (by rw [isE]; simp [*])⟩
    refine callP hT t_proofmarkref10_field g3 rfl 1000 fun v hv => ?_
    subst hv
    simp -implicitDefEqProofs (disch := omega) only [go_sem, ↓reduceIte, reduceCtorEq, Nat.reduceAdd, Nat.reduceEqDiff, Nat.zero_add, Nat.zero_le]
    exact fin _ (by rw [isE]; simp [*])
  · have isE : is w r = decide (fld w 0 7 = r.code ∧ fld w 12 3 = r.f3) := by unfold is; simp [hq]
    refine C_keep 0 (Nat.zero_le _) (C_tab hT t_proofmarkref10_is (by simp [proofmarkref10_is]) (W_run 1000 ?_))
    simp -implicitDefEqProofs (disch := omega) only [go_sem, ↓reduceIte, reduceCtorEq, Nat.reduceAdd, Nat.reduceEqDiff, Nat.reduceLeDiff, Nat.zero_add, Nat.add_zero, proofmarkref10_is, proofmarkref10_is_r0, proofmarkref10_is_r1, proofmarkref10_is_r2, proofmarkref10_is_r3, proofmarkref10_is_r4, proofmarkref10_is_r5, proofmarkref10_is_r6, proofmarkref10_is_r7, proofmarkref10_is_r8, proofmarkref10_is_r9, proofmarkref10_is_r10, proofmarkref10_is_r11, proofmarkref10_is_r12, rrC, hq, Int.reduceBEq]
    refine callP hT t_proofmarkref10_field g1 rfl 1000 fun v hv => ?_
    subst hv
    simp -implicitDefEqProofs (disch := omega) only [go_sem, ↓reduceIte, reduceCtorEq, Nat.reduceAdd, Nat.reduceEqDiff, Nat.reduceLeDiff, Nat.zero_add, Nat.zero_le]
    refine ⟨fun h0 => ?_, fun h0 => fin _ (by rw [isE]; simp [*])⟩
    refine callP hT t_proofmarkref10_field g2 rfl 1000 fun v hv => ?_
    subst hv
    simp -implicitDefEqProofs (disch := omega) only [go_sem, ↓reduceIte, reduceCtorEq, Nat.reduceAdd, Nat.reduceEqDiff, Nat.zero_add, Nat.zero_le]
    exact fin _ (by rw [isE]; simp [*])
  · have isE : is w r = decide (fld w 0 7 = r.code ∧ fld w 12 3 = r.f3) := by unfold is; simp [hq]
    refine C_keep 0 (Nat.zero_le _) (C_tab hT t_proofmarkref10_is (by simp [proofmarkref10_is]) (W_run 1000 ?_))
    simp -implicitDefEqProofs (disch := omega) only [go_sem, ↓reduceIte, reduceCtorEq, Nat.reduceAdd, Nat.reduceEqDiff, Nat.reduceLeDiff, Nat.zero_add, Nat.add_zero, proofmarkref10_is, proofmarkref10_is_r0, proofmarkref10_is_r1, proofmarkref10_is_r2, proofmarkref10_is_r3, proofmarkref10_is_r4, proofmarkref10_is_r5, proofmarkref10_is_r6, proofmarkref10_is_r7, proofmarkref10_is_r8, proofmarkref10_is_r9, proofmarkref10_is_r10, proofmarkref10_is_r11, proofmarkref10_is_r12, rrC, hq, Int.reduceBEq]
    refine callP hT t_proofmarkref10_field g1 rfl 1000 fun v hv => ?_
    subst hv
    simp -implicitDefEqProofs (disch := omega) only [go_sem, ↓reduceIte, reduceCtorEq, Nat.reduceAdd, Nat.reduceEqDiff, Nat.reduceLeDiff, Nat.zero_add, Nat.zero_le]
    refine ⟨fun h0 => ?_, fun h0 => fin _ (by rw [isE]; simp [*])⟩
    refine callP hT t_proofmarkref10_field g2 rfl 1000 fun v hv => ?_
    subst hv
    simp -implicitDefEqProofs (disch := omega) only [go_sem, ↓reduceIte, reduceCtorEq, Nat.reduceAdd, Nat.reduceEqDiff, Nat.zero_add, Nat.zero_le]
    exact fin _ (by rw [isE]; simp [*])
  · have isE : is w r = decide (fld w 0 7 = r.code) := by unfold is; simp [hq]
    refine C_keep 0 (Nat.zero_le _) (C_tab hT t_proofmarkref10_is (by simp [proofmarkref10_is]) (W_run 1000 ?_))
    simp -implicitDefEqProofs (disch := omega) only [go_sem, ↓reduceIte, reduceCtorEq, Nat.reduceAdd, Nat.reduceEqDiff, Nat.reduceLeDiff, Nat.zero_add, Nat.add_zero, beq_self_eq_true, proofmarkref10_is, proofmarkref10_is_r0, proofmarkref10_is_r1, proofmarkref10_is_r2, proofmarkref10_is_r3, proofmarkref10_is_r4, proofmarkref10_is_r5, proofmarkref10_is_r6, proofmarkref10_is_r7, proofmarkref10_is_r8, proofmarkref10_is_r9, proofmarkref10_is_r10, proofmarkref10_is_r11, proofmarkref10_is_r12, rrC, hq, Int.reduceBEq]
    refine callP hT t_proofmarkref10_field g1 rfl 1000 fun v hv => ?_
    subst hv
    simp -implicitDefEqProofs (disch := omega) only [go_sem, ↓reduceIte, reduceCtorEq, Nat.reduceEqDiff, Nat.zero_add, Nat.zero_le]
    exact fin _ (by rw [isE]; simp [*])
  · have isE : is w r = decide (fld w 0 7 = r.code) := by unfold is; simp [hq]
    refine C_keep 0 (Nat.zero_le _) (C_tab hT t_proofmarkref10_is (by simp [proofmarkref10_is]) (W_run 1000 ?_))
    simp -implicitDefEqProofs (disch := omega) only [go_sem, ↓reduceIte, reduceCtorEq, Nat.reduceAdd, Nat.reduceEqDiff, Nat.reduceLeDiff, Nat.zero_add, Nat.add_zero, beq_self_eq_true, proofmarkref10_is, proofmarkref10_is_r0, proofmarkref10_is_r1, proofmarkref10_is_r2, proofmarkref10_is_r3, proofmarkref10_is_r4, proofmarkref10_is_r5, proofmarkref10_is_r6, proofmarkref10_is_r7, proofmarkref10_is_r8, proofmarkref10_is_r9, proofmarkref10_is_r10, proofmarkref10_is_r11, proofmarkref10_is_r12, rrC, hq, Int.reduceBEq]
    refine callP hT t_proofmarkref10_field g1 rfl 1000 fun v hv => ?_
    subst hv
    simp -implicitDefEqProofs (disch := omega) only [go_sem, ↓reduceIte, reduceCtorEq, Nat.reduceEqDiff, Nat.zero_add, Nat.zero_le]
    exact fin _ (by rw [isE]; simp [*])
  · have isE : is w r = decide (w = r.code ∧ r.name = [101, 99, 97, 108, 108] ∨ w = 1048691 ∧ r.name = [101, 98, 114, 101, 97, 107]) := by unfold is; simp [hq]
    refine C_keep 0 (Nat.zero_le _) (C_tab hT t_proofmarkref10_is (by simp [proofmarkref10_is]) (W_run 1000 ?_))
    simp -implicitDefEqProofs (disch := omega) only [go_sem, ↓reduceIte, reduceCtorEq, Nat.reduceAdd, Nat.reduceEqDiff, Nat.reduceLeDiff, Nat.zero_add, Nat.add_zero, Nat.zero_le, beq_self_eq_true, proofmarkref10_is, proofmarkref10_is_r0, proofmarkref10_is_r1, proofmarkref10_is_r2, proofmarkref10_is_r3, proofmarkref10_is_r4, proofmarkref10_is_r5, proofmarkref10_is_r6, proofmarkref10_is_r7, proofmarkref10_is_r8, proofmarkref10_is_r9, proofmarkref10_is_r10, proofmarkref10_is_r11, proofmarkref10_is_r12, rrC, hq]
    repeat' (first | with_reducible refine And.intro ?_ ?_ | with_reducible intro _)
    all_goals (refine fin _ ?_; rw [isE]; clear g1 g2 g3 g4 isE; first | (simp [*]; done) | (simp only [sdec]; grind) | grind)

theorem or_add_u32 (j : Nat) (a b : Int) (ha : 0 ≤ a) (hb : 0 ≤ b) (hb' : b < 2 ^ j) (hd : a % 2 ^ j = 0) (hs : a + b < 4294967296) : orI .u32 a b = a + b :=
  or_add .u32 j a b ha hb hb' hd (by simp [IntKind.max, IntKind.signed, IntKind.bits]; omega)
theorem or_add_u32' (j : Nat) (a b : Int) (ha : 0 ≤ a) (hb : 0 ≤ b) (hb' : a < 2 ^ j) (hd : b % 2 ^ j = 0) (hs : a + b < 4294967296) : orI .u32 a b = a + b :=
  or_add' .u32 j a b ha hb hb' hd (by simp [IntKind.max, IntKind.signed, IntKind.bits]; omega)

theorem c_rnumber (hT : TabOk P tab) (w : Int) (hw : u32 w) {f : Int} (hf : Forms f) : Pure P G n_proofmarkref10_number [.int .u32 w, .int .u8 f] fun v => v = .int .i64 (number w f) := by
  intro t
  have cf := fun a m ha hm => c_field (G := G) hT w a m hw ha hm
  have cs := fun n b h0 h1 h2 h3 => c_signed (G := G) hT n b h0 h1 h2 h3
  have fb := fld_lt w
  rcases hf with rfl | rfl | rfl | rfl | rfl | rfl | rfl | rfl | rfl | rfl
  · refine C_keep 0 (Nat.zero_le _) (C_tab hT t_proofmarkref10_number (by simp [proofmarkref10_number]) (W_run 1000 ?_))
    simp -implicitDefEqProofs (disch := omega) only [go_sem, ↓reduceIte, reduceCtorEq, Nat.reduceEqDiff, Nat.zero_add, Nat.le_refl, proofmarkref10_number, proofmarkref10_number_r0, proofmarkref10_number_r1, proofmarkref10_number_r2, proofmarkref10_number_r3, proofmarkref10_number_r4, proofmarkref10_number_r5, proofmarkref10_number_r6, proofmarkref10_number_r7, proofmarkref10_number_r8, proofmarkref10_number_r9, proofmarkref10_number_r10, proofmarkref10_number_r11, proofmarkref10_number_r12, proofmarkref10_number_r13, proofmarkref10_number_r14, proofmarkref10_number_r15, proofmarkref10_number_r16, Int.reduceBEq]
    simp [number]
  · have b20 : 0 ≤ fld w 20 5 ∧ fld w 20 5 < 32 := fb 20 5
    have s1 : IntKind.i64.wrap (fld w 20 5) = fld w 20 5 := wrap_i64 (by omega) (by omega)
    refine C_keep 0 (Nat.zero_le _) (C_tab hT t_proofmarkref10_number (by simp [proofmarkref10_number]) (W_run 1000 ?_))
    simp -implicitDefEqProofs (disch := omega) only [go_sem, ↓reduceIte, reduceCtorEq, Nat.reduceEqDiff, Nat.zero_add, beq_self_eq_true, proofmarkref10_number, proofmarkref10_number_r0, proofmarkref10_number_r1, proofmarkref10_number_r2, proofmarkref10_number_r3, proofmarkref10_number_r4, proofmarkref10_number_r5, proofmarkref10_number_r6, proofmarkref10_number_r7, proofmarkref10_number_r8, proofmarkref10_number_r9, proofmarkref10_number_r10, proofmarkref10_number_r11, proofmarkref10_number_r12, proofmarkref10_number_r13, proofmarkref10_number_r14, proofmarkref10_number_r15, proofmarkref10_number_r16, Int.reduceBEq]
    refine callP hT t_proofmarkref10_field (cf 20 5 (by omega) (by omega)) rfl 1000 fun v hv => ?_
    subst hv
    simp -implicitDefEqProofs (disch := omega) only [go_sem, ↓reduceIte, reduceCtorEq, Nat.reduceEqDiff, Nat.le_refl, s1]
    simp [number]
  · have b20 : 0 ≤ fld w 20 12 ∧ fld w 20 12 < 4096 := fb 20 12
    have s1 : IntKind.i64.wrap (fld w 20 12) = fld w 20 12 := wrap_i64 (by omega) (by omega)
    refine C_keep 0 (Nat.zero_le _) (C_tab hT t_proofmarkref10_number (by simp [proofmarkref10_number]) (W_run 1000 ?_))
    simp -implicitDefEqProofs (disch := omega) only [go_sem, ↓reduceIte, reduceCtorEq, Nat.reduceEqDiff, Nat.zero_add, beq_self_eq_true, proofmarkref10_number, proofmarkref10_number_r0, proofmarkref10_number_r1, proofmarkref10_number_r2, proofmarkref10_number_r3, proofmarkref10_number_r4, proofmarkref10_number_r5, proofmarkref10_number_r6, proofmarkref10_number_r7, proofmarkref10_number_r8, proofmarkref10_number_r9, proofmarkref10_number_r10, proofmarkref10_number_r11, proofmarkref10_number_r12, proofmarkref10_number_r13, proofmarkref10_number_r14, proofmarkref10_number_r15, proofmarkref10_number_r16]
    refine callP hT t_proofmarkref10_field (cf 20 12 (by omega) (by omega)) rfl 1000 fun v hv => ?_
    subst hv
    simp -implicitDefEqProofs (disch := omega) only [go_sem, ↓reduceIte, reduceCtorEq, Nat.reduceEqDiff, s1]
    refine callP hT t_proofmarkref10_signed (cs (fld w 20 12) 12 (by omega) (by omega) (by omega) (by omega)) rfl 1000 fun v hv => ?_
    subst hv
    simp -implicitDefEqProofs (disch := omega) only [go_sem, ↓reduceIte, reduceCtorEq, Nat.reduceEqDiff, Nat.le_refl]
    simp [number]
  · have b20 : 0 ≤ fld w 20 6 ∧ fld w 20 6 < 64 := fb 20 6
    have s1 : IntKind.i64.wrap (fld w 20 6) = fld w 20 6 := wrap_i64 (by omega) (by omega)
    refine C_keep 0 (Nat.zero_le _) (C_tab hT t_proofmarkref10_number (by simp [proofmarkref10_number]) (W_run 1000 ?_))
    simp -implicitDefEqProofs (disch := omega) only [go_sem, ↓reduceIte, reduceCtorEq, Nat.reduceEqDiff, Nat.zero_add, beq_self_eq_true, proofmarkref10_number, proofmarkref10_number_r0, proofmarkref10_number_r1, proofmarkref10_number_r2, proofmarkref10_number_r3, proofmarkref10_number_r4, proofmarkref10_number_r5, proofmarkref10_number_r6, proofmarkref10_number_r7, proofmarkref10_number_r8, proofmarkref10_number_r9, proofmarkref10_number_r10, proofmarkref10_number_r11, proofmarkref10_number_r12, proofmarkref10_number_r13, proofmarkref10_number_r14, proofmarkref10_number_r15, proofmarkref10_number_r16, Int.reduceBEq]
    refine callP hT t_proofmarkref10_field (cf 20 6 (by omega) (by omega)) rfl 1000 fun v hv => ?_
    subst hv
    simp -implicitDefEqProofs (disch := omega) only [go_sem, ↓reduceIte, reduceCtorEq, Nat.reduceEqDiff, Nat.le_refl, s1]
    simp [number]
  · have b25 : 0 ≤ fld w 25 7 ∧ fld w 25 7 < 128 := fb 25 7
    have b7 : 0 ≤ fld w 7 5 ∧ fld w 7 5 < 32 := fb 7 5
    have s1 : IntKind.u32.wrap (fld w 25 7 * 32) = fld w 25 7 * 32 := wrap_id _ (by simp [IntKind.min, IntKind.signed]; omega) (by simp [IntKind.max, IntKind.signed, IntKind.bits]; omega)
    have o1 : orI .u32 (fld w 25 7 * 32) (fld w 7 5) = fld w 25 7 * 32 + fld w 7 5 := or_add_u32 5 _ _ (by omega) (by omega) (by omega) (by omega) (by omega)
    have s2 : IntKind.i64.wrap (fld w 25 7 * 32 + fld w 7 5) = fld w 25 7 * 32 + fld w 7 5 := wrap_i64 (by omega) (by omega)
    refine C_keep 0 (Nat.zero_le _) (C_tab hT t_proofmarkref10_number (by simp [proofmarkref10_number]) (W_run 1000 ?_))
    simp -implicitDefEqProofs (disch := omega) only [go_sem, ↓reduceIte, reduceCtorEq, Nat.reduceEqDiff, Nat.zero_add, beq_self_eq_true, proofmarkref10_number, proofmarkref10_number_r0, proofmarkref10_number_r1, proofmarkref10_number_r2, proofmarkref10_number_r3, proofmarkref10_number_r4, proofmarkref10_number_r5, proofmarkref10_number_r6, proofmarkref10_number_r7, proofmarkref10_number_r8, proofmarkref10_number_r9, proofmarkref10_number_r10, proofmarkref10_number_r11, proofmarkref10_number_r12, proofmarkref10_number_r13, proofmarkref10_number_r14, proofmarkref10_number_r15, proofmarkref10_number_r16, Int.reduceBEq]
    refine callP hT t_proofmarkref10_field (cf 25 7 (by omega) (by omega)) rfl 1000 fun v hv => ?_
    subst hv
    simp -implicitDefEqProofs (disch := omega) only [go_sem, ↓reduceIte, reduceCtorEq, Nat.reduceEqDiff, Int.reduceToNat, Int.reduceLE, show min 5 32 = 5 from rfl, Int.reducePow, s1]
    refine callP hT t_proofmarkref10_field (cf 7 5 (by omega) (by omega)) rfl 1000 fun v hv => ?_
    subst hv
    simp -implicitDefEqProofs (disch := omega) only [go_sem, ↓reduceIte, reduceCtorEq, Nat.reduceEqDiff, o1, s2]
    refine callP hT t_proofmarkref10_signed (cs (fld w 25 7 * 32 + fld w 7 5) 12 (by omega) (by omega) (by omega) (by omega)) rfl 1000 fun v hv => ?_
    subst hv
    simp -implicitDefEqProofs (disch := omega) only [go_sem, ↓reduceIte, reduceCtorEq, Nat.reduceEqDiff, Nat.le_refl]
    simp [number]
  · have b31 : 0 ≤ fld w 31 1 ∧ fld w 31 1 < 2 := fb 31 1
    have b7 : 0 ≤ fld w 7 1 ∧ fld w 7 1 < 2 := fb 7 1
    have b25 : 0 ≤ fld w 25 6 ∧ fld w 25 6 < 64 := fb 25 6
    have b8 : 0 ≤ fld w 8 4 ∧ fld w 8 4 < 16 := fb 8 4
    have s1 : IntKind.u32.wrap (fld w 31 1 * 4096) = fld w 31 1 * 4096 := wrap_id _ (by simp [IntKind.min, IntKind.signed]; omega) (by simp [IntKind.max, IntKind.signed, IntKind.bits]; omega)
    have s2 : IntKind.u32.wrap (fld w 7 1 * 2048) = fld w 7 1 * 2048 := wrap_id _ (by simp [IntKind.min, IntKind.signed]; omega) (by simp [IntKind.max, IntKind.signed, IntKind.bits]; omega)
    have o1 : orI .u32 (fld w 31 1 * 4096) (fld w 7 1 * 2048) = fld w 31 1 * 4096 + fld w 7 1 * 2048 := or_add_u32 12 _ _ (by omega) (by omega) (by omega) (by omega) (by omega)
    have s3 : IntKind.u32.wrap (fld w 25 6 * 32) = fld w 25 6 * 32 := wrap_id _ (by simp [IntKind.min, IntKind.signed]; omega) (by simp [IntKind.max, IntKind.signed, IntKind.bits]; omega)
    have o2 : orI .u32 (fld w 31 1 * 4096 + fld w 7 1 * 2048) (fld w 25 6 * 32) = fld w 31 1 * 4096 + fld w 7 1 * 2048 + fld w 25 6 * 32 := or_add_u32 11 _ _ (by omega) (by omega) (by omega) (by omega) (by omega)
    have s4 : IntKind.u32.wrap (fld w 8 4 * 2) = fld w 8 4 * 2 := wrap_id _ (by simp [IntKind.min, IntKind.signed]; omega) (by simp [IntKind.max, IntKind.signed, IntKind.bits]; omega)
    have o3 : orI .u32 (fld w 31 1 * 4096 + fld w 7 1 * 2048 + fld w 25 6 * 32) (fld w 8 4 * 2) = fld w 31 1 * 4096 + fld w 7 1 * 2048 + fld w 25 6 * 32 + fld w 8 4 * 2 := or_add_u32 5 _ _ (by omega) (by omega) (by omega) (by omega) (by omega)
    have s5 : IntKind.i64.wrap (fld w 31 1 * 4096 + fld w 7 1 * 2048 + fld w 25 6 * 32 + fld w 8 4 * 2) = fld w 31 1 * 4096 + fld w 7 1 * 2048 + fld w 25 6 * 32 + fld w 8 4 * 2 := wrap_i64 (by omega) (by omega)
    refine C_keep 0 (Nat.zero_le _) (C_tab hT t_proofmarkref10_number (by simp [proofmarkref10_number]) (W_run 1000 ?_))
    simp -implicitDefEqProofs (disch := omega) only [go_sem, ↓reduceIte, reduceCtorEq, Nat.reduceEqDiff, Nat.zero_add, beq_self_eq_true, proofmarkref10_number, proofmarkref10_number_r0, proofmarkref10_number_r1, proofmarkref10_number_r2, proofmarkref10_number_r3, proofmarkref10_number_r4, proofmarkref10_number_r5, proofmarkref10_number_r6, proofmarkref10_number_r7, proofmarkref10_number_r8, proofmarkref10_number_r9, proofmarkref10_number_r10, proofmarkref10_number_r11, proofmarkref10_number_r12, proofmarkref10_number_r13, proofmarkref10_number_r14, proofmarkref10_number_r15, proofmarkref10_number_r16, Int.reduceBEq]
    refine callP hT t_proofmarkref10_field (cf 31 1 (by omega) (by omega)) rfl 1000 fun v hv => ?_
    subst hv
    simp -implicitDefEqProofs (disch := omega) only [go_sem, ↓reduceIte, reduceCtorEq, Nat.reduceEqDiff, Int.reduceToNat, Int.reduceLE, show min 12 32 = 12 from rfl, Int.reducePow, s1]
    refine callP hT t_proofmarkref10_field (cf 7 1 (by omega) (by omega)) rfl 1000 fun v hv => ?_
    subst hv
    simp -implicitDefEqProofs (disch := omega) only [go_sem, ↓reduceIte, reduceCtorEq, Nat.reduceEqDiff, Int.reduceToNat, Int.reduceLE, show min 11 32 = 11 from rfl, Int.reducePow, s2, o1]
    refine callP hT t_proofmarkref10_field (cf 25 6 (by omega) (by omega)) rfl 1000 fun v hv => ?_
    subst hv
    simp -implicitDefEqProofs (disch := omega) only [go_sem, ↓reduceIte, reduceCtorEq, Nat.reduceEqDiff, Int.reduceToNat, Int.reduceLE, show min 5 32 = 5 from rfl, Int.reducePow, s3, o2]
    refine callP hT t_proofmarkref10_field (cf 8 4 (by omega) (by omega)) rfl 1000 fun v hv => ?_
    subst hv
    simp -implicitDefEqProofs (disch := omega) only [go_sem, ↓reduceIte, reduceCtorEq, Nat.reduceEqDiff, Int.reduceToNat, Int.reduceLE, show min 1 32 = 1 from rfl, Int.reducePow, s4, o3, s5]
    refine callP hT t_proofmarkref10_signed (cs (fld w 31 1 * 4096 + fld w 7 1 * 2048 + fld w 25 6 * 32 + fld w 8 4 * 2) 13 (by omega) (by omega) (by omega) (by omega)) rfl 1000 fun v hv => ?_
    subst hv
    simp -implicitDefEqProofs (disch := omega) only [go_sem, ↓reduceIte, reduceCtorEq, Nat.reduceEqDiff, Nat.le_refl]
    simp [number]
  · have b12 : 0 ≤ fld w 12 20 ∧ fld w 12 20 < 1048576 := fb 12 20
    have s1 : IntKind.i64.wrap (fld w 12 20) = fld w 12 20 := wrap_i64 (by omega) (by omega)
    have s2 : IntKind.i64.wrap (fld w 12 20 * 4096) = fld w 12 20 * 4096 := wrap_i64 (by omega) (by omega)
    refine C_keep 0 (Nat.zero_le _) (C_tab hT t_proofmarkref10_number (by simp [proofmarkref10_number]) (W_run 1000 ?_))
    simp -implicitDefEqProofs (disch := omega) only [go_sem, ↓reduceIte, reduceCtorEq, Nat.reduceEqDiff, Nat.zero_add, beq_self_eq_true, proofmarkref10_number, proofmarkref10_number_r0, proofmarkref10_number_r1, proofmarkref10_number_r2, proofmarkref10_number_r3, proofmarkref10_number_r4, proofmarkref10_number_r5, proofmarkref10_number_r6, proofmarkref10_number_r7, proofmarkref10_number_r8, proofmarkref10_number_r9, proofmarkref10_number_r10, proofmarkref10_number_r11, proofmarkref10_number_r12, proofmarkref10_number_r13, proofmarkref10_number_r14, proofmarkref10_number_r15, proofmarkref10_number_r16, Int.reduceBEq]
    refine callP hT t_proofmarkref10_field (cf 12 20 (by omega) (by omega)) rfl 1000 fun v hv => ?_
    subst hv
    simp -implicitDefEqProofs (disch := omega) only [go_sem, ↓reduceIte, reduceCtorEq, Nat.reduceEqDiff, Int.reduceToNat, Int.reduceLE, show min 12 64 = 12 from rfl, Int.reducePow, s1, s2]
    refine callP hT t_proofmarkref10_signed (cs (fld w 12 20 * 4096) 32 (by omega) (by omega) (by omega) (by omega)) rfl 1000 fun v hv => ?_
    subst hv
    simp -implicitDefEqProofs (disch := omega) only [go_sem, ↓reduceIte, reduceCtorEq, Nat.reduceEqDiff, Nat.le_refl]
    simp [number]
  · have b31 : 0 ≤ fld w 31 1 ∧ fld w 31 1 < 2 := fb 31 1
    have b12 : 0 ≤ fld w 12 8 ∧ fld w 12 8 < 256 := fb 12 8
    have b20 : 0 ≤ fld w 20 1 ∧ fld w 20 1 < 2 := fb 20 1
    have b21 : 0 ≤ fld w 21 10 ∧ fld w 21 10 < 1024 := fb 21 10
    have s1 : IntKind.u32.wrap (fld w 31 1 * 1048576) = fld w 31 1 * 1048576 := wrap_id _ (by simp [IntKind.min, IntKind.signed]; omega) (by simp [IntKind.max, IntKind.signed, IntKind.bits]; omega)
    have s2 : IntKind.u32.wrap (fld w 12 8 * 4096) = fld w 12 8 * 4096 := wrap_id _ (by simp [IntKind.min, IntKind.signed]; omega) (by simp [IntKind.max, IntKind.signed, IntKind.bits]; omega)
    have o1 : orI .u32 (fld w 31 1 * 1048576) (fld w 12 8 * 4096) = fld w 31 1 * 1048576 + fld w 12 8 * 4096 := or_add_u32 20 _ _ (by omega) (by omega) (by omega) (by omega) (by omega)
    have s3 : IntKind.u32.wrap (fld w 20 1 * 2048) = fld w 20 1 * 2048 := wrap_id _ (by simp [IntKind.min, IntKind.signed]; omega) (by simp [IntKind.max, IntKind.signed, IntKind.bits]; omega)
    have o2 : orI .u32 (fld w 31 1 * 1048576 + fld w 12 8 * 4096) (fld w 20 1 * 2048) = fld w 31 1 * 1048576 + fld w 12 8 * 4096 + fld w 20 1 * 2048 := or_add_u32 12 _ _ (by omega) (by omega) (by omega) (by omega) (by omega)
    have s4 : IntKind.u32.wrap (fld w 21 10 * 2) = fld w 21 10 * 2 := wrap_id _ (by simp [IntKind.min, IntKind.signed]; omega) (by simp [IntKind.max, IntKind.signed, IntKind.bits]; omega)
    have o3 : orI .u32 (fld w 31 1 * 1048576 + fld w 12 8 * 4096 + fld w 20 1 * 2048) (fld w 21 10 * 2) = fld w 31 1 * 1048576 + fld w 12 8 * 4096 + fld w 20 1 * 2048 + fld w 21 10 * 2 := or_add_u32 11 _ _ (by omega) (by omega) (by omega) (by omega) (by omega)
    have s5 : IntKind.i64.wrap (fld w 31 1 * 1048576 + fld w 12 8 * 4096 + fld w 20 1 * 2048 + fld w 21 10 * 2) = fld w 31 1 * 1048576 + fld w 12 8 * 4096 + fld w 20 1 * 2048 + fld w 21 10 * 2 := wrap_i64 (by omega) (by omega)
    refine C_keep 0 (Nat.zero_le _) (C_tab hT t_proofmarkref10_number (by simp [proofmarkref10_number]) (W_run 1000 ?_))
    simp -implicitDefEqProofs (disch := omega) only [go_sem, ↓reduceIte, reduceCtorEq, Nat.reduceEqDiff, Nat.zero_add, beq_self_eq_true, proofmarkref10_number, proofmarkref10_number_r0, proofmarkref10_number_r1, proofmarkref10_number_r2, proofmarkref10_number_r3, proofmarkref10_number_r4, proofmarkref10_number_r5, proofmarkref10_number_r6, proofmarkref10_number_r7, proofmarkref10_number_r8, proofmarkref10_number_r9, proofmarkref10_number_r10, proofmarkref10_number_r11, proofmarkref10_number_r12, proofmarkref10_number_r13, proofmarkref10_number_r14, proofmarkref10_number_r15, proofmarkref10_number_r16, Int.reduceBEq]
    refine callP hT t_proofmarkref10_field (cf 31 1 (by omega) (by omega)) rfl 1000 fun v hv => ?_
    subst hv
    simp -implicitDefEqProofs (disch := omega) only [go_sem, ↓reduceIte, reduceCtorEq, Nat.reduceEqDiff, Int.reduceToNat, Int.reduceLE, show min 20 32 = 20 from rfl, Int.reducePow, s1]
    refine callP hT t_proofmarkref10_field (cf 12 8 (by omega) (by omega)) rfl 1000 fun v hv => ?_
    subst hv
    simp -implicitDefEqProofs (disch := omega) only [go_sem, ↓reduceIte, reduceCtorEq, Nat.reduceEqDiff, Int.reduceToNat, Int.reduceLE, show min 12 32 = 12 from rfl, Int.reducePow, s2, o1]
    refine callP hT t_proofmarkref10_field (cf 20 1 (by omega) (by omega)) rfl 1000 fun v hv => ?_
    subst hv
    simp -implicitDefEqProofs (disch := omega) only [go_sem, ↓reduceIte, reduceCtorEq, Nat.reduceEqDiff, Int.reduceToNat, Int.reduceLE, show min 11 32 = 11 from rfl, Int.reducePow, s3, o2]
    refine callP hT t_proofmarkref10_field (cf 21 10 (by omega) (by omega)) rfl 1000 fun v hv => ?_
    subst hv
    simp -implicitDefEqProofs (disch := omega) only [go_sem, ↓reduceIte, reduceCtorEq, Nat.reduceEqDiff, Int.reduceToNat, Int.reduceLE, show min 1 32 = 1 from rfl, Int.reducePow, s4, o3, s5]
    refine callP hT t_proofmarkref10_signed (cs (fld w 31 1 * 1048576 + fld w 12 8 * 4096 + fld w 20 1 * 2048 + fld w 21 10 * 2) 21 (by omega) (by omega) (by omega) (by omega)) rfl 1000 fun v hv => ?_
    subst hv
    simp -implicitDefEqProofs (disch := omega) only [go_sem, ↓reduceIte, reduceCtorEq, Nat.reduceEqDiff, Nat.le_refl]
    simp [number]
  · refine C_keep 0 (Nat.zero_le _) (C_tab hT t_proofmarkref10_number (by simp [proofmarkref10_number]) (W_run 1000 ?_))
    simp -implicitDefEqProofs (disch := omega) only [go_sem, ↓reduceIte, reduceCtorEq, Nat.reduceEqDiff, Nat.zero_add, Nat.le_refl, proofmarkref10_number, proofmarkref10_number_r0, proofmarkref10_number_r1, proofmarkref10_number_r2, proofmarkref10_number_r3, proofmarkref10_number_r4, proofmarkref10_number_r5, proofmarkref10_number_r6, proofmarkref10_number_r7, proofmarkref10_number_r8, proofmarkref10_number_r9, proofmarkref10_number_r10, proofmarkref10_number_r11, proofmarkref10_number_r12, proofmarkref10_number_r13, proofmarkref10_number_r14, proofmarkref10_number_r15, proofmarkref10_number_r16, Int.reduceBEq]
    simp [number]
  · refine C_keep 0 (Nat.zero_le _) (C_tab hT t_proofmarkref10_number (by simp [proofmarkref10_number]) (W_run 1000 ?_))
    simp -implicitDefEqProofs (disch := omega) only [go_sem, ↓reduceIte, reduceCtorEq, Nat.reduceEqDiff, Nat.zero_add, Nat.le_refl, proofmarkref10_number, proofmarkref10_number_r0, proofmarkref10_number_r1, proofmarkref10_number_r2, proofmarkref10_number_r3, proofmarkref10_number_r4, proofmarkref10_number_r5, proofmarkref10_number_r6, proofmarkref10_number_r7, proofmarkref10_number_r8, proofmarkref10_number_r9, proofmarkref10_number_r10, proofmarkref10_number_r11, proofmarkref10_number_r12, proofmarkref10_number_r13, proofmarkref10_number_r14, proofmarkref10_number_r15, proofmarkref10_number_r16, Int.reduceBEq]
    simp [number]
end Go.Proofs.YtkhdfbokkneeaaaDoor
