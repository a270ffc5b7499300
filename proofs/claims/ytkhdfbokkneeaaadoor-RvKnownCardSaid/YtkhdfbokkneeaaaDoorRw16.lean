/- Unlike instructions: walked. -/
import Derived.Test.YtkhdfbokkneeaaaDoorRw15
import Derived.Test.YtkhdfbokkneeaaaDoorAmD
namespace Go.Proofs.YtkhdfbokkneeaaaDoor
open Go Go.Am Go.Rv
set_option maxRecDepth 100000

theorem in_eq (x y : In) : (x.op == y.op && (x.rd == y.rd && (x.rs1 == y.rs1 && (x.rs2 == y.rs2 && x.imm == y.imm)))) = decide (x = y) := by
  obtain ⟨a, b, c, d, e⟩ := x
  obtain ⟨a', b', c', d', e'⟩ := y
  rw [Bool.eq_iff_iff]
  simp only [In.mk.injEq, Bool.and_eq_true, beq_iff_eq, decide_eq_true_eq]

/-- One bit is another one. -/
theorem xor_bit {a : Int} (h0 : 0 ≤ a) (h1 : a < 4294967296) {k : Nat} (hk : k < 32) : xorI .u32 a (2 ^ k) ≠ a ∧ 0 ≤ xorI .u32 a (2 ^ k) ∧ xorI .u32 a (2 ^ k) < 4294967296 := by
  obtain ⟨x, rfl⟩ := Int.eq_ofNat_of_zero_le h0
  have hk2 : (2 : Nat) ^ k < 2 ^ 32 := Nat.pow_lt_pow_right (by omega) hk
  have e : ∀ z : Nat, z < 2 ^ 32 → (BitVec.ofInt 32 (z : Int)).toNat = z := fun z hz => by
    rw [BitVec.toNat_ofInt]
    have : ((z : Int) % ((2 ^ 32 : Nat) : Int)) = z := Int.emod_eq_of_lt (by omega) (by omega)
    rw [this]; simp
  have hx : x < 2 ^ 32 := by omega
  have hlt : x ^^^ 2 ^ k < 2 ^ 32 := Nat.xor_lt_two_pow hx hk2
  have key : xorI .u32 (x : Int) (2 ^ k) = ((x ^^^ 2 ^ k : Nat) : Int) := by
    unfold xorI
    have e2 : ((2 : Int) ^ k) = ((2 ^ k : Nat) : Int) := by push_cast; rfl
    rw [e2]
    show IntKind.u32.wrap (BitVec.ofInt 32 (x : Int) ^^^ BitVec.ofInt 32 ((2 ^ k : Nat) : Int)).toNat = _
    rw [BitVec.toNat_xor, e x hx, e _ hk2]
    apply wrap_id
    · simp [IntKind.min, IntKind.signed]
    · simp [IntKind.max, IntKind.signed, IntKind.bits]; omega
  rw [key]
  refine ⟨fun h => ?_, by omega, by omega⟩
  have h' : x ^^^ 2 ^ k = x := by exact_mod_cast h
  have : (x ^^^ 2 ^ k) ^^^ x = x ^^^ x := by rw [h']
  rw [Nat.xor_self, Nat.xor_comm x, Nat.xor_assoc, Nat.xor_self, Nat.xor_zero] at this
  have := Nat.pow_pos (n := k) (show 0 < 2 by omega)
  omega

theorem shl_bit (b : Int) (h0 : 0 ≤ b) : IntKind.u32.wrap (1 * 2 ^ min (b.tmod 32).toNat 32) = 2 ^ (b % 32).toNat ∧ (b % 32).toNat < 32 := by
  have hm : b.tmod 32 = b % 32 := Int.tmod_eq_emod_of_nonneg h0
  have h1 := Int.emod_lt_of_pos b (show (0 : Int) < 32 by omega)
  have h2 := Int.emod_nonneg b (show (32 : Int) ≠ 0 by omega)
  have hk : (b % 32).toNat < 32 := by omega
  refine ⟨?_, hk⟩
  rw [hm, Int.one_mul, Nat.min_eq_left (by omega)]
  have hk2 : (2 : Nat) ^ (b % 32).toNat < 2 ^ 32 := Nat.pow_lt_pow_right (by omega) hk
  have e2 : ((2 : Int) ^ (b % 32).toNat) = ((2 ^ (b % 32).toNat : Nat) : Int) := by push_cast; rfl
  rw [e2]
  apply wrap_id
  · have := Nat.pow_pos (n := (b % 32).toNat) (show 0 < 2 by omega); simp only [IntKind.min, IntKind.signed]; simp only [Bool.false_eq_true, if_false]; omega
  · simp [IntKind.max, IntKind.signed, IntKind.bits]; omega

/-- The law's last part, from the test of the first word on. -/
theorem c_RvUnlike (hT : TabOk Tryd.prog tab) (F : Lb Tryd.prog) (h2 : F.fmt 2 = [50]) (h16 : F.fmt (-16) = [45, 49, 54]) (x y : In) (hx : InOk x) (hy : InOk y) (b : Int) (hb : 0 ≤ b) :
    C Tryd.prog G0 0 n_proofmarklaw10_RvUnlike [.agg (inC x), .agg (inC y), .int .u8 b] ⟨0, []⟩ fun v _ => v = .bool true := by
  have hw := c_works hT F h2 h16
  have hE := c_Encode hT x hx
  have hF := c_Encode hT y hy
  have htx := c_Text hT F x hx
  have hty := c_Text hT F y hy
  obtain ⟨hs1, hs2⟩ := shl_bit b hb
  have hi := in_eq x y
  have hnn : 0 ≤ b.tmod 32 := Int.tmod_nonneg _ hb
  by_cases he : (enc T x).2 = 0
  · obtain ⟨w0, w1, hf⟩ := dec_enc (x := x) (w := (enc T x).1) (by rw [← he]) hx.2.1.1 hx.2.2.1.1 hx.2.2.2.1.1
    obtain ⟨z0, z1, z2⟩ := xor_bit w0 w1 hs2
    have hd := c_Decode hT _ z1 z2
    by_cases hg : (enc T y).2 = 0
    · obtain ⟨_, _, hf'⟩ := dec_enc (x := y) (w := (enc T y).1) (by rw [← hg]) hy.2.1.1 hy.2.2.1.1 hy.2.2.2.1.1
      have e1 : ((enc T x).1 == (enc T y).1) = decide (x = y) := by
        rw [Bool.eq_iff_iff]; simp only [decide_eq_true_eq, beq_iff_eq]
        exact ⟨fun h => by rw [h, hf'] at hf; exact (Option.some.inj hf).symm, fun h => by rw [h]⟩
      have e2 : (txt F.fmt T x == txt F.fmt T y) = decide (x = y) := by
        rw [Bool.eq_iff_iff]; simp only [decide_eq_true_eq, beq_iff_eq]
        exact ⟨fun h => txt_inj F.ok he hg hx.2.2.2.2 hy.2.2.2.2 ⟨hx.2.1.1, hx.2.2.1.1, hx.2.2.2.1.1⟩ ⟨hy.2.1.1, hy.2.2.1.1, hy.2.2.2.1.1⟩ h, fun h => by rw [h]⟩
      have ez := fun z (hz : first (xorI .u32 (enc T x).1 (2 ^ (b % 32).toNat)) 0 T = some z) => first_enc z1 z2 hz
      simp only [inC] at hE hF htx hty hi ⊢
      refine C_tab hT t_proofmarklaw10_RvUnlike (by simp [proofmarklaw10_RvUnlike]) (W_run 1000 ?_)
      simp -implicitDefEqProofs (disch := omega) only [go_sem, ↓reduceIte, reduceCtorEq, Nat.reduceAdd, Nat.reduceEqDiff, Nat.zero_add, Nat.le_refl, proofmarklaw10_RvUnlike, proofmarklaw10_RvUnlike_r0, proofmarklaw10_RvUnlike_r1, proofmarklaw10_RvUnlike_r2, proofmarklaw10_RvUnlike_r3, proofmarklaw10_RvUnlike_r4, proofmarklaw10_RvUnlike_r5, proofmarklaw10_RvUnlike_r6, proofmarklaw10_RvUnlike_r7, proofmarklaw10_RvUnlike_r8, proofmarklaw10_RvUnlike_r9]
      refine callPS hT t_rv_Encode hE rfl 1000 ?_
      simp -implicitDefEqProofs (disch := omega) only [go_sem, ↓reduceIte, reduceCtorEq, Nat.reduceAdd, Nat.reduceEqDiff, Nat.reduceLT, Nat.zero_add, Nat.le_refl]
      refine callPS hT t_rv_Encode hF rfl 7 ?_
      simp -implicitDefEqProofs (disch := omega) only [go_sem, ↓reduceIte, reduceCtorEq, Nat.reduceAdd, Nat.reduceEqDiff, Nat.reduceLT, Nat.zero_add]
      iterate 14 (try (refine run_sem 2 ?_; simp -implicitDefEqProofs (disch := omega) only [go_sem, ↓reduceIte, reduceCtorEq, Nat.reduceAdd, Nat.reduceEqDiff, Nat.zero_add, Nat.le_refl, beq_self_eq_true, bne_self_eq_false, false_implies, and_true, he, hg, hi, e1]))
      refine callPS hT t_rv_Text htx rfl 2 ?_
      simp -implicitDefEqProofs (disch := omega) only [go_sem, ↓reduceIte, reduceCtorEq, Nat.reduceAdd, Nat.reduceEqDiff, Nat.zero_add]
      refine callPS hT t_rv_Text hty rfl 2 ?_
      simp -implicitDefEqProofs (disch := omega) only [go_sem, ↓reduceIte, reduceCtorEq, Nat.reduceAdd, Nat.reduceEqDiff, Nat.zero_add, bne_self_eq_false, bne_self_eq_false, e2]
      iterate 5 (try (refine run_sem 2 ?_; simp -implicitDefEqProofs (disch := omega) only [go_sem, ↓reduceIte, reduceCtorEq, Nat.reduceAdd, Nat.reduceEqDiff, beq_self_eq_true]))
      iterate 3 (try (refine run_sem 2 ?_; simp -implicitDefEqProofs (disch := omega) only [go_sem, ↓reduceIte, reduceCtorEq, Nat.reduceEqDiff]))
      try refine run_sem 1000 ?_
      try simp -implicitDefEqProofs (disch := omega) only [go_sem, ↓reduceIte, reduceCtorEq, Nat.reduceEqDiff, Int.reduceEq, and_true, hs1, hnn]
      refine callPS hT t_rv_Decode hd rfl 1000 ?_
      cases hz : first (xorI .u32 (enc T x).1 (2 ^ (b % 32).toNat)) 0 T with
      | none =>
        simp only [errT, inC]
        simp -implicitDefEqProofs (disch := omega) only [go_sem, ↓reduceIte, reduceCtorEq, Nat.reduceAdd, Nat.reduceEqDiff, Nat.reduceLT, Nat.zero_add, Bool.not_false, Nat.le_refl, Nat.zero_le, Int.reduceBEq, and_true, Bool.not_false]
        iterate 9 (try (refine run_sem 2 ?_; simp -implicitDefEqProofs (disch := omega) only [go_sem, need_of, ↓reduceIte, reduceCtorEq, Nat.reduceAdd, Nat.reduceEqDiff, Nat.reduceLeDiff, Nat.reduceLT, Nat.reduceSub, Nat.reduceMul, Int.reduceToNat, Int.reduceLE, Int.reduceLT, Int.reduceEq, Int.reduceNe, Nat.succ_ne_zero, Nat.zero_add, Nat.add_zero, Nat.mul_one, Nat.one_mul, Nat.zero_mul, decide_true, decide_false, Bool.not_true, Bool.not_false, Nat.le_refl, Nat.zero_le, ge_iff_le, gt_iff_lt, Nat.reduceBEq, Nat.reduceBNe, beq_self_eq_true, bne_self_eq_false, Option.isSome_some, Option.isSome_none, Option.getD_some, Option.getD_none, proofmarklaw10_RvUnlike, proofmarklaw10_RvUnlike_r0, proofmarklaw10_RvUnlike_r1, proofmarklaw10_RvUnlike_r2, proofmarklaw10_RvUnlike_r3, proofmarklaw10_RvUnlike_r4, proofmarklaw10_RvUnlike_r5, proofmarklaw10_RvUnlike_r6, proofmarklaw10_RvUnlike_r7, proofmarklaw10_RvUnlike_r8, proofmarklaw10_RvUnlike_r9, Int.reduceBEq, Int.reduceBNe, false_implies, true_implies, true_and, and_true, not_true_eq_false, he, hi, bne_self_eq_false, Bool.not_true, Bool.not_false]))
        try refine run_sem 1000 ?_
        try simp -implicitDefEqProofs (disch := omega) only [go_sem, need_of, ↓reduceIte, reduceCtorEq, Nat.reduceAdd, Nat.reduceEqDiff, Nat.reduceLeDiff, Nat.reduceLT, Nat.reduceSub, Nat.reduceMul, Int.reduceToNat, Int.reduceLE, Int.reduceLT, Int.reduceEq, Int.reduceNe, Nat.succ_ne_zero, Nat.zero_add, Nat.add_zero, Nat.mul_one, Nat.one_mul, Nat.zero_mul, decide_true, decide_false, Bool.not_true, Bool.not_false, Nat.le_refl, Nat.zero_le, ge_iff_le, gt_iff_lt, Nat.reduceBEq, Nat.reduceBNe, beq_self_eq_true, bne_self_eq_false, Option.isSome_some, Option.isSome_none, Option.getD_some, Option.getD_none, proofmarklaw10_RvUnlike, proofmarklaw10_RvUnlike_r0, proofmarklaw10_RvUnlike_r1, proofmarklaw10_RvUnlike_r2, proofmarklaw10_RvUnlike_r3, proofmarklaw10_RvUnlike_r4, proofmarklaw10_RvUnlike_r5, proofmarklaw10_RvUnlike_r6, proofmarklaw10_RvUnlike_r7, proofmarklaw10_RvUnlike_r8, proofmarklaw10_RvUnlike_r9, Int.reduceBEq, Int.reduceBNe, false_implies, true_implies, true_and, and_true, not_true_eq_false, he, hi, bne_self_eq_false, Bool.not_true, Bool.not_false]
        refine callPS hT t_proofmarklaw10_works hw rfl 1000 ?_
        simp -implicitDefEqProofs (disch := omega) only [go_sem, ↓reduceIte, reduceCtorEq, Nat.reduceEqDiff]
      | some z =>
        obtain ⟨ke, kz⟩ := first_enc z1 z2 hz
        have htz := c_Text hT F z kz
        have hne : z ≠ x := fun e => z0 (by rw [e] at ke; exact (congrArg Prod.fst ke).symm)
        have h3 := in_eq z x
        have h4 : (txt F.fmt T z == txt F.fmt T x) = false := by
          rw [beq_eq_false_iff_ne]
          exact fun h => hne (txt_inj F.ok (by rw [ke]) he kz.2.2.2.2 hx.2.2.2.2 ⟨kz.2.1.1, kz.2.2.1.1, kz.2.2.2.1.1⟩ ⟨hx.2.1.1, hx.2.2.1.1, hx.2.2.2.1.1⟩ h)
        rw [decide_eq_false hne] at h3
        simp only [errT, inC] at htz ⊢
        simp -implicitDefEqProofs (disch := omega) only [go_sem, ↓reduceIte, reduceCtorEq, Nat.reduceAdd, Nat.reduceEqDiff, Nat.reduceLT, Nat.zero_add, Bool.not_false, Nat.le_refl, Nat.zero_le, beq_self_eq_true, false_implies, and_true, h3, Bool.not_false]
        refine callPS hT t_rv_Text htz rfl 2 ?_
        simp -implicitDefEqProofs (disch := omega) only [go_sem, ↓reduceIte, reduceCtorEq, Nat.reduceAdd, Nat.reduceEqDiff]
        refine callPS hT t_rv_Text htx rfl 2 ?_
        simp -implicitDefEqProofs (disch := omega) only [go_sem, ↓reduceIte, reduceCtorEq, Nat.reduceAdd, Nat.reduceEqDiff, Nat.zero_add, h4]
        iterate 9 (try (refine run_sem 2 ?_; simp -implicitDefEqProofs (disch := omega) only [go_sem, ↓reduceIte, reduceCtorEq, Nat.reduceEqDiff]))
        try refine run_sem 1000 ?_
        try simp -implicitDefEqProofs (disch := omega) only [go_sem, need_of, ↓reduceIte, reduceCtorEq, Nat.reduceAdd, Nat.reduceEqDiff, Nat.reduceLeDiff, Nat.reduceLT, Nat.reduceSub, Nat.reduceMul, Int.reduceToNat, Int.reduceLE, Int.reduceLT, Int.reduceEq, Int.reduceNe, Nat.succ_ne_zero, Nat.zero_add, Nat.add_zero, Nat.mul_one, Nat.one_mul, Nat.zero_mul, decide_true, decide_false, Bool.not_true, Bool.not_false, Nat.le_refl, Nat.zero_le, ge_iff_le, gt_iff_lt, Nat.reduceBEq, Nat.reduceBNe, beq_self_eq_true, bne_self_eq_false, Option.isSome_some, Option.isSome_none, Option.getD_some, Option.getD_none, proofmarklaw10_RvUnlike, proofmarklaw10_RvUnlike_r0, proofmarklaw10_RvUnlike_r1, proofmarklaw10_RvUnlike_r2, proofmarklaw10_RvUnlike_r3, proofmarklaw10_RvUnlike_r4, proofmarklaw10_RvUnlike_r5, proofmarklaw10_RvUnlike_r6, proofmarklaw10_RvUnlike_r7, proofmarklaw10_RvUnlike_r8, proofmarklaw10_RvUnlike_r9, Int.reduceBEq, Int.reduceBNe, false_implies, true_implies, true_and, and_true, not_true_eq_false, h3, h4, bne_self_eq_false, Bool.not_true, Bool.not_false]
        refine callPS hT t_proofmarklaw10_works hw rfl 1000 ?_
        simp -implicitDefEqProofs (disch := omega) only [go_sem, ↓reduceIte, reduceCtorEq, Nat.reduceEqDiff]
    · have hi := hi
      simp only [inC] at hE hF htx hty hi ⊢
      refine C_tab hT t_proofmarklaw10_RvUnlike (by simp [proofmarklaw10_RvUnlike]) (W_run 1000 ?_)
      simp -implicitDefEqProofs (disch := omega) only [go_sem, ↓reduceIte, reduceCtorEq, Nat.reduceAdd, Nat.reduceEqDiff, Nat.zero_add, Nat.le_refl, proofmarklaw10_RvUnlike, proofmarklaw10_RvUnlike_r0, proofmarklaw10_RvUnlike_r1, proofmarklaw10_RvUnlike_r2, proofmarklaw10_RvUnlike_r3, proofmarklaw10_RvUnlike_r4, proofmarklaw10_RvUnlike_r5, proofmarklaw10_RvUnlike_r6, proofmarklaw10_RvUnlike_r7, proofmarklaw10_RvUnlike_r8, proofmarklaw10_RvUnlike_r9]
      refine callPS hT t_rv_Encode hE rfl 1000 ?_
      simp -implicitDefEqProofs (disch := omega) only [go_sem, ↓reduceIte, reduceCtorEq, Nat.reduceAdd, Nat.reduceEqDiff, Nat.reduceLT, Nat.zero_add, Nat.le_refl]
      refine callPS hT t_rv_Encode hF rfl 7 ?_
      simp -implicitDefEqProofs (disch := omega) only [go_sem, ↓reduceIte, reduceCtorEq, Nat.reduceAdd, Nat.reduceEqDiff, Nat.reduceLT, Nat.zero_add]
      iterate 20 (try (refine run_sem 2 ?_; simp -implicitDefEqProofs (disch := omega) only [go_sem, ↓reduceIte, reduceCtorEq, Nat.reduceAdd, Nat.reduceEqDiff, Nat.zero_add, beq_self_eq_true, false_implies, true_implies, true_and, he, hg]))
      try refine run_sem 1000 ?_
      try simp -implicitDefEqProofs (disch := omega) only [go_sem, ↓reduceIte, reduceCtorEq, Nat.reduceEqDiff, Int.reduceEq, and_true, hs1, hnn]
      refine callPS hT t_rv_Decode hd rfl 1000 ?_
      cases hz : first (xorI .u32 (enc T x).1 (2 ^ (b % 32).toNat)) 0 T with
      | none =>
        simp only [errT, inC]
        simp -implicitDefEqProofs (disch := omega) only [go_sem, ↓reduceIte, reduceCtorEq, Nat.reduceAdd, Nat.reduceEqDiff, Nat.reduceLT, Nat.zero_add, Bool.not_false, Nat.le_refl, Nat.zero_le, Int.reduceBEq, and_true, Bool.not_false]
        iterate 9 (try (refine run_sem 2 ?_; simp -implicitDefEqProofs (disch := omega) only [go_sem, need_of, ↓reduceIte, reduceCtorEq, Nat.reduceAdd, Nat.reduceEqDiff, Nat.reduceLeDiff, Nat.reduceLT, Nat.reduceSub, Nat.reduceMul, Int.reduceToNat, Int.reduceLE, Int.reduceLT, Int.reduceEq, Int.reduceNe, Nat.succ_ne_zero, Nat.zero_add, Nat.add_zero, Nat.mul_one, Nat.one_mul, Nat.zero_mul, decide_true, decide_false, Bool.not_true, Bool.not_false, Nat.le_refl, Nat.zero_le, ge_iff_le, gt_iff_lt, Nat.reduceBEq, Nat.reduceBNe, beq_self_eq_true, bne_self_eq_false, Option.isSome_some, Option.isSome_none, Option.getD_some, Option.getD_none, proofmarklaw10_RvUnlike, proofmarklaw10_RvUnlike_r0, proofmarklaw10_RvUnlike_r1, proofmarklaw10_RvUnlike_r2, proofmarklaw10_RvUnlike_r3, proofmarklaw10_RvUnlike_r4, proofmarklaw10_RvUnlike_r5, proofmarklaw10_RvUnlike_r6, proofmarklaw10_RvUnlike_r7, proofmarklaw10_RvUnlike_r8, proofmarklaw10_RvUnlike_r9, Int.reduceBEq, Int.reduceBNe, false_implies, true_implies, true_and, and_true, not_true_eq_false, he, hi, bne_self_eq_false, Bool.not_true, Bool.not_false]))
        try refine run_sem 1000 ?_
        try simp -implicitDefEqProofs (disch := omega) only [go_sem, need_of, ↓reduceIte, reduceCtorEq, Nat.reduceAdd, Nat.reduceEqDiff, Nat.reduceLeDiff, Nat.reduceLT, Nat.reduceSub, Nat.reduceMul, Int.reduceToNat, Int.reduceLE, Int.reduceLT, Int.reduceEq, Int.reduceNe, Nat.succ_ne_zero, Nat.zero_add, Nat.add_zero, Nat.mul_one, Nat.one_mul, Nat.zero_mul, decide_true, decide_false, Bool.not_true, Bool.not_false, Nat.le_refl, Nat.zero_le, ge_iff_le, gt_iff_lt, Nat.reduceBEq, Nat.reduceBNe, beq_self_eq_true, bne_self_eq_false, Option.isSome_some, Option.isSome_none, Option.getD_some, Option.getD_none, proofmarklaw10_RvUnlike, proofmarklaw10_RvUnlike_r0, proofmarklaw10_RvUnlike_r1, proofmarklaw10_RvUnlike_r2, proofmarklaw10_RvUnlike_r3, proofmarklaw10_RvUnlike_r4, proofmarklaw10_RvUnlike_r5, proofmarklaw10_RvUnlike_r6, proofmarklaw10_RvUnlike_r7, proofmarklaw10_RvUnlike_r8, proofmarklaw10_RvUnlike_r9, Int.reduceBEq, Int.reduceBNe, false_implies, true_implies, true_and, and_true, not_true_eq_false, he, hi, bne_self_eq_false, Bool.not_true, Bool.not_false]
        refine callPS hT t_proofmarklaw10_works hw rfl 1000 ?_
        simp -implicitDefEqProofs (disch := omega) only [go_sem, ↓reduceIte, reduceCtorEq, Nat.reduceEqDiff]
      | some z =>
        obtain ⟨ke, kz⟩ := first_enc z1 z2 hz
        have htz := c_Text hT F z kz
        have hne : z ≠ x := fun e => z0 (by rw [e] at ke; exact (congrArg Prod.fst ke).symm)
        have h3 := in_eq z x
        have h4 : (txt F.fmt T z == txt F.fmt T x) = false := by
          rw [beq_eq_false_iff_ne]
          exact fun h => hne (txt_inj F.ok (by rw [ke]) he kz.2.2.2.2 hx.2.2.2.2 ⟨kz.2.1.1, kz.2.2.1.1, kz.2.2.2.1.1⟩ ⟨hx.2.1.1, hx.2.2.1.1, hx.2.2.2.1.1⟩ h)
        rw [decide_eq_false hne] at h3
        simp only [errT, inC] at htz ⊢
        simp -implicitDefEqProofs (disch := omega) only [go_sem, ↓reduceIte, reduceCtorEq, Nat.reduceAdd, Nat.reduceEqDiff, Nat.reduceLT, Nat.zero_add, Bool.not_false, Nat.le_refl, Nat.zero_le, beq_self_eq_true, false_implies, and_true, h3, Bool.not_false]
        refine callPS hT t_rv_Text htz rfl 2 ?_
        simp -implicitDefEqProofs (disch := omega) only [go_sem, ↓reduceIte, reduceCtorEq, Nat.reduceAdd, Nat.reduceEqDiff]
        refine callPS hT t_rv_Text htx rfl 2 ?_
        simp -implicitDefEqProofs (disch := omega) only [go_sem, ↓reduceIte, reduceCtorEq, Nat.reduceAdd, Nat.reduceEqDiff, Nat.zero_add, h4]
        iterate 9 (try (refine run_sem 2 ?_; simp -implicitDefEqProofs (disch := omega) only [go_sem, ↓reduceIte, reduceCtorEq, Nat.reduceEqDiff]))
        try refine run_sem 1000 ?_
        try simp -implicitDefEqProofs (disch := omega) only [go_sem, need_of, ↓reduceIte, reduceCtorEq, Nat.reduceAdd, Nat.reduceEqDiff, Nat.reduceLeDiff, Nat.reduceLT, Nat.reduceSub, Nat.reduceMul, Int.reduceToNat, Int.reduceLE, Int.reduceLT, Int.reduceEq, Int.reduceNe, Nat.succ_ne_zero, Nat.zero_add, Nat.add_zero, Nat.mul_one, Nat.one_mul, Nat.zero_mul, decide_true, decide_false, Bool.not_true, Bool.not_false, Nat.le_refl, Nat.zero_le, ge_iff_le, gt_iff_lt, Nat.reduceBEq, Nat.reduceBNe, beq_self_eq_true, bne_self_eq_false, Option.isSome_some, Option.isSome_none, Option.getD_some, Option.getD_none, proofmarklaw10_RvUnlike, proofmarklaw10_RvUnlike_r0, proofmarklaw10_RvUnlike_r1, proofmarklaw10_RvUnlike_r2, proofmarklaw10_RvUnlike_r3, proofmarklaw10_RvUnlike_r4, proofmarklaw10_RvUnlike_r5, proofmarklaw10_RvUnlike_r6, proofmarklaw10_RvUnlike_r7, proofmarklaw10_RvUnlike_r8, proofmarklaw10_RvUnlike_r9, Int.reduceBEq, Int.reduceBNe, false_implies, true_implies, true_and, and_true, not_true_eq_false, h3, h4, bne_self_eq_false, Bool.not_true, Bool.not_false]
        refine callPS hT t_proofmarklaw10_works hw rfl 1000 ?_
        simp -implicitDefEqProofs (disch := omega) only [go_sem, ↓reduceIte, reduceCtorEq, Nat.reduceEqDiff]
  · simp only [inC] at hE hF ⊢
    refine C_tab hT t_proofmarklaw10_RvUnlike (by simp [proofmarklaw10_RvUnlike]) (W_run 1000 ?_)
    simp -implicitDefEqProofs (disch := omega) only [go_sem, ↓reduceIte, reduceCtorEq, Nat.reduceAdd, Nat.reduceEqDiff, Nat.zero_add, Nat.le_refl, proofmarklaw10_RvUnlike, proofmarklaw10_RvUnlike_r0, proofmarklaw10_RvUnlike_r1, proofmarklaw10_RvUnlike_r2, proofmarklaw10_RvUnlike_r3, proofmarklaw10_RvUnlike_r4, proofmarklaw10_RvUnlike_r5, proofmarklaw10_RvUnlike_r6, proofmarklaw10_RvUnlike_r7, proofmarklaw10_RvUnlike_r8, proofmarklaw10_RvUnlike_r9]
    refine callPS hT t_rv_Encode hE rfl 1000 ?_
    simp -implicitDefEqProofs (disch := omega) only [go_sem, ↓reduceIte, reduceCtorEq, Nat.reduceAdd, Nat.reduceEqDiff, Nat.reduceLT, Nat.zero_add, Nat.le_refl]
    refine callPS hT t_rv_Encode hF rfl 7 ?_
    simp -implicitDefEqProofs (disch := omega) only [go_sem, ↓reduceIte, reduceCtorEq, Nat.reduceAdd, Nat.reduceEqDiff, Nat.reduceLT, Nat.zero_add]
    iterate 20 (try (refine run_sem 2 ?_; simp -implicitDefEqProofs (disch := omega) only [go_sem, ↓reduceIte, reduceCtorEq, Nat.reduceEqDiff, Nat.zero_add, he, false_implies, true_implies, true_and]))
    refine run_sem 1000 ?_
    simp -implicitDefEqProofs (disch := omega) only [go_sem, ↓reduceIte]
    refine callPS hT t_proofmarklaw10_works hw rfl 1000 ?_
    simp -implicitDefEqProofs (disch := omega) only [go_sem, ↓reduceIte, reduceCtorEq, Nat.reduceEqDiff]
end Go.Proofs.YtkhdfbokkneeaaaDoor
