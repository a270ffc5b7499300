/- The law RupCheck. -/
import Derived.Test.YtingdebioipemaaRc10
namespace Go.Proofs.Ytingdebioipemaa
open Go Go.Am Go.Cl
set_option maxRecDepth 100000
variable {G : Nat → Option V}

theorem c_plain {P : Program} (hT : TabOk P tab) (v : Int) (F : List (List Int)) : Pure P G n_proofmarklaw08_plain [fml v F] fun u => u = fml v F := by
  intro t
  simp only [fml, rows]
  refine C_keep 0 (Nat.zero_le _) (C_tab hT t_proofmarklaw08_plain (by simp [proofmarklaw08_plain]) (W_run 1000 ?_))
  simp -implicitDefEqProofs (disch := omega) only [go_sem, ↓reduceIte, reduceCtorEq, Nat.reduceAdd, Nat.reduceEqDiff, Nat.reduceLeDiff, Nat.zero_add, Nat.add_zero, Bool.not_false, Nat.le_refl, Nat.zero_le, proofmarklaw08_plain, proofmarklaw08_plain_r0, proofmarklaw08_plain_r1]
theorem shortS_mem {v : Int} {F : List (List Int)} : ∀ (k : Nat) (p : List (List Int)), k < p.length → (shortS v F k p).length ≤ p.length ∧ ∀ c ∈ shortS v F k p, c ∈ p
  | 0, p, _ => ⟨Nat.le_refl _, fun c h => h⟩
  | k + 1, p, hk => by
    rw [shortS]
    have hl := rdrop_length (p := p) (i := k) (by omega)
    split
    · have h := shortS_mem (v := v) (F := F) k (dropAt p k) (by omega)
      exact ⟨by omega, fun c hc => rdrop_mem (h.2 c hc)⟩
    · have h := shortS_mem (v := v) (F := F) k p (by omega)
      exact h
theorem short_mem {v : Int} {F p : List (List Int)} : (short v F p).1.length ≤ p.length ∧ ∀ c ∈ (short v F p).1, c ∈ p := by
  unfold short
  split
  · rename_i h
    have hpos : 0 < p.length := by rw [checkS_eq] at h; simp at h; omega
    exact shortS_mem _ _ (by omega)
  · simp
set_option maxHeartbeats 1000000 in
theorem c_RupCheck (hT : TabOk Try.prog tab) (v : Int) (F p : List (List Int)) (c : List Int) (hF : F.length ≤ 9223372036854775807) (hFc : ∀ c ∈ F, c.length ≤ 9223372036854775807) (hp : p.length ≤ 9223372036854775807) (hpc : ∀ c ∈ p, c.length ≤ 9223372036854775807)
    (hcl : c.length ≤ 9223372036854775807) (hpb : ∀ c ∈ p, ∀ n ∈ c, -9223372036854775808 ≤ n ∧ n ≤ 9223372036854775807) (hb : ∀ n ∈ c, -9223372036854775808 ≤ n ∧ n ≤ 9223372036854775807) :
    Pure Try.prog G n_proofmarklaw08_RupCheck [fml v F, rows p, row c] fun u => u = .bool true := by
  have hW := c_works (G := G) hT
  have hf1 := c_few (G := G) hT F 30 (by omega) hF hFc
  have hf2 := c_few (G := G) hT p 12 (by omega) hp hpc
  simp only [fml, rows, row] at hf1 hf2 ⊢
  intro t
  refine C_keep 0 (Nat.zero_le _) (C_tab hT t_proofmarklaw08_RupCheck (by simp [proofmarklaw08_RupCheck]) (W_run 1000 ?_))
  simp -implicitDefEqProofs (disch := omega) only [go_sem, ↓reduceIte, reduceCtorEq, Nat.reduceAdd, Nat.reduceEqDiff, Nat.zero_add, Nat.le_refl, proofmarklaw08_RupCheck, proofmarklaw08_RupCheck_r0, proofmarklaw08_RupCheck_r1, proofmarklaw08_RupCheck_r2, proofmarklaw08_RupCheck_r3, proofmarklaw08_RupCheck_r4, proofmarklaw08_RupCheck_r5, proofmarklaw08_RupCheck_r6, true_implies, and_true]
  refine callPS hT t_proofmarklaw08_few hf1 (by simp [namelessL, nameless]) 4 ?_
  cases h1 : fewS F 30 with
  | false =>
    simp -implicitDefEqProofs (disch := omega) only [go_sem, ↓reduceIte, reduceCtorEq, Nat.reduceEqDiff, Bool.not_false, Bool.not_false]
    iterate 9 (try (refine run_sem 4 ?_; simp -implicitDefEqProofs (disch := omega) only [go_sem, ↓reduceIte, reduceCtorEq, Nat.reduceEqDiff]))
    refine callPS hT t_proofmarklaw08_works hW rfl 4 ?_
    simp -implicitDefEqProofs (disch := omega) only [go_sem, ↓reduceIte, reduceCtorEq, Nat.reduceEqDiff]
    iterate 4 (try (refine run_sem 4 ?_; simp -implicitDefEqProofs (disch := omega) only [go_sem, ↓reduceIte, reduceCtorEq, Nat.reduceEqDiff, Nat.zero_add, Nat.zero_le, and_true]))
  | true =>
    simp -implicitDefEqProofs (disch := omega) only [go_sem, ↓reduceIte, reduceCtorEq, Nat.reduceAdd, Nat.reduceEqDiff, Nat.zero_add, Bool.not_true, Bool.not_true]
    iterate 9 (try (refine run_sem 4 ?_; simp -implicitDefEqProofs (disch := omega) only [go_sem, need_of, ↓reduceIte, reduceCtorEq, Nat.reduceAdd, Nat.reduceEqDiff, Nat.reduceLeDiff, Nat.reduceLT, Nat.reduceSub, Nat.reduceMul, Int.reduceToNat, Int.reduceLE, Int.reduceLT, Int.reduceEq, Int.reduceNe, Nat.succ_ne_zero, Nat.zero_add, Nat.add_zero, Nat.mul_one, Nat.one_mul, Nat.zero_mul, decide_true, decide_false, Bool.not_true, Bool.not_false, Nat.le_refl, Nat.zero_le, ge_iff_le, gt_iff_lt, Nat.reduceBEq, Nat.reduceBNe, beq_self_eq_true, bne_self_eq_false, Option.isSome_some, Option.isSome_none, Option.getD_some, Option.getD_none, proofmarklaw08_RupCheck, proofmarklaw08_RupCheck_r0, proofmarklaw08_RupCheck_r1, proofmarklaw08_RupCheck_r2, proofmarklaw08_RupCheck_r3, proofmarklaw08_RupCheck_r4, proofmarklaw08_RupCheck_r5, proofmarklaw08_RupCheck_r6, List.length_map, ints_length, false_implies, true_implies, true_and, and_true, not_true_eq_false, not_false_eq_true, Bool.not_true, Bool.not_false]))
    refine callPS hT t_proofmarklaw08_few hf2 (by simp [namelessL, nameless]) 4 ?_
    cases h2 : fewS p 12 with
    | false =>
      simp -implicitDefEqProofs (disch := omega) only [go_sem, ↓reduceIte, reduceCtorEq, Nat.reduceAdd, Nat.reduceEqDiff, Bool.not_false, Bool.not_false]
      iterate 9 (try (refine run_sem 4 ?_; simp -implicitDefEqProofs (disch := omega) only [go_sem, ↓reduceIte, reduceCtorEq, Nat.reduceEqDiff]))
      refine callPS hT t_proofmarklaw08_works hW rfl 4 ?_
      simp -implicitDefEqProofs (disch := omega) only [go_sem, ↓reduceIte, reduceCtorEq, Nat.reduceEqDiff]
      iterate 4 (try (refine run_sem 4 ?_; simp -implicitDefEqProofs (disch := omega) only [go_sem, ↓reduceIte, reduceCtorEq, Nat.reduceEqDiff, Nat.zero_add, Nat.zero_le, and_true]))
    | true =>
      rcases Nat.lt_or_ge 20 c.length with h3 | h3
      · have h3' : ((20 : Int) < (c.length : Int)) = True := eq_true (by omega)
        simp -implicitDefEqProofs (disch := omega) only [go_sem, ↓reduceIte, reduceCtorEq, Nat.reduceAdd, Nat.reduceEqDiff, Nat.zero_add, Bool.not_true, Bool.not_true]
        iterate 9 (try (refine run_sem 4 ?_; simp -implicitDefEqProofs (disch := omega) only [go_sem, ↓reduceIte, reduceCtorEq, Nat.reduceAdd, Nat.reduceEqDiff, decide_true, gt_iff_lt, ints_length, h3']))
        refine callPS hT t_proofmarklaw08_works hW rfl 4 ?_
        simp -implicitDefEqProofs (disch := omega) only [go_sem, ↓reduceIte, reduceCtorEq, Nat.reduceEqDiff]
        iterate 4 (try (refine run_sem 4 ?_; simp -implicitDefEqProofs (disch := omega) only [go_sem, ↓reduceIte, reduceCtorEq, Nat.reduceEqDiff, Nat.zero_add, Nat.zero_le, and_true]))
      · have h3' : ((20 : Int) < (c.length : Int)) = False := eq_false (by omega)
        obtain ⟨hF30, hF20⟩ := few_le (k := 30) h1
        obtain ⟨hp12, hp20⟩ := few_le (k := 12) h2
        have hPl := c_plain (P := Try.prog) (G := G) hT v F
        have hF500 : ∀ c ∈ F, c.length ≤ 500 := fun c h => by have := hF20 c h; omega
        have hF1000 : ∀ c ∈ F, c.length ≤ 1000 := fun c h => by have := hF20 c h; omega
        have hp500 : ∀ c ∈ p, c.length ≤ 500 := fun c h => by have := hp20 c h; omega
        have hp1000 : ∀ c ∈ p, c.length ≤ 1000 := fun c h => by have := hp20 c h; omega
        have a1 := c_Short (G := G) hT v F p (by omega) hF1000 hp1000 hpb
        have a2 := c_rShort (P := Try.prog) (G := G) hT v F p (by omega) hF500 hp500 hpb
        have b1 := c_Follows (G := G) hT v F c (by omega) hF1000 (by omega) hb
        have b2 := c_r8Follows (P := Try.prog) (G := G) hT v F c (by omega) hF1000 (by omega) hb
        have d1 := c_First (G := G) hT v F p (by omega) hF1000 hp1000 hpb
        have d2 := c_rFirst (P := Try.prog) (G := G) hT v F p (by omega) hF500 hp500 hpb
        have e1 := c_Check (G := G) hT v F p (by omega) hF1000 hp1000 hpb
        have e2 := c_rCheck (P := Try.prog) (G := G) hT v F p (by omega) hF500 hp500 hpb
        have hsm := short_mem (v := v) (F := F) (p := p)
        have s1 := c_sameRows (P := Try.prog) (G := G) hT (short v F p).1 (short v F p).1 (by omega) (by omega) (fun c h => by have := hp20 c (hsm.2 c h); omega) (fun c h => by have := hp20 c (hsm.2 c h); omega)
        rw [decide_eq_true rfl] at s1
        generalize (short v F p).1 = S at *
        generalize (short v F p).2 = ok at *
        simp only [fml, rows, row] at hPl a1 a2 b1 b2 d1 d2 e1 e2 s1
        have nn : namelessL [V.agg [V.int .i64 v, V.lst 1 (F.map row) false], V.lst 1 (p.map row) false] = true := by simp [namelessL, nameless]
        have nc : namelessL [V.agg [V.int .i64 v, V.lst 1 (F.map row) false], V.lst 1 (ints c) false] = true := by simp [namelessL, nameless]
        simp -implicitDefEqProofs (disch := omega) only [go_sem, ↓reduceIte, reduceCtorEq, Nat.reduceAdd, Nat.reduceEqDiff, Nat.zero_add, Bool.not_true, Bool.not_true]
        iterate 9 (try (refine run_sem 4 ?_; simp -implicitDefEqProofs (disch := omega) only [go_sem, ↓reduceIte, reduceCtorEq, Nat.reduceAdd, Nat.reduceEqDiff, Nat.zero_add, decide_false, Nat.le_refl, gt_iff_lt, ints_length, false_implies, and_true, h3']))
        refine callPS hT t_proofmarklaw08_plain hPl (by simp [namelessL, nameless]) 4 ?_
        simp -implicitDefEqProofs (disch := omega) only [go_sem, ↓reduceIte, reduceCtorEq, Nat.reduceAdd, Nat.reduceEqDiff, Nat.zero_add, Bool.not_false, Nat.le_refl, Nat.zero_le, and_true, Bool.not_false]
        iterate 9 (try (refine run_sem 4 ?_; simp -implicitDefEqProofs (disch := omega) only [go_sem, ↓reduceIte, reduceCtorEq, Nat.reduceAdd, Nat.reduceEqDiff, Nat.zero_add, Nat.le_refl, false_implies, and_true]))
        refine callPS hT t_rup_Short a1 nn 4 ?_
        simp -implicitDefEqProofs (disch := omega) only [go_sem, ↓reduceIte, reduceCtorEq, Nat.reduceAdd, Nat.reduceEqDiff, Nat.reduceLT, Nat.zero_add]
        iterate 9 (try (refine run_sem 4 ?_; simp -implicitDefEqProofs (disch := omega) only [go_sem, ↓reduceIte, reduceCtorEq, Nat.reduceAdd, Nat.reduceEqDiff, Nat.zero_add, Nat.le_refl, false_implies, and_true]))
        refine callPS hT t_proofmarkref08_Short a2 nn 4 ?_
        simp -implicitDefEqProofs (disch := omega) only [go_sem, ↓reduceIte, reduceCtorEq, Nat.reduceAdd, Nat.reduceEqDiff, Nat.reduceLT, Nat.zero_add]
        iterate 9 (try (refine run_sem 4 ?_; simp -implicitDefEqProofs (disch := omega) only [go_sem, ↓reduceIte, reduceCtorEq, Nat.reduceAdd, Nat.reduceEqDiff, Nat.zero_add, Nat.le_refl, false_implies, and_true]))
        refine callPS hT t_rup_Follows b1 nc 4 ?_
        simp -implicitDefEqProofs (disch := omega) only [go_sem, ↓reduceIte, reduceCtorEq, Nat.reduceEqDiff]
        iterate 9 (try (refine run_sem 4 ?_; simp -implicitDefEqProofs (disch := omega) only [go_sem, need_of, ↓reduceIte, reduceCtorEq, Nat.reduceAdd, Nat.reduceEqDiff, Nat.reduceLeDiff, Nat.reduceLT, Nat.reduceSub, Nat.reduceMul, Int.reduceToNat, Int.reduceLE, Int.reduceLT, Int.reduceEq, Int.reduceNe, Nat.succ_ne_zero, Nat.zero_add, Nat.add_zero, Nat.mul_one, Nat.one_mul, Nat.zero_mul, decide_true, decide_false, Bool.not_true, Bool.not_false, Nat.le_refl, Nat.zero_le, ge_iff_le, gt_iff_lt, Nat.reduceBEq, Nat.reduceBNe, beq_self_eq_true, bne_self_eq_false, Option.isSome_some, Option.isSome_none, Option.getD_some, Option.getD_none, proofmarklaw08_RupCheck, proofmarklaw08_RupCheck_r0, proofmarklaw08_RupCheck_r1, proofmarklaw08_RupCheck_r2, proofmarklaw08_RupCheck_r3, proofmarklaw08_RupCheck_r4, proofmarklaw08_RupCheck_r5, proofmarklaw08_RupCheck_r6, List.length_map, ints_length, false_implies, true_implies, true_and, and_true, not_true_eq_false, not_false_eq_true, Bool.not_true, Bool.not_false]))
        refine callPS hT t_proofmarkref08_Follows b2 nc 4 ?_
        simp -implicitDefEqProofs (disch := omega) only [go_sem, ↓reduceIte, reduceCtorEq, Nat.reduceAdd, Nat.reduceEqDiff, Nat.zero_add, Nat.le_refl, beq_self_eq_true, false_implies, and_true]
        iterate 9 (try (refine run_sem 4 ?_; simp -implicitDefEqProofs (disch := omega) only [go_sem, ↓reduceIte, reduceCtorEq, Nat.reduceAdd, Nat.reduceEqDiff, Nat.zero_add, Nat.le_refl, false_implies, and_true]))
        refine callPS hT t_rup_First d1 nn 4 ?_
        simp -implicitDefEqProofs (disch := omega) only [go_sem, ↓reduceIte, reduceCtorEq, Nat.reduceAdd, Nat.reduceEqDiff]
        iterate 9 (try (refine run_sem 4 ?_; simp -implicitDefEqProofs (disch := omega) only [go_sem, need_of, ↓reduceIte, reduceCtorEq, Nat.reduceAdd, Nat.reduceEqDiff, Nat.reduceLeDiff, Nat.reduceLT, Nat.reduceSub, Nat.reduceMul, Int.reduceToNat, Int.reduceLE, Int.reduceLT, Int.reduceEq, Int.reduceNe, Nat.succ_ne_zero, Nat.zero_add, Nat.add_zero, Nat.mul_one, Nat.one_mul, Nat.zero_mul, decide_true, decide_false, Bool.not_true, Bool.not_false, Nat.le_refl, Nat.zero_le, ge_iff_le, gt_iff_lt, Nat.reduceBEq, Nat.reduceBNe, beq_self_eq_true, bne_self_eq_false, Option.isSome_some, Option.isSome_none, Option.getD_some, Option.getD_none, proofmarklaw08_RupCheck, proofmarklaw08_RupCheck_r0, proofmarklaw08_RupCheck_r1, proofmarklaw08_RupCheck_r2, proofmarklaw08_RupCheck_r3, proofmarklaw08_RupCheck_r4, proofmarklaw08_RupCheck_r5, proofmarklaw08_RupCheck_r6, List.length_map, ints_length, false_implies, true_implies, true_and, and_true, not_true_eq_false, not_false_eq_true, Bool.not_true, Bool.not_false]))
        refine callPS hT t_proofmarkref08_First d2 nn 4 ?_
        simp -implicitDefEqProofs (disch := omega) only [go_sem, ↓reduceIte, reduceCtorEq, Nat.reduceAdd, Nat.reduceEqDiff, Nat.zero_add, Nat.le_refl, beq_self_eq_true, false_implies, and_true]
        iterate 9 (try (refine run_sem 4 ?_; simp -implicitDefEqProofs (disch := omega) only [go_sem, ↓reduceIte, reduceCtorEq, Nat.reduceAdd, Nat.reduceEqDiff, Nat.zero_add, Nat.le_refl, false_implies, and_true]))
        refine callPS hT t_rup_Check e1 nn 4 ?_
        simp -implicitDefEqProofs (disch := omega) only [go_sem, ↓reduceIte, reduceCtorEq, Nat.reduceAdd, Nat.reduceEqDiff]
        iterate 9 (try (refine run_sem 4 ?_; simp -implicitDefEqProofs (disch := omega) only [go_sem, need_of, ↓reduceIte, reduceCtorEq, Nat.reduceAdd, Nat.reduceEqDiff, Nat.reduceLeDiff, Nat.reduceLT, Nat.reduceSub, Nat.reduceMul, Int.reduceToNat, Int.reduceLE, Int.reduceLT, Int.reduceEq, Int.reduceNe, Nat.succ_ne_zero, Nat.zero_add, Nat.add_zero, Nat.mul_one, Nat.one_mul, Nat.zero_mul, decide_true, decide_false, Bool.not_true, Bool.not_false, Nat.le_refl, Nat.zero_le, ge_iff_le, gt_iff_lt, Nat.reduceBEq, Nat.reduceBNe, beq_self_eq_true, bne_self_eq_false, Option.isSome_some, Option.isSome_none, Option.getD_some, Option.getD_none, proofmarklaw08_RupCheck, proofmarklaw08_RupCheck_r0, proofmarklaw08_RupCheck_r1, proofmarklaw08_RupCheck_r2, proofmarklaw08_RupCheck_r3, proofmarklaw08_RupCheck_r4, proofmarklaw08_RupCheck_r5, proofmarklaw08_RupCheck_r6, List.length_map, ints_length, false_implies, true_implies, true_and, and_true, not_true_eq_false, not_false_eq_true, Bool.not_true, Bool.not_false]))
        refine callPS hT t_proofmarkref08_Check e2 nn 4 ?_
        simp -implicitDefEqProofs (disch := omega) only [go_sem, ↓reduceIte, reduceCtorEq, Nat.reduceAdd, Nat.reduceEqDiff, Nat.zero_add, beq_self_eq_true]
        iterate 9 (try (refine run_sem 4 ?_; simp -implicitDefEqProofs (disch := omega) only [go_sem, ↓reduceIte, reduceCtorEq, Nat.reduceAdd, Nat.reduceEqDiff, beq_self_eq_true]))
        refine callPS hT t_proofmarklaw08_sameRows s1 (by simp [namelessL, nameless]) 4 ?_
        simp -implicitDefEqProofs (disch := omega) only [go_sem, ↓reduceIte, reduceCtorEq, Nat.reduceAdd, Nat.reduceEqDiff]
        iterate 9 (try (refine run_sem 4 ?_; simp -implicitDefEqProofs (disch := omega) only [go_sem, need_of, ↓reduceIte, reduceCtorEq, Nat.reduceAdd, Nat.reduceEqDiff, Nat.reduceLeDiff, Nat.reduceLT, Nat.reduceSub, Nat.reduceMul, Int.reduceToNat, Int.reduceLE, Int.reduceLT, Int.reduceEq, Int.reduceNe, Nat.succ_ne_zero, Nat.zero_add, Nat.add_zero, Nat.mul_one, Nat.one_mul, Nat.zero_mul, decide_true, decide_false, Bool.not_true, Bool.not_false, Nat.le_refl, Nat.zero_le, ge_iff_le, gt_iff_lt, Nat.reduceBEq, Nat.reduceBNe, beq_self_eq_true, bne_self_eq_false, Option.isSome_some, Option.isSome_none, Option.getD_some, Option.getD_none, proofmarklaw08_RupCheck, proofmarklaw08_RupCheck_r0, proofmarklaw08_RupCheck_r1, proofmarklaw08_RupCheck_r2, proofmarklaw08_RupCheck_r3, proofmarklaw08_RupCheck_r4, proofmarklaw08_RupCheck_r5, proofmarklaw08_RupCheck_r6, List.length_map, ints_length, false_implies, true_implies, true_and, and_true, not_true_eq_false, not_false_eq_true, Bool.not_true, Bool.not_false]))
        refine callPS hT t_proofmarklaw08_works hW rfl 4 ?_
        simp -implicitDefEqProofs (disch := omega) only [go_sem, ↓reduceIte, reduceCtorEq, Nat.reduceEqDiff]
        iterate 9 (try (refine run_sem 4 ?_; simp -implicitDefEqProofs (disch := omega) only [go_sem, ↓reduceIte, reduceCtorEq, Nat.reduceAdd, Nat.reduceEqDiff, Nat.zero_add, Nat.zero_le, and_true]))
end Go.Proofs.Ytingdebioipemaa
