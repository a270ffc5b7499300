/- The law ValueNeeded. -/
import Derived.Test.YtfligilbnpcnaaaGreatDoorX2
namespace Go.Proofs.YtfligilbnpcnaaaGreatDoor
open Go Go.Am
set_option maxRecDepth 100000
set_option maxHeartbeats 1000000
variable {P : Program} {G : Nat → Option V}

theorem c_ValueNeeded (hT : TabOk P tab) (F : Fmt P G) (SO : SortOk P) (SI : SortF P n_slices_Sort_int64_int64) (hW : Pure P G n_proofmarklaw03_works [] fun v => v = .bool true) {t : Nat} (l : List Nd) (tl : Bool) (hl : ∀ d ∈ l, i64 d.n ∧ i64 d.a)
    (S : List Int) (tS : Bool) (C' : List Cl) (tC : Bool) (O : List Int) (tO : Bool) (hS : ∀ x ∈ S, i64 x) (hCn : ∀ c ∈ C', i64 c.n) (hO : ∀ x ∈ O, i64 x) :
   C P G 0 n_proofmarklaw03_ValueNeeded [.lst 6 (l.map fun d => .agg d.cells) tl, envV S tS 4 C' tC, .lst 1 (nints O) tO] ⟨t, []⟩ fun v _ => v = .bool true := by
  have hA := madeL_len l []
  have hok := okN_made l hl
  have hAe : madeL l = l.foldl (fun L d => (addN L d).2) [] := rfl
  rw [← hAe] at hA
  simp only [List.length_nil] at hA
  have hfew := c_few (P := P) (G := G) hT S tS 4 C' tC
  refine C_tab hT t_proofmarklaw03_ValueNeeded (by simp [proofmarklaw03_ValueNeeded]) (W_run 14 ?_)
  by_cases h1 : (60 : Int) < l.length
  · have h1' : decide ((60 : Int) < l.length) = true := by simpa using h1
    simp -implicitDefEqProofs (disch := omega) only [go_sem, ↓reduceIte, reduceCtorEq, Nat.reduceAdd, Nat.reduceEqDiff, Nat.zero_add, decide_true, gt_iff_lt, proofmarklaw03_ValueNeeded, zqf_0, zqf_1, zqf_2, zqf_3, zqf_4, zqf_5, zqf_6, zqf_7, zqf_8, zqf_9, zqf_10, zqf_11, zqf_12, zqf_13, zqf_14, zqf_15, zqf_16, zqf_17, zqf_18, zqf_19, zqf_20, zqf_21, zqf_22, zqf_23, zqf_24, zqf_25, zqf_26, zqf_27, zqf_28, zqf_29, envV, List.length_map, List.length_nil, and_true, List.nil_append, h1]
    iterate 9 (try (refine run_sem 4 ?_; simp -implicitDefEqProofs (disch := omega) only [go_sem, ↓reduceIte, reduceCtorEq, Nat.reduceEqDiff]))
    refine callPS hT t_proofmarklaw03_works hW rfl 1000 ?_
    simp -implicitDefEqProofs (disch := omega) only [go_sem, ↓reduceIte, reduceCtorEq, Nat.reduceEqDiff]
  · have h1' : decide ((60 : Int) < l.length) = false := by simpa using h1
    simp -implicitDefEqProofs (disch := omega) only [go_sem, ↓reduceIte, reduceCtorEq, Nat.reduceAdd, Nat.reduceEqDiff, Nat.zero_add, decide_false, Nat.le_refl, gt_iff_lt, proofmarklaw03_ValueNeeded, zqf_0, zqf_1, zqf_2, zqf_3, zqf_4, zqf_5, zqf_6, zqf_7, zqf_8, zqf_9, zqf_10, zqf_11, zqf_12, zqf_13, zqf_14, zqf_15, zqf_16, zqf_17, zqf_18, zqf_19, zqf_20, zqf_21, zqf_22, zqf_23, zqf_24, zqf_25, zqf_26, zqf_27, zqf_28, zqf_29, envV, List.length_map, List.length_cons, List.length_nil, false_implies, and_true, List.nil_append, h1]
    by_cases h2 : S.length ≤ 60 ∧ C'.length ≤ 60
    · have h2' : decide (S.length ≤ 60 ∧ C'.length ≤ 60) = true := by simpa using h2
      rw [h2'] at hfew
      by_cases h3 : (60 : Int) < O.length
      · have h3' : decide ((60 : Int) < O.length) = true := by simpa using h3
        refine callPS hT t_proofmarklaw03_few hfew rfl 1000 ?_
        simp -implicitDefEqProofs (disch := omega) only [go_sem, ↓reduceIte, reduceCtorEq, Nat.reduceAdd, Nat.reduceEqDiff, decide_true, Bool.not_true, gt_iff_lt, nints_length, Bool.not_true, h3]
        refine callPS hT t_proofmarklaw03_works hW rfl 1000 ?_
        simp -implicitDefEqProofs (disch := omega) only [go_sem, ↓reduceIte, reduceCtorEq, Nat.reduceEqDiff]
      · have h3' : decide ((60 : Int) < O.length) = false := by simpa using h3
        refine callPS hT t_proofmarklaw03_few hfew rfl 10 ?_
        simp -implicitDefEqProofs (disch := omega) only [go_sem, ↓reduceIte, reduceCtorEq, Nat.reduceAdd, Nat.reduceEqDiff, decide_false, Bool.not_true, gt_iff_lt, nints_length, Bool.not_true, h3]
        refine sem_shift (Shift.freeze (k := 0) (v := t) (T := 26) (cs := [.lst 1 (nints S) tS, .lst 4 (C'.map Cl.v) tC]) (Nat.zero_le _) rfl rfl) ?_
        have hfp : frzV 0 t [V.lst 1 (nints S) tS, .lst 4 (C'.map Cl.v) tC] (.ptr 0 t 0) = .ref (.agg [V.lst 1 (nints S) tS, .lst 4 (C'.map Cl.v) tC]) 0 := by simp [frzV]
        simp only [hfp, List.set_cons_zero, frzFr_cons, frzFr_nil, fz_lst, fz_bool, mapFrom, Option.map_none]
        refine sem_shift (Shift.drop (o' := []) (t' := t + 1) (by simp [subObs]) (Nat.le_refl _) (Nat.zero_le _)) (run_sem 1000 ?_)
        simp -implicitDefEqProofs (disch := omega) only [go_sem, ↓reduceIte, reduceCtorEq, Nat.reduceEqDiff]
        refine call hT t_proofmarkkit_Made (c_Made hT F l tl hl (by omega)) 1000 fun v σ hv => ?_
        obtain ⟨v0, v1, v2, v3, v4, c1, u, hc1, rfl, rfl⟩ := hv
        simp -implicitDefEqProofs (disch := omega) only [go_sem, ↓reduceIte, reduceCtorEq, Nat.reduceAdd, Nat.reduceEqDiff, Nat.reduceLT, Nat.zero_add, List.length_cons, List.length_nil]
        refine sem_for (madeL l) (vdJ F.fmt v0 v1 v2 v3 v4 (madeL l) S tS C' tC O tO) (vdE F.fmt v0 v1 v2 v3 v4 (madeL l)) ⟨c1, by simp -implicitDefEqProofs (disch := omega) only [go_sem, ↓reduceIte, reduceCtorEq, Nat.reduceEqDiff], by simp -implicitDefEqProofs (disch := omega) only [go_sem, ↓reduceIte, reduceCtorEq, Nat.reduceEqDiff], by simp -implicitDefEqProofs (disch := omega) only [go_sem, ↓reduceIte, reduceCtorEq, Nat.reduceEqDiff], by simp -implicitDefEqProofs (disch := omega) only [go_sem, ↓reduceIte, reduceCtorEq, Nat.reduceEqDiff]; rfl, rfl⟩ (fun i d hx fr σ hJ => vd_round hT SO SI (by omega) hok h2.1 hS hO (by omega) hCn hx hJ) (fun i hi fr σ hJ => ?_) (fun e fr σ hE => ?_)
        · obtain ⟨t', f2, f4, f7, f9, rfl⟩ := hJ
          have hnl : ¬ i < (madeL l).length := by omega
          refine W_round [(2, .lst 1 (nints O) tO), (4, .ref (.agg [.lst 1 (nints S) tS, .lst 4 (C'.map Cl.v) tC]) 0), (7, .ptr 1 v0 0), (9, .int .i64 ((i : Nat) : Int))] ⟨f2, f4, f7, f9, trivial⟩  1000 ?_
          simp -implicitDefEqProofs (disch := omega) only [go_sem, ↓reduceIte, Nat.reduceEqDiff]
          refine call hT t_term_Graph_Size (z_Size hT) 1000 fun u σ hu => ?_
          obtain ⟨rfl, t1, ht1, rfl⟩ := hu
          simp -implicitDefEqProofs (disch := omega) only [go_sem, ↓reduceIte, Nat.reduceEqDiff, decide_false, hnl]
        · obtain rfl := hE
          refine run_sem 1000 ?_
          simp -implicitDefEqProofs (disch := omega) only [go_sem, ↓reduceIte]
          refine callPS hT t_proofmarklaw03_works hW rfl 1000 ?_
          simp -implicitDefEqProofs (disch := omega) only [go_sem, ↓reduceIte, Nat.reduceEqDiff]
    · have h2' : decide (S.length ≤ 60 ∧ C'.length ≤ 60) = false := by simpa using h2
      rw [h2'] at hfew
      refine callPS hT t_proofmarklaw03_few hfew rfl 1000 ?_
      simp -implicitDefEqProofs (disch := omega) only [go_sem, ↓reduceIte, reduceCtorEq, Nat.reduceAdd, Nat.reduceEqDiff, Bool.not_false, Bool.not_false]
      refine callPS hT t_proofmarklaw03_works hW rfl 1000 ?_
      simp -implicitDefEqProofs (disch := omega) only [go_sem, ↓reduceIte, reduceCtorEq, Nat.reduceEqDiff]
end Go.Proofs.YtfligilbnpcnaaaGreatDoor

