/- The law ValueBehind. -/
import Derived.Test.YtfligilbnpcnaaaDoorX6
namespace Go.Proofs.YtfligilbnpcnaaaDoor
open Go Go.Am
set_option maxRecDepth 100000
set_option maxHeartbeats 1000000
variable {P : Program} {G : Nat → Option V}

theorem fz_sl {k w n v o z l : Nat} {m : Option Nat} {cs : List V} (h : n ≠ k) : frzV k w cs (.sl n v o z l m) = .sl n v o z l m := by simp [frzV, h]
theorem clC_int : ∀ C : List Cl, ∀ u ∈ clC C, ∃ t i, u = V.int t i := by
  intro C u hu
  obtain ⟨l, hl, hu⟩ := List.mem_flatten.1 hu
  obtain ⟨c, _, rfl⟩ := List.mem_map.1 hl
  simp only [Cl.cells, List.mem_cons, List.not_mem_nil, or_false] at hu
  rcases hu with rfl | rfl | rfl | rfl <;> exact ⟨_, _, rfl⟩
theorem fz_clC {k r : Nat} {B : List Cl} : frzV k r (clC B) (.sl k r 0 4 B.length none) = .lst 4 (B.map Cl.v) false := by
  have h := clC_len B
  rw [frzV, if_pos ⟨rfl, rfl⟩, if_pos ⟨by omega, by omega⟩, rowsV, if_neg (by omega), List.drop_zero, chunk_clC]
theorem flat_n : ∀ l : List Int, ((nints l).map V.cells).flatten = nints l
  | [] => rfl
  | x :: l => by
    have h : nints (x :: l) = [V.int .i64 x] ++ nints l := rfl
    rw [h, List.map_append, List.flatten_append, flat_n l]
    rfl
theorem flat_v : ∀ C : List Cl, ((C.map Cl.v).map V.cells).flatten = clC C
  | [] => rfl
  | c :: C => by
    have h : clC (c :: C) = c.cells ++ clC C := by simp [clC]
    rw [h, List.map_cons, List.map_cons, List.flatten_cons, flat_v C]
    rfl
theorem c_ValueBehind (hT : TabOk P tab) (F : Fmt P G) (SO : SortOk P) (SI : SortF P n_slices_Sort_int64_int64) (hW : Pure P G n_proofmarklaw03_works [] fun v => v = .bool true) {t : Nat} (l : List Nd) (tl : Bool) (hl : ∀ d ∈ l, i64 d.n ∧ i64 d.a)
    (S : List Int) (tS : Bool) (C' : List Cl) (tC : Bool) (O : List Int) (tO : Bool) (hS : ∀ x ∈ S, i64 x) (hCn : ∀ c ∈ C', i64 c.n) (hO : ∀ x ∈ O, i64 x) :
   C P G 0 n_proofmarklaw03_ValueBehind [.lst 6 (l.map fun d => .agg d.cells) tl, envV S tS 4 C' tC, .lst 1 (nints O) tO] ⟨t, []⟩ fun v _ => v = .bool true := by
  have hA := madeL_len l []
  have hok := okN_made l hl
  have hAe : madeL l = l.foldl (fun L d => (addN L d).2) [] := rfl
  rw [← hAe] at hA
  simp only [List.length_nil] at hA
  have hfew := c_few (P := P) (G := G) hT S tS 4 C' tC
  refine C_tab hT t_proofmarklaw03_ValueBehind (by simp [proofmarklaw03_ValueBehind]) (W_run 14 ?_)
  by_cases h1 : (40 : Int) < l.length
  · have h1' : decide ((40 : Int) < l.length) = true := by simpa using h1
    simp -implicitDefEqProofs (disch := omega) only [go_sem, ↓reduceIte, reduceCtorEq, Nat.reduceAdd, Nat.reduceEqDiff, Nat.zero_add, decide_true, gt_iff_lt, proofmarklaw03_ValueBehind, proofmarklaw03_ValueBehind_r0, proofmarklaw03_ValueBehind_r1, proofmarklaw03_ValueBehind_r2, proofmarklaw03_ValueBehind_r3, proofmarklaw03_ValueBehind_r4, proofmarklaw03_ValueBehind_r5, proofmarklaw03_ValueBehind_r6, proofmarklaw03_ValueBehind_r7, proofmarklaw03_ValueBehind_r8, proofmarklaw03_ValueBehind_r9, proofmarklaw03_ValueBehind_r10, proofmarklaw03_ValueBehind_r11, proofmarklaw03_ValueBehind_r12, proofmarklaw03_ValueBehind_r13, proofmarklaw03_ValueBehind_r14, proofmarklaw03_ValueBehind_r15, proofmarklaw03_ValueBehind_r16, proofmarklaw03_ValueBehind_r17, proofmarklaw03_ValueBehind_r18, proofmarklaw03_ValueBehind_r19, proofmarklaw03_ValueBehind_r20, proofmarklaw03_ValueBehind_r21, proofmarklaw03_ValueBehind_r22, proofmarklaw03_ValueBehind_r23, proofmarklaw03_ValueBehind_r24, proofmarklaw03_ValueBehind_r25, proofmarklaw03_ValueBehind_r26, proofmarklaw03_ValueBehind_r27, proofmarklaw03_ValueBehind_r28, proofmarklaw03_ValueBehind_r29, proofmarklaw03_ValueBehind_r30, envV, List.length_map, List.length_nil, and_true, List.nil_append, h1]
    iterate 9 (try (refine run_sem 4 ?_; simp -implicitDefEqProofs (disch := omega) only [go_sem, ↓reduceIte, reduceCtorEq, Nat.reduceEqDiff]))
    refine callPS hT t_proofmarklaw03_works hW rfl 1000 ?_
    simp -implicitDefEqProofs (disch := omega) only [go_sem, ↓reduceIte, reduceCtorEq, Nat.reduceEqDiff]
  · have h1' : decide ((40 : Int) < l.length) = false := by simpa using h1
    simp -implicitDefEqProofs (disch := omega) only [go_sem, ↓reduceIte, reduceCtorEq, Nat.reduceAdd, Nat.reduceEqDiff, Nat.zero_add, decide_false, Nat.le_refl, gt_iff_lt, proofmarklaw03_ValueBehind, proofmarklaw03_ValueBehind_r0, proofmarklaw03_ValueBehind_r1, proofmarklaw03_ValueBehind_r2, proofmarklaw03_ValueBehind_r3, proofmarklaw03_ValueBehind_r4, proofmarklaw03_ValueBehind_r5, proofmarklaw03_ValueBehind_r6, proofmarklaw03_ValueBehind_r7, proofmarklaw03_ValueBehind_r8, proofmarklaw03_ValueBehind_r9, proofmarklaw03_ValueBehind_r10, proofmarklaw03_ValueBehind_r11, proofmarklaw03_ValueBehind_r12, proofmarklaw03_ValueBehind_r13, proofmarklaw03_ValueBehind_r14, proofmarklaw03_ValueBehind_r15, proofmarklaw03_ValueBehind_r16, proofmarklaw03_ValueBehind_r17, proofmarklaw03_ValueBehind_r18, proofmarklaw03_ValueBehind_r19, proofmarklaw03_ValueBehind_r20, proofmarklaw03_ValueBehind_r21, proofmarklaw03_ValueBehind_r22, proofmarklaw03_ValueBehind_r23, proofmarklaw03_ValueBehind_r24, proofmarklaw03_ValueBehind_r25, proofmarklaw03_ValueBehind_r26, proofmarklaw03_ValueBehind_r27, proofmarklaw03_ValueBehind_r28, proofmarklaw03_ValueBehind_r29, proofmarklaw03_ValueBehind_r30, envV, List.length_map, List.length_cons, List.length_nil, false_implies, and_true, List.nil_append, h1]
    by_cases h2 : S.length ≤ 60 ∧ C'.length ≤ 60
    · have h2' : decide (S.length ≤ 60 ∧ C'.length ≤ 60) = true := by simpa using h2
      rw [h2'] at hfew
      by_cases h3 : (20 : Int) < O.length
      · have h3' : decide ((20 : Int) < O.length) = true := by simpa using h3
        refine callPS hT t_proofmarklaw03_few hfew rfl 1000 ?_
        simp -implicitDefEqProofs (disch := omega) only [go_sem, ↓reduceIte, reduceCtorEq, Nat.reduceAdd, Nat.reduceEqDiff, decide_true, Bool.not_true, gt_iff_lt, nints_length, Bool.not_true, h3]
        refine callPS hT t_proofmarklaw03_works hW rfl 1000 ?_
        simp -implicitDefEqProofs (disch := omega) only [go_sem, ↓reduceIte, reduceCtorEq, Nat.reduceEqDiff]
      · have h3' : decide ((20 : Int) < O.length) = false := by simpa using h3
        refine callPS hT t_proofmarklaw03_few hfew rfl 10 ?_
        simp -implicitDefEqProofs (disch := omega) only [go_sem, ↓reduceIte, reduceCtorEq, Nat.reduceAdd, Nat.reduceEqDiff, decide_false, Bool.not_true, gt_iff_lt, nints_length, Bool.not_true, h3]
        refine sem_shift (Shift.freeze (k := 0) (v := t) (T := 40) (cs := [.lst 1 (nints S) tS, .lst 4 (C'.map Cl.v) tC]) (Nat.zero_le _) rfl rfl) ?_
        have hfp : frzV 0 t [V.lst 1 (nints S) tS, .lst 4 (C'.map Cl.v) tC] (.ptr 0 t 0) = .ref (.agg [V.lst 1 (nints S) tS, .lst 4 (C'.map Cl.v) tC]) 0 := by simp [frzV]
        simp only [hfp, List.set_cons_zero, frzFr_cons, frzFr_nil, fz_lst, fz_bool, mapFrom, Option.map_none]
        refine sem_shift (Shift.drop (o' := []) (t' := t + 1) (by simp [subObs]) (Nat.le_refl _) (Nat.zero_le _)) (run_sem 1000 ?_)
        simp -implicitDefEqProofs (disch := omega) only [go_sem, ↓reduceIte, reduceCtorEq, Nat.reduceEqDiff]
        refine call hT t_proofmarkkit_Made (c_Made hT F l tl hl (by omega)) 12 fun v σ hv => ?_
        obtain ⟨v0, v1, v2, v3, v4, c1, u, hc1, rfl, rfl⟩ := hv
        simp -implicitDefEqProofs (disch := omega) only [go_sem, ↓reduceIte, reduceCtorEq, Nat.reduceAdd, Nat.reduceEqDiff, Nat.reduceLT, Nat.zero_add, Bool.not_false, Nat.le_refl, Nat.zero_le, kG_len0, kG_5, kGs_5, List.length_cons, List.length_nil, and_true, List.cons_append, List.nil_append, Bool.not_false]
        refine sem_shift (HShift.shift (HShift.ownAt 1 2 (k := 5) (p := 0) (Nat.zero_le _) rfl rfl)) ?_
        simp -implicitDefEqProofs (disch := omega) only [go_sem, Nat.reduceAdd, Nat.zero_add, kG_len0, kG_app, kGs_5, List.length_append, List.length_cons, List.length_nil, List.cons_append, List.nil_append]
        refine sem_shift (HShift.shift (HShift.ownAt 4 46 (k := 5) (p := 1) (Nat.zero_le _) rfl rfl)) (run_sem 1000 ?_)
        have hb1 : (S.length + O.length) * 8 ≤ 140737488355328 := by omega
        have hb2 : S.length + O.length ≤ 9223372036854775807 := by omega
        have hb3 : C'.length * 32 ≤ 140737488355328 := by omega
        have hb4 : C'.length ≤ 9223372036854775807 := by omega
        have hb5 : S.length * 8 ≤ 140737488355328 := by omega
        have hb6 : S.length ≤ 9223372036854775807 := by omega
        have hcl := clC_len C'
        simp -implicitDefEqProofs (disch := omega) only [go_sem, ↓reduceIte, reduceCtorEq, Nat.reduceAdd, Nat.reduceEqDiff, Nat.reduceLeDiff, Nat.zero_add, Nat.add_zero, Nat.mul_one, Nat.zero_mul, Bool.not_true, Bool.not_false, Nat.le_refl, Nat.zero_le, flat_v, flat_n, kG_len0, kG_app, kG_5, kGs_5, kG_6, kGs_6, kG_7, kGs_7, List.length_map, nints_length, List.length_append, List.length_cons, List.length_nil, true_implies, and_true, List.cons_append, List.nil_append, Bool.not_true, Bool.not_false, hb1, hb2, hb3, hb4, hb5, hb6]
        rw [show nints S ++ nints O = nints (S ++ O) by simp [nints], show S.length + O.length = (S ++ O).length by simp]
        refine vb0 (S := S) (tS := tS) (C' := C') (tC := tC) (S2 := S ++ O) (vf := c1) (v0 := v0) (by omega) rfl ⟨by simp -implicitDefEqProofs (disch := omega) only [go_sem, ↓reduceIte, reduceCtorEq, Nat.reduceEqDiff], by simp -implicitDefEqProofs (disch := omega) only [go_sem, ↓reduceIte, reduceCtorEq, Nat.reduceEqDiff], by simp -implicitDefEqProofs (disch := omega) only [go_sem, ↓reduceIte, reduceCtorEq, Nat.reduceEqDiff], by simp -implicitDefEqProofs (disch := omega) only [go_sem, ↓reduceIte, reduceCtorEq, Nat.reduceEqDiff]; rfl⟩ (fun fr t' r k ⟨f4, f7, f9, f10⟩ => ?_)
        refine sem_exitS [(4, .ref (.agg [.lst 1 (nints S) tS, .lst 4 (C'.map Cl.v) tC]) 0), (7, .ptr 1 v0 0), (9, .ptr 5 c1 0)] ⟨f4, f7, f9, trivial⟩ ?_
        have hBi := frzV_int (k := 6) (w := c1 + 1 + 1 + 1 + 1) (cs := nints (S ++ O)) (clC_int (behC C' C'.length))
        have hfz := frz_n (k := 6) (w := c1 + 1 + 1 + 1 + 1) (S ++ O)
        refine sem_shift (Shift.freeze (k := 6) (v := c1 + 1 + 1 + 1 + 1) (T := 2) (cs := nints (S ++ O)) (Nat.zero_le _) rfl (nints_nameless _)) ?_
        simp only [kGs_6, kfrzG (show 5 ≤ 6 from by omega), hfz, hBi, frzFr_cons, frzFr_nil, fz_ref, fz_ptr, fz_sl, ne_eq, Nat.reduceEqDiff, not_false_eq_true, mapFrom, Option.map_some, Option.map_none, Ob.mapV, List.map_cons, List.map_nil]
        refine sem_shift (Shift.freeze (k := 7) (v := r) (T := 46) (cs := clC (behC C' C'.length)) (Nat.zero_le _) rfl (clC_nl _)) ?_
        simp only [kGs_7, kfrzG (show 5 ≤ 7 from by omega), fz_clC, frzFr_cons, frzFr_nil, fz_lst, fz_ref, fz_ptr, ne_eq, Nat.reduceEqDiff, not_false_eq_true, mapFrom, Option.map_some, Option.map_none, Ob.mapV, List.map_cons, List.map_nil]
        refine sem_shift (Shift.freeze (k := 5) (v := c1) (T := 40) (cs := [.lst 1 (nints (S ++ O)) false, .lst 4 ((behC C' C'.length).map Cl.v) false]) (Nat.zero_le _) rfl rfl) ?_
        have hfp5 : frzV 5 c1 [V.lst 1 (nints (S ++ O)) false, .lst 4 ((behC C' C'.length).map Cl.v) false] (.ptr 5 c1 0) = .ref (.agg [V.lst 1 (nints (S ++ O)) false, .lst 4 ((behC C' C'.length).map Cl.v) false]) 0 := by simp [frzV]
        simp only [kGs_5, kfrzG (show 5 ≤ 5 from by omega), hfp5, frzFr_cons, frzFr_nil, fz_ref, fz_ptr, ne_eq, Nat.reduceEqDiff, not_false_eq_true, mapFrom, Option.map_none]
        refine sem_shift (Shift.drop (o' := kG F.fmt v0 v1 v2 v3 v4 (madeL l)) (t' := t') (by simp [subObs, kG]) (Nat.le_refl _) (Nat.zero_le _)) (run_sem 1000 ?_)
        simp -implicitDefEqProofs (disch := omega) only [go_sem, ↓reduceIte, Nat.reduceEqDiff]
        refine sem_for (madeL l) (vbJ F.fmt v0 v1 v2 v3 v4 (madeL l) S tS C' tC (S ++ O) (behC C' C'.length)) vbE ⟨t', by simp -implicitDefEqProofs (disch := omega) only [go_sem, ↓reduceIte], by simp -implicitDefEqProofs (disch := omega) only [go_sem, ↓reduceIte, Nat.reduceEqDiff], by simp -implicitDefEqProofs (disch := omega) only [go_sem, ↓reduceIte, Nat.reduceEqDiff], by simp -implicitDefEqProofs (disch := omega) only [go_sem, ↓reduceIte, Nat.reduceEqDiff]; rfl, rfl⟩ (fun i d hx fr σ hJ => vb_round (M := O) hT SO SI (by omega) hok rfl rfl hS hO (by omega) hCn hx hJ) (fun i hi fr σ hJ => ?_) (fun e fr σ hE => ?_)
        · obtain ⟨t', f4, f7, f9, f12, rfl⟩ := hJ
          have hnl : ¬ i < (madeL l).length := by omega
          refine W_round [(4, .ref (.agg [.lst 1 (nints S) tS, .lst 4 (C'.map Cl.v) tC]) 0), (7, .ptr 1 v0 0), (9, .ref (.agg [.lst 1 (nints (S ++ O)) false, .lst 4 ((behC C' C'.length).map Cl.v) false]) 0), (12, .int .i64 ((i : Nat) : Int))] ⟨f4, f7, f9, f12, trivial⟩  1000 ?_
          simp -implicitDefEqProofs (disch := omega) only [go_sem, ↓reduceIte, Nat.reduceEqDiff]
          refine call hT t_term_Graph_Size (z_Size hT) 1000 fun u σ hu => ?_
          obtain ⟨rfl, t1, ht1, rfl⟩ := hu
          simp -implicitDefEqProofs (disch := omega) only [go_sem, ↓reduceIte, Nat.reduceEqDiff, decide_false, hnl]
        · obtain rfl := hE
          refine run_sem 1000 ?_
          simp -implicitDefEqProofs (disch := omega) only [go_sem, ↓reduceIte]
          refine callPS hT t_proofmarklaw03_works hW rfl 1000 ?_
          simp -implicitDefEqProofs (disch := omega) only [go_sem, ↓reduceIte, Nat.reduceEqDiff]
    · have h2' : decide (S.length ≤ 60 ∧ C'.length ≤ 60) = false := by simpa using h2
      rw [h2'] at hfew
      refine callPS hT t_proofmarklaw03_few hfew rfl 1000 ?_
      simp -implicitDefEqProofs (disch := omega) only [go_sem, ↓reduceIte, reduceCtorEq, Nat.reduceAdd, Nat.reduceEqDiff, Bool.not_false, Bool.not_false]
      refine callPS hT t_proofmarklaw03_works hW rfl 1000 ?_
      simp -implicitDefEqProofs (disch := omega) only [go_sem, ↓reduceIte, reduceCtorEq, Nat.reduceEqDiff]
end Go.Proofs.YtfligilbnpcnaaaDoor

