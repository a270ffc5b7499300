/- The law ValueOf. -/
import Derived.Test.YtfligilbnpcnaaaGreatDoorB10
namespace Go.Proofs.YtfligilbnpcnaaaGreatDoor
open Go Go.Am
set_option maxRecDepth 100000
set_option maxHeartbeats 2000000
variable {P : Program} {G : Nat → Option V}

theorem kfrzY {fmt : Int → List UInt8} {v0 v1 v2 v3 v4 w : Nat} {cs : List V} {L : List Nd} {k : Nat} (hk : 5 ≤ k) {ex : List (Option Ob)} : mapFrom (frzV k w cs) 0 (kG fmt v0 v1 v2 v3 v4 L ++ ex) = kG fmt v0 v1 v2 v3 v4 L ++ mapFrom (frzV k w cs) 0 ex := by
  have h0 : ¬ 0 = k := by omega
  have h2 : ¬ 2 = k := by omega
  have h3 : ¬ 3 = k := by omega
  have h4 : ¬ 4 = k := by omega
  simp only [kG, List.cons_append, List.nil_append, mapFrom, Option.map_some, Ob.mapV, kfrz_ents, frzV_int (ndC_int L), List.map_map, List.map_cons, List.map_nil, frzV, h2, h3, h4, false_and, if_false]
  simp [frzV, Function.comp_def]
theorem madeL_le (l : List Nd) : (madeL l).length ≤ l.length := by
  have hA := madeL_len l []
  have hAe : madeL l = l.foldl (fun L d => (addN L d).2) [] := rfl
  rw [← hAe] at hA
  simpa using hA
theorem c_ValueOf (hT : TabOk P tab) (F : Fmt P G) (SO : SortOk P) (hW : Pure P G n_proofmarklaw03_works [] fun v => v = .bool true) {t : Nat} (l : List Nd) (tl : Bool) (hl : ∀ d ∈ l, i64 d.n ∧ i64 d.a)
    (S : List Int) (tS : Bool) (C' : List Cl) (tC : Bool) (k ver at' arr : Int) (hS : ∀ x ∈ S, i64 x) (hCn : ∀ c ∈ C', i64 c.n) :
   C P G 0 n_proofmarklaw03_ValueOf [.lst 6 (l.map fun d => .agg d.cells) tl, envV S tS 4 C' tC, .int .i64 k, .int .i64 ver, .int .i64 at', .int .i64 arr] ⟨t, []⟩ fun v _ => v = .bool true := by
  have hA := madeL_le l
  have hok := okN_made l hl
  have hfew := c_few (P := P) (G := G) hT S tS 4 C' tC
  refine C_tab hT t_proofmarklaw03_ValueOf (by simp [proofmarklaw03_ValueOf]) (W_run 14 ?_)
  by_cases h1 : (80 : Int) < l.length
  · have h1' : decide ((80 : Int) < l.length) = true := by simpa using h1
    simp -implicitDefEqProofs (disch := omega) only [go_sem, ↓reduceIte, reduceCtorEq, Nat.reduceAdd, Nat.reduceEqDiff, Nat.zero_add, decide_true, gt_iff_lt, proofmarklaw03_ValueOf, zq0_0, zq0_1, zq0_2, zq0_3, zq0_4, zq0_5, zq0_6, zq0_7, zq0_8, zq0_9, zq0_10, zq0_11, zq0_12, zq0_13, zq0_14, zq0_15, zq0_16, zq0_17, zq0_18, zq0_19, zq0_20, zq0_21, zq0_22, zq0_23, zq0_24, zq0_25, zq0_26, zq0_27, envV, List.length_map, List.length_nil, and_true, List.nil_append, h1]
    iterate 9 (try (refine run_sem 4 ?_; simp -implicitDefEqProofs (disch := omega) only [go_sem, ↓reduceIte, reduceCtorEq, Nat.reduceEqDiff]))
    refine callPS hT t_proofmarklaw03_works hW rfl 1000 ?_
    simp -implicitDefEqProofs (disch := omega) only [go_sem, ↓reduceIte, reduceCtorEq, Nat.reduceEqDiff]
  · have h1' : decide ((80 : Int) < l.length) = false := by simpa using h1
    simp -implicitDefEqProofs (disch := omega) only [go_sem, ↓reduceIte, reduceCtorEq, Nat.reduceAdd, Nat.reduceEqDiff, Nat.zero_add, decide_false, Nat.le_refl, gt_iff_lt, proofmarklaw03_ValueOf, zq0_0, zq0_1, zq0_2, zq0_3, zq0_4, zq0_5, zq0_6, zq0_7, zq0_8, zq0_9, zq0_10, zq0_11, zq0_12, zq0_13, zq0_14, zq0_15, zq0_16, zq0_17, zq0_18, zq0_19, zq0_20, zq0_21, zq0_22, zq0_23, zq0_24, zq0_25, zq0_26, zq0_27, envV, List.length_map, List.length_cons, List.length_nil, false_implies, and_true, List.nil_append, h1]
    by_cases h2 : S.length ≤ 60 ∧ C'.length ≤ 60
    · have h2' : decide (S.length ≤ 60 ∧ C'.length ≤ 60) = true := by simpa using h2
      rw [h2'] at hfew
      refine callPS hT t_proofmarklaw03_few hfew rfl 6 ?_
      simp -implicitDefEqProofs (disch := omega) only [go_sem, ↓reduceIte, reduceCtorEq, Nat.reduceAdd, Nat.reduceEqDiff, Bool.not_true, Bool.not_true]
      refine sem_shift (Shift.freeze (k := 0) (v := t) (T := 26) (cs := [.lst 1 (nints S) tS, .lst 4 (C'.map Cl.v) tC]) (Nat.zero_le _) rfl rfl) ?_
      have hfp : frzV 0 t [V.lst 1 (nints S) tS, .lst 4 (C'.map Cl.v) tC] (.ptr 0 t 0) = .ref (.agg [V.lst 1 (nints S) tS, .lst 4 (C'.map Cl.v) tC]) 0 := by simp [frzV]
      simp only [hfp, List.set_cons_zero, frzFr_cons, frzFr_nil, fy_lst, fy_int, fy_bool, mapFrom, Option.map_none]
      refine sem_shift (Shift.drop (o' := []) (t' := t + 1) (by simp [subObs]) (Nat.le_refl _) (Nat.zero_le _)) (run_sem 1000 ?_)
      simp -implicitDefEqProofs (disch := omega) only [go_sem, ↓reduceIte, reduceCtorEq, Nat.reduceEqDiff]
      refine call hT t_proofmarkkit_Made (c_Made hT F l tl hl (by omega)) 1000 fun v σ hv => ?_
      obtain ⟨v0, v1, v2, v3, v4, c1, u, hc1, rfl, rfl⟩ := hv
      simp -implicitDefEqProofs (disch := omega) only [go_sem, ↓reduceIte, reduceCtorEq, Nat.reduceAdd, Nat.reduceEqDiff, Nat.reduceLT, Nat.zero_add, List.length_cons, List.length_nil]
      refine call hT t_proofmarkkit_Plain (c_PlainG hT (by omega)) 1000 fun v σ hv => ?_
      obtain ⟨w0, w1, c4, hc4, rfl, rfl⟩ := hv
      simp -implicitDefEqProofs (disch := omega) only [go_sem, ↓reduceIte, reduceCtorEq, Nat.reduceAdd, Nat.reduceEqDiff, Nat.zero_add, Nat.le_refl, List.length_cons, List.length_nil, false_implies, and_true]
      refine callPS hT t_proofmarkkit_PlainEnv (c_PlainEnv hT S (by omega) tS C' (by omega) tC) rfl 1000 ?_
      simp -implicitDefEqProofs (disch := omega) only [go_sem, ↓reduceIte, reduceCtorEq, Nat.reduceAdd, Nat.reduceEqDiff, Nat.zero_add, Bool.not_false, Nat.le_refl, Nat.zero_le, envV, kG_len0, kG_app, kG_7, kGs_7, List.length_append, List.length_cons, List.length_nil, false_implies, and_true, List.cons_append, List.nil_append, Bool.not_false]
      refine callPS hT t_value_Env_Sym (c_Sym hT S tS 4 C' tC k) rfl 1000 ?_
      simp -implicitDefEqProofs (disch := omega) only [go_sem, ↓reduceIte, reduceCtorEq, Nat.reduceEqDiff]
      refine callPS hT t_proofmarkref03_Env_Sym (c_rSym hT S (by omega) false false 4 C' k) rfl 1000 ?_
      simp -implicitDefEqProofs (disch := omega) only [go_sem, ↓reduceIte, reduceCtorEq, Nat.reduceAdd, Nat.reduceEqDiff, Nat.zero_add, Nat.le_refl, bne_self_eq_false, kG_len0, kG_7, List.length_append, List.length_cons, List.length_nil, false_implies, and_true, bne_self_eq_false]
      refine callPS hT t_value_Env_Cell (c_Cell hT S tS C' (by omega) tC arr ver at') rfl 1000 ?_
      simp -implicitDefEqProofs (disch := omega) only [go_sem, ↓reduceIte, reduceCtorEq, Nat.reduceAdd, Nat.reduceEqDiff]
      refine callPS hT t_proofmarkref03_Env_Cell (c_rCell hT S false C' (by omega) false arr ver at') rfl 1000 ?_
      simp -implicitDefEqProofs (disch := omega) only [go_sem, ↓reduceIte, reduceCtorEq, Nat.reduceAdd, Nat.reduceEqDiff, Nat.zero_add, Nat.le_refl, bne_self_eq_false, kG_7, List.length_cons, List.length_nil, false_implies, and_true, bne_self_eq_false]
      refine call hT t_proofmarkref03_All (r_AllK (tS := false) (tC := false) (ex := [some (.arr c4 37 [.lst 1 (nints S) false, .lst 4 (C'.map Cl.v) false])]) hT (by omega) hok hS (by omega) (by omega) hCn) 1000 fun v σ hv => ?_
      obtain ⟨rfl, c5, hc5, rfl⟩ := hv
      simp -implicitDefEqProofs (disch := omega) only [go_sem, ↓reduceIte, reduceCtorEq, Nat.reduceEqDiff]
      refine sem_shift (Shift.drop (o' := kG F.fmt v0 v1 v2 v3 v4 (madeL l)) (t' := c5) (by simp [subObs, kG]) (Nat.le_refl _) (Nat.zero_le _)) ?_
      refine sem_shift (Shift.own (s := 18) (sz := 1) (T := 44) (z := 0) (by simp -implicitDefEqProofs (disch := omega) only [go_sem, ↓reduceIte, reduceCtorEq, Nat.reduceEqDiff]) (by decide)) ?_
      simp -implicitDefEqProofs (disch := omega) only [go_sem, ↓reduceIte, reduceCtorEq, Nat.reduceEqDiff, H.push, kG_len0]
      refine sem_for (vals S C' (madeL l)) (voJ F.fmt v0 v1 v2 v3 v4 (madeL l) S tS C' tC (vals S C' (madeL l))) (voE F.fmt v0 v1 v2 v3 v4 (madeL l) S tS C' tC (vals S C' (madeL l))) ⟨c5 + 1, c5, by simp -implicitDefEqProofs (disch := omega) only [go_sem, ↓reduceIte, reduceCtorEq, Nat.reduceEqDiff], by simp -implicitDefEqProofs (disch := omega) only [go_sem, ↓reduceIte, reduceCtorEq, Nat.reduceEqDiff], by simp -implicitDefEqProofs (disch := omega) only [go_sem, ↓reduceIte, reduceCtorEq, Nat.reduceEqDiff], by simp -implicitDefEqProofs (disch := omega) only [go_sem, ↓reduceIte, reduceCtorEq, Nat.reduceEqDiff], by simp -implicitDefEqProofs (disch := omega) only [go_sem, ↓reduceIte, reduceCtorEq, Nat.reduceEqDiff]; rfl, rfl⟩ (fun i x hx fr σ hJ => vo_round hT SO (by omega) hok hS (by omega) hCn rfl hx hJ) (fun i hi fr σ hJ => ?_) (fun e fr σ hE => ?_)
      · obtain ⟨t', r, f7, f13, f17, f18, f19, rfl⟩ := hJ
        have hi' : i = (madeL l).length := by rw [hi, vals_len]
        have hnl : ¬ i < (vals S C' (madeL l)).length := by omega
        refine W_round [(7, .ref (.agg [.lst 1 (nints S) tS, .lst 4 (C'.map Cl.v) tC]) 0), (13, .ptr 1 v0 0), (17, .lst 1 (nints (vals S C' (madeL l))) false), (18, .sl 5 r 0 1 i none), (19, .int .i64 ((i : Nat) : Int))] ⟨f7, f13, f17, f18, f19, trivial⟩  1000 ?_
        simp -implicitDefEqProofs (disch := omega) only [go_sem, ↓reduceIte, Nat.reduceEqDiff, decide_false, nints_length, hnl]
        exact ⟨rfl, i, hi', t', r, rfl, rfl, rfl, rfl, rfl, rfl⟩
      · obtain ⟨rfl, i, hi, t', r, f7, f13, f17, f18, f19, rfl⟩ := hE
        have hrl := revI_len (n := (madeL l).length) (i := i)
        have hall := fun t => c_AllB (P := P) (G := G) hT SO (base := 0) (fmt := F.fmt) (v0 := v0) (v1 := v1) (v2 := v2) (v3 := v3) (v4 := v4) (t := t) (r := r) (L := madeL l) (by omega) hok S hS tS C' (by omega) hCn tC (revI (madeL l).length i) (by omega)
        rw [hrl] at hall
        refine sem_exit [(7, .ref (.agg [.lst 1 (nints S) tS, .lst 4 (C'.map Cl.v) tC]) 0), (13, .ptr 1 v0 0), (17, .lst 1 (nints (vals S C' (madeL l))) false), (18, .sl 5 r 0 1 i none)] ⟨f7, f13, f17, f18, trivial⟩ 1000 ?_
        simp -implicitDefEqProofs (disch := omega) only [go_sem, ↓reduceIte, reduceCtorEq, Nat.reduceAdd, Nat.reduceEqDiff, Nat.zero_add, Nat.le_refl, List.length_cons, List.length_nil, false_implies, and_true]
        refine call hT t_value_All (hall _) 1000 fun v σ hv => ?_
        rcases hv with ⟨hin, _⟩ | ⟨hin, vo, t2, ht2, rfl, rfl⟩
        · rw [hi] at hin; exact absurd revI_in hin
        have hvl : (vals S C' (madeL l)).length = i := by rw [vals_len, hi]
        simp -implicitDefEqProofs (disch := omega) only [go_sem, ↓reduceIte, Nat.reduceAdd, Nat.reduceEqDiff, Nat.reduceLT, Nat.zero_add, Bool.not_true, bne_self_eq_false, nints_length, List.length_cons, List.length_nil, Bool.not_true, hvl, bne_self_eq_false]
        have hfz := frz_n (k := 9) (w := vo) ((revI (madeL l).length i).map (val S C' (madeL l)))
        rw [List.length_map, hrl] at hfz
        have hri := frzV_int (k := 9) (w := vo) (cs := nints ((revI (madeL l).length i).map (val S C' (madeL l)))) (l := nints (revI (madeL l).length i)) (fun u hu => by obtain ⟨x, _, rfl⟩ := List.mem_map.1 hu; exact ⟨_, _, rfl⟩)
        refine sem_shift (Shift.freeze (k := 9) (v := vo) (T := 2) (cs := nints ((revI (madeL l).length i).map (val S C' (madeL l)))) (Nat.zero_le _) rfl (nints_nameless _)) ?_
        simp only [kGs_9, kfrzY (show 5 ≤ 9 from by omega), hfz, hri, frzFr_cons, frzFr_nil, fy_lst, fy_int, fy_bool, fy_ref, fy_ptr, fz_sl, ne_eq, Nat.reduceEqDiff, not_false_eq_true, mapFrom, Option.map_some, Option.map_none, Ob.mapV]
        refine sem_shift (Shift.drop (o' := kG F.fmt v0 v1 v2 v3 v4 (madeL l) ++ [some (.arr r 44 (nints (revI (madeL l).length i)))]) (t' := t2) (by simp [subObs, kG]) (Nat.le_refl _) (Nat.zero_le _)) ?_
        refine vo2 (v0 := v0) (r := r) (n := i) (S := S) (W := vals S C' (madeL l)) (R := (revI (madeL l).length i).map (val S C' (madeL l))) (tS := tS) (tC := tC) (C' := C') (by rw [List.length_map, hrl, hvl]) (by omega) (fun j x hx => ?_) rfl ⟨by simp -implicitDefEqProofs (disch := omega) only [go_sem, ↓reduceIte], by simp -implicitDefEqProofs (disch := omega) only [go_sem, ↓reduceIte, Nat.reduceEqDiff], by simp -implicitDefEqProofs (disch := omega) only [go_sem, ↓reduceIte, Nat.reduceEqDiff], by simp -implicitDefEqProofs (disch := omega) only [go_sem, ↓reduceIte, Nat.reduceEqDiff], by simp -implicitDefEqProofs (disch := omega) only [go_sem, ↓reduceIte, Nat.reduceEqDiff], by simp -implicitDefEqProofs (disch := omega) only [go_sem, ↓reduceIte, Nat.reduceEqDiff]; rfl⟩ (fun fr i2 ⟨f7, f13, f17, f18, f22, f24⟩ => ?_)
        · have hj : j < i := by have := (List.getElem?_eq_some_iff.1 hx).1; rw [List.length_map, hrl] at this; exact this
          rw [List.getElem?_map, revI, List.getElem?_map, List.getElem?_range hj] at hx
          simp only [Option.map_some, Option.some.injEq] at hx
          rw [hvl, ← hx, val, show (((madeL l).length : Int) - 1 - (j : Int)).toNat = i - 1 - j by omega, List.getD_eq_getElem?_getD, List.getElem?_eq_getElem (by omega)]
          rfl
        have hof := fun t ex => k_Of (P := P) (G := G) hT SO (base := 0) (fmt := F.fmt) (v0 := v0) (v1 := v1) (v2 := v2) (v3 := v3) (v4 := v4) (t := t) (L := madeL l) (ex := ex) (by omega) hok S hS tS C' (by omega) hCn tC (i : Int)
        have e1 : ofV S C' (madeL l) (i : Int) = .tup [.int .i64 0, .bool false] := by rw [ofV, if_neg (by omega)]
        simp only [e1] at hof
        have hlen2 : (revI (madeL l).length i ++ [-1]).length = i + 1 := by simp [hrl]
        have hs2 : nints (revI (madeL l).length i) ++ [V.int .i64 (-1)] = nints (revI (madeL l).length i ++ [-1]) := by simp [nints]
        have hall2 := fun t r => c_AllB (P := P) (G := G) hT SO (base := 0) (fmt := F.fmt) (v0 := v0) (v1 := v1) (v2 := v2) (v3 := v3) (v4 := v4) (t := t) (r := r) (L := madeL l) (by omega) hok S hS tS C' (by omega) hCn tC (revI (madeL l).length i ++ [-1]) (by omega)
        rw [hlen2] at hall2
        have hnin : ¬ inL (madeL l) (revI (madeL l).length i ++ [-1]) := fun h => by have := h (-1) (by simp); omega
        refine sem_exit [(7, .ref (.agg [.lst 1 (nints S) tS, .lst 4 (C'.map Cl.v) tC]) 0), (13, .ptr 1 v0 0), (17, .lst 1 (nints (vals S C' (madeL l))) false), (18, .sl 5 r 0 1 i none)] ⟨f7, f13, f17, f18, trivial⟩ 1000 ?_
        simp -implicitDefEqProofs (disch := omega) only [go_sem, ↓reduceIte, reduceCtorEq, Nat.reduceAdd, Nat.reduceEqDiff, Nat.zero_add, Nat.le_refl, nints_length, List.length_cons, List.length_nil, false_implies, and_true, hvl]
        refine call hT t_value_Of (hof _ _) 1000 fun v σ hv => ?_
        obtain ⟨rfl, c6, hc6, rfl⟩ := hv
        have hb1 : (i + 1) * 8 ≤ 140737488355328 := by omega
        have hb2 : i + 1 ≤ 9223372036854775807 := by omega
        simp -implicitDefEqProofs (disch := omega) only [go_sem, ↓reduceIte, reduceCtorEq, Nat.reduceAdd, Nat.reduceEqDiff, Nat.reduceLT, Nat.zero_add, Nat.mul_one, Bool.not_true, Nat.le_refl, Nat.zero_le, kG_5, kGs_5, nints_length, List.length_cons, List.length_nil, false_implies, and_true, List.cons_append, List.nil_append, Bool.not_true, hrl, hb1, hb2, hs2]
        refine call hT t_value_All (hall2 _ _) 1000 fun v σ hv => ?_
        rcases hv with ⟨_, rfl, c7, hc7, rfl⟩ | ⟨hin, _⟩
        · have hz : ((0 : Nat) : Int) = 0 := rfl
          simp -implicitDefEqProofs (disch := omega) only [go_sem, ↓reduceIte, Nat.reduceAdd, Nat.reduceEqDiff, Nat.reduceLT, Nat.zero_add, Bool.not_false, beq_self_eq_true, List.length_cons, List.length_nil, Bool.not_false, hz, beq_self_eq_true]
          refine callPS hT t_proofmarklaw03_works hW rfl 1000 ?_
          simp -implicitDefEqProofs (disch := omega) only [go_sem, ↓reduceIte, Nat.reduceEqDiff]
        · exact absurd hin hnin
    · have h2' : decide (S.length ≤ 60 ∧ C'.length ≤ 60) = false := by simpa using h2
      rw [h2'] at hfew
      refine callPS hT t_proofmarklaw03_few hfew rfl 1000 ?_
      simp -implicitDefEqProofs (disch := omega) only [go_sem, ↓reduceIte, reduceCtorEq, Nat.reduceAdd, Nat.reduceEqDiff, Bool.not_false, Bool.not_false]
      refine callPS hT t_proofmarklaw03_works hW rfl 1000 ?_
      simp -implicitDefEqProofs (disch := omega) only [go_sem, ↓reduceIte, reduceCtorEq, Nat.reduceEqDiff]
end Go.Proofs.YtfligilbnpcnaaaGreatDoor

