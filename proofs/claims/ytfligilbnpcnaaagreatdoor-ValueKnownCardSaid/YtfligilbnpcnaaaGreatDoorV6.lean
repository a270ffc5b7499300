/- The law ValueNeeds. -/
import Derived.Test.YtfligilbnpcnaaaGreatDoorVM
namespace Go.Proofs.YtfligilbnpcnaaaGreatDoor
open Go Go.Am
set_option maxRecDepth 100000
set_option maxHeartbeats 1000000
variable {P : Program} {G : Nat → Option V}

theorem nints_get {l : List Int} {i : Nat} {x : Int} (h : l[i]? = some x) : (nints l).getD i .any = .int .i64 x := by simp [nints, List.getD_eq_getElem?_getD, h]
theorem nints_snoc {l : List Int} {i : Nat} {x : Int} (h : l[i]? = some x) : nints (l.take i) ++ [V.int .i64 x] = nints (l.take (i + 1)) := by rw [take_snoc2 h]; simp [nints]
theorem frzV_int {k w : Nat} {cs l : List V} (h : ∀ u ∈ l, ∃ t i, u = V.int t i) : l.map (frzV k w cs) = l := by
  induction l with
  | nil => rfl
  | cons u l ih =>
    obtain ⟨t, i, rfl⟩ := h u (by simp)
    rw [List.map_cons, ih fun u hu => h u (by simp [hu])]
    rfl
theorem ndC_int (L : List Nd) : ∀ u ∈ ndC L, ∃ t i, u = V.int t i := by
  intro u hu
  simp only [ndC, List.mem_flatten, List.mem_map] at hu
  obtain ⟨_, ⟨d, _, rfl⟩, hu⟩ := hu
  simp only [Nd.cells, List.mem_cons, List.not_mem_nil, or_false] at hu
  rcases hu with rfl | rfl | rfl | rfl | rfl | rfl <;> exact ⟨_, _, rfl⟩
theorem C_lower {base base' f : Nat} {args : List V} {σ : H} {Q : V → H → Prop} (hb : base ≤ base') (hl : base' ≤ σ.o.length) (h : C P G base' f args σ Q) : C P G base f args σ Q :=
  fun I ρ w xs hR _ hc => (h I ρ w xs hR hl hc).mono fun _ _ ⟨v, x, I', ρ', σ', h1, h2, h3, h4, h5, h6⟩ => ⟨v, x, I', ρ', σ', h1, h2, h3, h4.weaken hR hb, by omega, h6⟩
theorem kfrz_ents {k w : Nat} {cs : List V} : ∀ (j : Nat) (L : List Nd), (ents j L).map (fun p => (p.1, frzV k w cs p.2)) = ents j L
  | _, [] => rfl
  | j, d :: l => by simp only [ents, List.map_cons, kfrz_ents (j + 1) l]; rfl
theorem kfrz {fmt : Int → List UInt8} {v0 v1 v2 v3 v4 w : Nat} {cs : List V} {L : List Nd} : mapFrom (frzV 5 w cs) 0 (kG fmt v0 v1 v2 v3 v4 L ++ [none]) = kG fmt v0 v1 v2 v3 v4 L ++ [none] := by
  simp only [kG, List.cons_append, List.nil_append, mapFrom, Option.map_some, Option.map_none, Ob.mapV, kfrz_ents, frzV_int (ndC_int L), List.map_map]
  simp [frzV, Function.comp_def]
theorem vn0 {fmt : Int → List UInt8} {v0 v1 v2 v3 v4 r0 t : Nat} {L : List Nd} {ids : List Int} {tr : Bool} (hrl : ids.length ≤ 1000) {Q : AE → Fr → H → Prop} {fr : Fr}
    (f1 : fget fr 1 = .lst 1 (nints ids) tr) (f5 : fget fr 5 = .ptr 1 v0 0) (f7 : fget fr 7 = .sl 5 r0 0 1 0 none) (f8 : fget fr 8 = .int .i64 0)
    (hQ : ∀ fr' t' r, fget fr' 1 = .lst 1 (nints ids) tr → fget fr' 5 = .ptr 1 v0 0 → fget fr' 7 = .sl 5 r 0 1 ids.length none → Q (.ex 0) fr' ⟨t', kG fmt v0 v1 v2 v3 v4 L ++ [some (.arr r 3 (nints ids))]⟩) :
    W P G 98 0 (.loop (AC.seq (AC.seq (AC.reg zqe_6 [29, 30, 31])   (AC.cond (Arg.t 32)   AC.skip   (AC.exit 0)))   (AC.seq (AC.block 1 (AC.reg zqe_7 [35, 36, 37, 38, 39, 40, 41]))   (AC.reg zqe_8 [33, 34])))) fr ⟨t, kG fmt v0 v1 v2 v3 v4 L ++ [some (.arr r0 3 [])]⟩ Q := by
  refine sem_for (s := []) ids (fun i fr σ => ∃ t' r, fget fr 1 = .lst 1 (nints ids) tr ∧ fget fr 5 = .ptr 1 v0 0 ∧ fget fr 7 = .sl 5 r 0 1 i none ∧ fget fr 8 = .int .i64 ((i : Nat) : Int) ∧ σ = ⟨t', kG fmt v0 v1 v2 v3 v4 L ++ [some (.arr r 3 (nints (ids.take i)))]⟩)
    (fun e fr σ => e = .ex 0 ∧ fget fr 1 = .lst 1 (nints ids) tr ∧ fget fr 5 = .ptr 1 v0 0 ∧ ∃ t' r, fget fr 7 = .sl 5 r 0 1 ids.length none ∧ σ = ⟨t', kG fmt v0 v1 v2 v3 v4 L ++ [some (.arr r 3 (nints ids))]⟩)
    ⟨t, r0, f1, f5, f7, f8, rfl⟩ (fun i x hx fr σ hJ => ?_) (fun i hi fr σ hJ => ?_) (fun e fr σ hE => ?_)
  · clear f1 f5 f7 f8
    obtain ⟨t', r, f1, f5, f7, f8, rfl⟩ := hJ
    have hlt := (List.getElem?_eq_some_iff.1 hx).1
    have hg := nints_get hx
    have hs := nints_snoc hx
    have hwi := w_nx hlt (by omega)
    have htl : (ids.take i).length = i := by simp; omega
    refine W_round [(1, .lst 1 (nints ids) tr), (5, .ptr 1 v0 0), (7, .sl 5 r 0 1 i none), (8, .int .i64 ((i : Nat) : Int))] ⟨f1, f5, f7, f8, trivial⟩  1000 ?_
    simp -implicitDefEqProofs (disch := omega) only [go_sem, need_of, ↓reduceIte, reduceCtorEq, Nat.reduceEqDiff, Nat.reduceLeDiff, Nat.zero_add, Nat.mul_one, decide_true, Bool.not_true, Nat.le_refl, Nat.zero_le, zqe_6, zqe_7, zqe_8, nints_length, List.length_cons, List.length_nil, true_implies, true_and, and_true, List.cons_append, List.nil_append, hlt, hg, hwi, htl, kG_5, kGs_5]
    refine ⟨_, _, Shift.refl _ _ _ _, t' + 1, t', ?_⟩
    simp -implicitDefEqProofs (disch := omega) only [go_sem, ↓reduceIte, Nat.reduceEqDiff, hs]
  · obtain ⟨t', r, f1, f5, f7, f8, rfl⟩ := hJ
    refine W_round [(1, .lst 1 (nints ids) tr), (5, .ptr 1 v0 0), (7, .sl 5 r 0 1 i none), (8, .int .i64 ((i : Nat) : Int))] ⟨f1, f5, f7, f8, trivial⟩  1000 ?_
    simp -implicitDefEqProofs (disch := omega) only [go_sem, ↓reduceIte, Nat.reduceEqDiff, decide_false, zqe_6, zqe_7, zqe_8, nints_length, true_and, hi, Nat.lt_irrefl, List.take_length]
    exact ⟨t', r, rfl, rfl, rfl⟩
  · obtain ⟨rfl, f1, f5, t', r, f7, rfl⟩ := hE
    exact hQ fr t' r f1 f5 f7
theorem vn1 {σ : H} {U W' : List Int} (hU : U.length ≤ 1000000) {Q : AE → Fr → H → Prop} {fr : Fr}
    (f9 : fget fr 9 = .lst 1 (nints U) false) (f10 : fget fr 10 = .lst 1 (nints W') false) (f11 : fget fr 11 = .lst 1 (nints U) false) (f12 : fget fr 12 = .lst 1 (nints W') false) (f13 : fget fr 13 = .int .i64 0)
    (hQ : ∀ fr', fget fr' 10 = .lst 1 (nints W') false → fget fr' 12 = .lst 1 (nints W') false → Q (.ex 2) fr' σ) :
    W P G 98 0 (.loop (AC.seq (AC.seq (AC.reg zqe_14 [67, 68, 69])   (AC.cond (Arg.t 70)   AC.skip   (AC.exit 2)))   (AC.seq (AC.block 3 (AC.seq (AC.reg zqe_15 [73, 74, 75, 76, 77, 78, 79, 80])   (AC.cond (Arg.t 81)   (AC.seq (AC.reg zqe_16 [])   AC.ret)   AC.skip)))   (AC.reg zqe_17 [71, 72])))) fr σ Q := by
  refine sem_for (s := []) U (fun i fr σ' => fget fr 9 = .lst 1 (nints U) false ∧ fget fr 10 = .lst 1 (nints W') false ∧ fget fr 11 = .lst 1 (nints U) false ∧ fget fr 12 = .lst 1 (nints W') false ∧ fget fr 13 = .int .i64 ((i : Nat) : Int) ∧ σ' = σ)
    (fun e fr σ' => e = .ex 2 ∧ fget fr 10 = .lst 1 (nints W') false ∧ fget fr 12 = .lst 1 (nints W') false ∧ σ' = σ)
    ⟨f9, f10, f11, f12, f13, rfl⟩ (fun i x hx fr σ' hJ => ?_) (fun i hi fr σ' hJ => ?_) (fun e fr σ' hE => ?_)
  · clear f9 f10 f11 f12 f13
    obtain ⟨f9, f10, f11, f12, f13, rfl⟩ := hJ
    have hlt := (List.getElem?_eq_some_iff.1 hx).1
    have hg := nints_get hx
    have hwi := w_nx hlt (by omega)
    refine W_run 1000 ?_
    simp -implicitDefEqProofs (disch := omega) only [go_sem, need_of, ↓reduceIte, Nat.reduceEqDiff, Nat.zero_add, decide_true, Nat.le_refl, bne_self_eq_false, zqe_14, zqe_15, zqe_16, zqe_17, nints_length, List.length_cons, List.length_nil, true_implies, and_true, f9, f11, f13, hlt, hg, hwi, bne_self_eq_false]
    refine ⟨_, _, Shift.refl _ _ _ _, ?_⟩
    simp -implicitDefEqProofs (disch := omega) only [go_sem, ↓reduceIte, Nat.reduceEqDiff, f9, f10, f11, f12]
  · obtain ⟨f9, f10, f11, f12, f13, rfl⟩ := hJ
    refine W_run 1000 ?_
    simp -implicitDefEqProofs (disch := omega) only [go_sem, ↓reduceIte, Nat.reduceEqDiff, decide_false, zqe_14, zqe_15, zqe_16, zqe_17, nints_length, and_true, f9, f10, f12, f13, hi, Nat.lt_irrefl]
  · obtain ⟨rfl, f10, f12, rfl⟩ := hE
    exact hQ fr f10 f12
theorem vn2 {σ : H} {W' : List Int} (hU : W'.length ≤ 1000000) {Q : AE → Fr → H → Prop} {fr : Fr}
    (f10 : fget fr 10 = .lst 1 (nints W') false) (f12 : fget fr 12 = .lst 1 (nints W') false) (f14 : fget fr 14 = .int .i64 0)
    (hQ : ∀ fr', Q (.ex 4) fr' σ) :
    W P G 98 0 (.loop (AC.seq (AC.seq (AC.reg zqe_19 [82, 83, 84])   (AC.cond (Arg.t 85)   AC.skip   (AC.exit 4)))   (AC.seq (AC.block 5 (AC.seq (AC.reg zqe_20 [88, 89, 90, 91, 92, 93, 94, 95])   (AC.cond (Arg.t 96)   (AC.seq (AC.reg zqe_21 [])   AC.ret)   AC.skip)))   (AC.reg zqe_22 [86, 87])))) fr σ Q := by
  refine sem_for (s := []) W' (fun i fr σ' => fget fr 10 = .lst 1 (nints W') false ∧ fget fr 12 = .lst 1 (nints W') false ∧ fget fr 14 = .int .i64 ((i : Nat) : Int) ∧ σ' = σ)
    (fun e fr σ' => e = .ex 4 ∧ σ' = σ)
    ⟨f10, f12, f14, rfl⟩ (fun i x hx fr σ' hJ => ?_) (fun i hi fr σ' hJ => ?_) (fun e fr σ' hE => ?_)
  · clear f10 f12 f14
    obtain ⟨f10, f12, f14, rfl⟩ := hJ
    have hlt := (List.getElem?_eq_some_iff.1 hx).1
    have hg := nints_get hx
    have hwi := w_nx hlt (by omega)
    refine W_run 1000 ?_
    simp -implicitDefEqProofs (disch := omega) only [go_sem, need_of, ↓reduceIte, Nat.reduceEqDiff, Nat.zero_add, decide_true, Nat.le_refl, bne_self_eq_false, zqe_19, zqe_20, zqe_21, zqe_22, nints_length, List.length_cons, List.length_nil, true_implies, and_true, f10, f12, f14, hlt, hg, hwi, bne_self_eq_false]
    refine ⟨_, _, Shift.refl _ _ _ _, ?_⟩
    simp -implicitDefEqProofs (disch := omega) only [go_sem, ↓reduceIte, Nat.reduceEqDiff, f10, f12]
  · obtain ⟨f10, f12, f14, rfl⟩ := hJ
    refine W_run 1000 ?_
    simp -implicitDefEqProofs (disch := omega) only [go_sem, ↓reduceIte, Nat.reduceEqDiff, decide_false, zqe_19, zqe_20, zqe_21, zqe_22, nints_length, and_true, f10, f14, hi, Nat.lt_irrefl]
  · obtain ⟨rfl, rfl⟩ := hE
    exact hQ fr

theorem c_ValueNeeds (hT : TabOk P tab) (F : Fmt P G) (SO : SortOk P) (SI : SortF P n_slices_Sort_int64_int64) (hW : Pure P G n_proofmarklaw03_works [] fun v => v = .bool true) {t : Nat} (l : List Nd) (ids : List Int) (tl tr : Bool) (hl : ∀ d ∈ l, i64 d.n ∧ i64 d.a) :
   C P G 0 n_proofmarklaw03_ValueNeeds [.lst 6 (l.map fun d => .agg d.cells) tl, .lst 1 (nints ids) tr] ⟨t, []⟩ fun v _ => v = .bool true := by
  have hA := madeL_len l []
  have hok := okN_made l hl
  have hAe : madeL l = l.foldl (fun L d => (addN L d).2) [] := rfl
  rw [← hAe] at hA
  simp only [List.length_nil] at hA
  have hUn : (usesL (madeL l) ids).length ≤ (madeL l).length := nodup_len _ _ uses_nodup uses_ok
  refine C_tab hT t_proofmarklaw03_ValueNeeds (by simp [proofmarklaw03_ValueNeeds]) (W_run 14 ?_)
  by_cases h1 : (60 : Int) < l.length
  · have h1' : decide ((60 : Int) < l.length) = true := by simpa using h1
    simp -implicitDefEqProofs (disch := omega) only [go_sem, ↓reduceIte, reduceCtorEq, Nat.reduceEqDiff, Nat.zero_add, decide_true, gt_iff_lt, proofmarklaw03_ValueNeeds, zqe_0, zqe_1, zqe_2, zqe_3, zqe_4, zqe_5, zqe_6, zqe_7, zqe_8, zqe_9, zqe_10, zqe_11, zqe_12, zqe_13, zqe_14, zqe_15, zqe_16, zqe_17, zqe_18, zqe_19, zqe_20, zqe_21, zqe_22, zqe_23, List.length_map, h1]
    iterate 9 (try (refine run_sem 4 ?_; simp -implicitDefEqProofs (disch := omega) only [go_sem, ↓reduceIte, reduceCtorEq, Nat.reduceEqDiff]))
    refine callPS hT t_proofmarklaw03_works hW rfl 1000 ?_
    simp -implicitDefEqProofs (disch := omega) only [go_sem, ↓reduceIte, reduceCtorEq, Nat.reduceEqDiff]
  · have h1' : decide ((60 : Int) < l.length) = false := by simpa using h1
    by_cases h2 : (20 : Int) < ids.length
    · have h2' : decide ((20 : Int) < ids.length) = true := by simpa using h2
      simp -implicitDefEqProofs (disch := omega) only [go_sem, ↓reduceIte, reduceCtorEq, Nat.reduceAdd, Nat.reduceEqDiff, Nat.zero_add, decide_true, decide_false, gt_iff_lt, proofmarklaw03_ValueNeeds, zqe_0, zqe_1, zqe_2, zqe_3, zqe_4, zqe_5, zqe_6, zqe_7, zqe_8, zqe_9, zqe_10, zqe_11, zqe_12, zqe_13, zqe_14, zqe_15, zqe_16, zqe_17, zqe_18, zqe_19, zqe_20, zqe_21, zqe_22, zqe_23, nints_length, List.length_map, h1, h2]
      iterate 9 (try (refine run_sem 4 ?_; simp -implicitDefEqProofs (disch := omega) only [go_sem, ↓reduceIte, reduceCtorEq, Nat.reduceEqDiff]))
      refine callPS hT t_proofmarklaw03_works hW rfl 1000 ?_
      simp -implicitDefEqProofs (disch := omega) only [go_sem, ↓reduceIte, reduceCtorEq, Nat.reduceEqDiff]
    · have h2' : decide ((20 : Int) < ids.length) = false := by simpa using h2
      simp -implicitDefEqProofs (disch := omega) only [go_sem, ↓reduceIte, reduceCtorEq, Nat.reduceAdd, Nat.reduceEqDiff, Nat.zero_add, decide_false, gt_iff_lt, proofmarklaw03_ValueNeeds, zqe_0, zqe_1, zqe_2, zqe_3, zqe_4, zqe_5, zqe_6, zqe_7, zqe_8, zqe_9, zqe_10, zqe_11, zqe_12, zqe_13, zqe_14, zqe_15, zqe_16, zqe_17, zqe_18, zqe_19, zqe_20, zqe_21, zqe_22, zqe_23, nints_length, List.length_map, h1, h2]
      iterate 9 (try (refine run_sem 4 ?_; simp -implicitDefEqProofs (disch := omega) only [go_sem, ↓reduceIte, reduceCtorEq, Nat.reduceEqDiff]))
      refine call hT t_proofmarkkit_Made (c_Made hT F l tl hl (by omega)) 1000 fun v σ hv => ?_
      obtain ⟨v0, v1, v2, v3, v4, c1, u, hc1, rfl, rfl⟩ := hv
      simp -implicitDefEqProofs (disch := omega) only [go_sem, ↓reduceIte, reduceCtorEq, Nat.reduceAdd, Nat.reduceEqDiff, Nat.reduceLT, Nat.zero_add, List.length_cons, List.length_nil]
      refine sem_shift (Shift.own (s := 7) (sz := 1) (T := 3) (z := 0) (by simp -implicitDefEqProofs (disch := omega) only [go_sem, ↓reduceIte, reduceCtorEq, Nat.reduceEqDiff]) (by decide)) (run_sem 1000 ?_)
      simp -implicitDefEqProofs (disch := omega) only [go_sem, ↓reduceIte, reduceCtorEq, Nat.reduceEqDiff, H.push, kG_len0]
      refine vn0 (ids := ids) (tr := tr) (by omega) (by simp -implicitDefEqProofs (disch := omega) only [go_sem, ↓reduceIte, reduceCtorEq]) (by simp -implicitDefEqProofs (disch := omega) only [go_sem, ↓reduceIte, reduceCtorEq, Nat.reduceEqDiff]) (by simp -implicitDefEqProofs (disch := omega) only [go_sem, ↓reduceIte, reduceCtorEq, Nat.reduceEqDiff]) (by simp -implicitDefEqProofs (disch := omega) only [go_sem, ↓reduceIte, reduceCtorEq, Nat.reduceEqDiff]) (fun fr' c2 r f1 f5 f7 => ?_)
      refine sem_exitS [(1, .lst 1 (nints ids) tr), (5, .ptr 1 v0 0), (7, .sl 5 r 0 1 ids.length none)] ⟨f1, f5, f7, trivial⟩ ?_
      refine sem_shift (Shift.freeze (k := 5) (v := r) (T := 3) (cs := nints ids) (Nat.zero_le _) rfl (nints_nameless _)) ?_
      have hfz := frz_n (k := 5) (w := r) ids
      simp only [frzFr_cons, frzFr_nil, hfz, kGs_5, kfrz]
      rw [show frzV 5 r (nints ids) (.ptr 1 v0 0) = .ptr 1 v0 0 from rfl, show frzV 5 r (nints ids) (.lst 1 (nints ids) tr) = .lst 1 (nints ids) tr from rfl]
      refine sem_shift (Shift.drop (o' := kG F.fmt v0 v1 v2 v3 v4 (madeL l)) (t' := c2) (by simp [subObs, kG]) (Nat.le_refl _) (Nat.zero_le _)) (run_sem 1000 ?_)
      simp -implicitDefEqProofs (disch := omega) only [go_sem, ↓reduceIte, Nat.reduceEqDiff]
      refine call hT t_value_Needs (C_lower (Nat.zero_le 5) (Nat.le_refl 5) (c_Needs hT SO SI (by omega) hok.wf ids 1 tr (.inl rfl) (by omega))) 1000 fun v σ hv => ?_
      obtain ⟨rfl, c3, hc3, rfl⟩ := hv
      simp -implicitDefEqProofs (disch := omega) only [go_sem, ↓reduceIte, Nat.reduceAdd, Nat.reduceEqDiff, Nat.reduceLT, Nat.zero_add, List.length_cons, List.length_nil]
      refine call hT t_proofmarkkit_Plain (c_PlainG hT (by omega)) 1000 fun v σ hv => ?_
      obtain ⟨w0, w1, c4, hc4, rfl, rfl⟩ := hv
      simp -implicitDefEqProofs (disch := omega) only [go_sem, ↓reduceIte, Nat.reduceEqDiff]
      refine call hT t_proofmarkref03_Needs (r_NeedsK (ex := []) hT (by omega) hok ids (by omega)) 1000 fun v σ hv => ?_
      obtain ⟨rfl, c5, hc5, rfl⟩ := hv
      have hs1 := symS_len (madeL l) (usesL (madeL l) ids)
      have hs2 := rawS_len (madeL l) (usesL (madeL l) ids)
      have hs3 := cellS_len (madeL l) (usesL (madeL l) ids)
      generalize symS (madeL l) (usesL (madeL l) ids) = U at *
      generalize cellS (madeL l) (usesL (madeL l) ids) = W' at *
      simp -implicitDefEqProofs (disch := omega) only [go_sem, ↓reduceIte, Nat.reduceAdd, Nat.reduceEqDiff, Nat.reduceLT, Nat.zero_add, bne_self_eq_false, nints_length, List.length_cons, List.length_nil, bne_self_eq_false]
      iterate 9 (try (refine run_sem 4 ?_; simp -implicitDefEqProofs (disch := omega) only [go_sem]))
      refine vn1 (U := U) (W' := W') (by omega) (by simp -implicitDefEqProofs (disch := omega) only [go_sem, ↓reduceIte, Nat.reduceEqDiff]) (by simp -implicitDefEqProofs (disch := omega) only [go_sem, ↓reduceIte, Nat.reduceEqDiff]) (by simp -implicitDefEqProofs (disch := omega) only [go_sem, ↓reduceIte, Nat.reduceEqDiff]) (by simp -implicitDefEqProofs (disch := omega) only [go_sem, ↓reduceIte, Nat.reduceEqDiff]) (by simp -implicitDefEqProofs (disch := omega) only [go_sem, ↓reduceIte, Nat.reduceEqDiff]) (fun fr' g10 g12 => ?_)
      refine sem_exit [(10, .lst 1 (nints W') false), (12, .lst 1 (nints W') false)] ⟨g10, g12, trivial⟩ 1000 ?_
      simp -implicitDefEqProofs (disch := omega) only [go_sem, ↓reduceIte, Nat.reduceEqDiff]
      refine vn2 (W' := W') (by omega) (by simp -implicitDefEqProofs (disch := omega) only [go_sem, ↓reduceIte]) (by simp -implicitDefEqProofs (disch := omega) only [go_sem, ↓reduceIte, Nat.reduceEqDiff]) (by simp -implicitDefEqProofs (disch := omega) only [go_sem, ↓reduceIte, Nat.reduceEqDiff]) (fun fr'' => ?_)
      refine run_sem 1000 ?_
      simp -implicitDefEqProofs (disch := omega) only [go_sem, ↓reduceIte]
      refine callPS hT t_proofmarklaw03_works hW rfl 1000 ?_
      simp -implicitDefEqProofs (disch := omega) only [go_sem, ↓reduceIte, Nat.reduceEqDiff]
end Go.Proofs.YtfligilbnpcnaaaGreatDoor

