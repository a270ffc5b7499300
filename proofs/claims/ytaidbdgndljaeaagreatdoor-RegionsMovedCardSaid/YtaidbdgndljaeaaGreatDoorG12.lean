/- The law RegionsMoved. -/
import Derived.Test.YtaidbdgndljaeaaGreatDoorJ10
namespace Go.Proofs.YtaidbdgndljaeaaGreatDoor
open Go Go.Am Go.Rv Go.Rg
set_option maxRecDepth 100000
set_option maxHeartbeats 2000000
theorem img2_B {a l : List In} (ha : a.length ≤ 60) (hl : l.length ≤ 60) : ImB (imgS [a, l] 0) := by
  rw [imgS_two]
  exact ⟨by simp, by have := encs_le l; have := encs_le a; simp; omega, by simp [nameAt]⟩
theorem ofS_ne {m : Im} {a b : Nat} {e : Int} (hr : ofS m = .inr (a, b, e)) : e ≠ 0 := by
  unfold ofS at hr
  split at hr
  · exact readAll_ne hr
  · simp only [Sum.inr.injEq, Prod.mk.injEq] at hr; omega
abbrev m0J (l a : List In) : Nat → Fr → H → Prop := fun i fr σ => ∃ t, (∀ (j : Nat) (x : In), j < i → l[j]? = some x → (enc T x).2 = 0 ∧ noCall x) ∧ fget fr 0 = insV l ∧ fget fr 1 = insV a ∧ fget fr 5 = .int .i64 ((i : Nat) : Int) ∧ σ = ⟨t, []⟩
abbrev m0E (l a : List In) : AE → Fr → H → Prop := fun e fr σ => (e = .ret ∧ fget fr 4 = .bool true) ∨ ∃ t, e = .ex 0 ∧ (∀ x ∈ l, (enc T x).2 = 0 ∧ noCall x) ∧ fget fr 0 = insV l ∧ fget fr 1 = insV a ∧ σ = ⟨t, []⟩
theorem m0_round (hT : TabOk Tryz.prog tab) {l a : List In} (hl : l.length ≤ 60) (hok : ∀ x ∈ l, InOk x) {i : Nat} {x : In} (hx : l[i]? = some x) {fr : Fr} {σ : H} (hJ : m0J l a i fr σ) :
    W Tryz.prog G0 220 0 (AC.seq (AC.seq (AC.reg zq1_4 [27, 28, 29])   (AC.cond (Arg.t 30)   AC.skip   (AC.exit 0)))   (AC.seq (AC.block 1 (AC.seq (AC.reg zq1_5 [34, 35, 36, 37, 38, 33, 39, 40, 6])   (AC.seq (AC.reg zq1_6 [41, 42, 43, 44, 45, 46, 47, 48, 49, 50, 51, 52, 53, 54, 55, 56, 57])   (AC.cond (Arg.t 58)   (AC.seq (AC.reg zq1_7 [59])   AC.ret)   AC.skip))))   (AC.reg zq1_8 [31, 32]))) fr σ (seqQ (fun fr σ => ∃ fr' σ', Shift G0 220 0 fr σ fr' σ' ∧ m0J l a (i + 1) fr' σ') (m0E l a)) := by
  obtain ⟨t, hj, f0, f1, f5, rfl⟩ := hJ
  have hlt := (List.getElem?_eq_some_iff.1 hx).1
  have hD := ins_getD hx
  have e2 := wnext hlt (by omega)
  have hE := c_Encode hT x (hok x (List.mem_of_getElem? hx))
  have hWk := c_works hT
  simp only [inC] at hD hE
  have hnext : (enc T x).2 = 0 → noCall x → ∀ (j : Nat) (y : In), j < i + 1 → l[j]? = some y → (enc T y).2 = 0 ∧ noCall y := fun h1 h2 j y h hy => by
    rcases Nat.lt_or_ge j i with h' | h'
    · exact hj j y h' hy
    · obtain rfl : j = i := by omega
      rw [hx] at hy; injection hy with hy; subst hy; exact ⟨h1, h2⟩
  refine W_round [(0, insV l), (1, insV a), (5, .int .i64 ((i : Nat) : Int))] ⟨f0, f1, f5, trivial⟩  20 ?_
  simp -implicitDefEqProofs (disch := omega) only [go_sem, need_of, ↓reduceIte, reduceCtorEq, Nat.reduceAdd, Nat.reduceEqDiff, Nat.zero_add, decide_true, Nat.le_refl, zq1_4, zq1_5, zq1_6, zq1_7, zq1_8, inC, insV, V.cells, List.length_map, false_implies, and_true, hlt, hD]
  refine callPS hT t_rv_Encode hE rfl 12 ?_
  generalize enc T x = e at *
  obtain ⟨w, er⟩ := e
  simp only at hnext
  by_cases h0 : er = 0
  · have h0' : (er != 0) = false := by simp [h0]
    by_cases h3 : x.op = 3
    · have h3' : (x.op == 3) = true := by simp [h3]
      by_cases h4 : x.rd = 1
      · have h4' : (x.rd == 1) = true := by simp [h4]
        simp -implicitDefEqProofs (disch := omega) only [go_sem, ↓reduceIte, reduceCtorEq, Nat.reduceAdd, Nat.reduceEqDiff, Nat.reduceLT, Nat.zero_add, h0']
        iterate 9 (try (refine run_sem 4 ?_; simp -implicitDefEqProofs (disch := omega) only [go_sem, need_of, ↓reduceIte, reduceCtorEq, Nat.reduceAdd, Nat.reduceEqDiff, Nat.reduceLeDiff, Nat.zero_add, Nat.add_zero, V.cells, List.length_map, true_implies, and_true, h3', h4', hlt, hD]))
        refine callPS hT t_proofmarklaw22_works hWk rfl 8 ?_
        simp -implicitDefEqProofs (disch := omega) only [go_sem, ↓reduceIte, reduceCtorEq, Nat.reduceEqDiff]
        exact .inl ⟨rfl, rfl⟩
      · have h4' : (x.rd == 1) = false := by simp [h4]
        have hn := hnext h0 (fun h => h4 h.2)
        simp -implicitDefEqProofs (disch := omega) only [go_sem, ↓reduceIte, reduceCtorEq, Nat.reduceAdd, Nat.reduceEqDiff, Nat.reduceLT, Nat.zero_add, h0']
        iterate 9 (try (refine run_sem 4 ?_; simp -implicitDefEqProofs (disch := omega) only [go_sem, need_of, ↓reduceIte, reduceCtorEq, Nat.reduceAdd, Nat.reduceEqDiff, Nat.reduceLeDiff, Nat.zero_add, Nat.add_zero, V.cells, List.length_map, true_implies, and_true, h3', h4', hlt, hD, e2]))
        exact ⟨_, _, Shift.refl _ _ _ _, t, hn, rfl, rfl, rfl, rfl⟩
    · have h3' : (x.op == 3) = false := by simp [h3]
      have hn := hnext h0 (fun h => h3 h.1)
      simp -implicitDefEqProofs (disch := omega) only [go_sem, ↓reduceIte, reduceCtorEq, Nat.reduceAdd, Nat.reduceEqDiff, Nat.reduceLT, Nat.zero_add, h0']
      iterate 9 (try (refine run_sem 4 ?_; simp -implicitDefEqProofs (disch := omega) only [go_sem, need_of, ↓reduceIte, reduceCtorEq, Nat.reduceAdd, Nat.reduceEqDiff, Nat.reduceLeDiff, Nat.zero_add, Nat.add_zero, V.cells, List.length_map, true_implies, and_true, h3', hlt, hD, e2]))
      exact ⟨_, _, Shift.refl _ _ _ _, t, hn, rfl, rfl, rfl, rfl⟩
  · have h0' : (er != 0) = true := by simp [h0]
    simp -implicitDefEqProofs (disch := omega) only [go_sem, ↓reduceIte, reduceCtorEq, Nat.reduceAdd, Nat.reduceEqDiff, Nat.reduceLT, Nat.zero_add, h0']
    iterate 9 (try (refine run_sem 4 ?_; simp -implicitDefEqProofs (disch := omega) only [go_sem, ↓reduceIte, reduceCtorEq, Nat.reduceEqDiff]))
    refine callPS hT t_proofmarklaw22_works hWk rfl 8 ?_
    simp -implicitDefEqProofs (disch := omega) only [go_sem, ↓reduceIte, reduceCtorEq, Nat.reduceEqDiff]
    exact .inl ⟨rfl, rfl⟩
abbrev m1J (f g : Rg.Fn) (nm : List UInt8) (pl : Int) : Nat → Fr → H → Prop := fun i fr σ => ∃ t o, fget fr 8 = .lst 5 [.agg (fC f)] false ∧ fget fr 10 = .lst 5 [.agg (fC g), .agg (fnC nm pl f.code f.frame f.cuts)] false ∧ fget fr 12 = .int .i64 ((i : Nat) : Int) ∧ σ = ⟨t, o⟩
abbrev m1E : AE → Fr → H → Prop := fun e _ _ => e = .ex 2
theorem m1_round (hT : TabOk Tryz.prog tab) {f g : Rg.Fn} {nm : List UInt8} {pl : Int} (hl : f.code.length ≤ 1000) (hok : ∀ x ∈ f.code, InOk x) {i : Nat} {x : In} (hx : f.code[i]? = some x) {fr : Fr} {σ : H} (hJ : m1J f g nm pl i fr σ) :
    W Tryz.prog G0 220 0 (AC.seq (AC.seq (AC.reg zq1_18 [155, 156, 157, 158, 159, 160])   (AC.cond (Arg.t 161)   AC.skip   (AC.exit 2)))   (AC.seq (AC.block 3 (AC.seq (AC.reg zq1_19 [164, 165, 166, 167, 168, 169, 170, 171, 172, 173, 174, 175, 176, 177, 178, 179, 180, 181, 182, 183, 184, 185, 186, 187, 188, 189, 190, 191, 192, 193, 194, 195, 196, 197, 198, 199, 200, 201, 202, 203, 204, 205, 206, 207, 208, 209, 210, 211, 212, 213, 214, 215, 216, 217])   (AC.cond (Arg.t 218)   (AC.seq (AC.reg zq1_20 [])   AC.ret)   AC.skip)))   (AC.reg zq1_21 [162, 163]))) fr σ (seqQ (fun fr σ => ∃ fr' σ', Shift G0 220 0 fr σ fr' σ' ∧ m1J f g nm pl (i + 1) fr' σ') m1E) := by
  obtain ⟨t, o, f8, f10, f12, rfl⟩ := hJ
  have hlt := (List.getElem?_eq_some_iff.1 hx).1
  have hD := ins_getD hx
  have e2 := wnext hlt (by omega)
  have hR := fun nm pl => c_Return (P := Tryz.prog) (G := G0) hT nm pl f.frame f.code f.cuts (i : Int) (by omega) (by omega)
  have hE := fun nm pl => c_Ends (P := Tryz.prog) (G := G0) hT nm pl f.frame f.code f.cuts (i : Int) (by omega) hok (by omega)
  have hN := fun nm pl => c_Next (G := G0) hT nm pl f.frame f.code f.cuts (i : Int) (by omega) hok (by omega)
  have hln := next_len f.code f.frame i
  have hS := c_SameInts (P := Tryz.prog) (G := G0) hT (next f.code f.frame i) (next f.code f.frame i) (by omega) (by omega)
  rw [decide_eq_true rfl] at hS
  have hn : ∀ nm pl, namelessL [.agg (fnC nm pl f.code f.frame f.cuts), .int .i64 (i : Int)] = true := fun nm pl => by simp [namelessL, nameless, fn_nl]
  have hnS : namelessL [cutsV (next f.code f.frame i), cutsV (next f.code f.frame i)] = true := by simp [cutsV, namelessL, nameless]
  simp only [inC] at hD
  simp only [fnC, insV, cutsV, inC] at hR hE hN hS hn hnS
  generalize ret f.code f.frame (i : Int) = b1 at *
  generalize ends f.code (i : Int) = b2 at *
  generalize next f.code f.frame (i : Int) = L at *
  have hb1 : (b1 != b1) = false := by simp
  have hb2 : (b2 != b2) = false := by simp
  refine W_round [(8, .lst 5 [.agg (fC f)] false), (10, .lst 5 [.agg (fC g), .agg (fnC nm pl f.code f.frame f.cuts)] false), (12, .int .i64 ((i : Nat) : Int))] ⟨f8, f10, f12, trivial⟩  20 ?_
  simp -implicitDefEqProofs (disch := omega) only [go_sem, ↓reduceIte, Nat.reduceAdd, Nat.reduceEqDiff, Nat.reduceLeDiff, Nat.reduceLT, Int.reduceToNat, Int.reduceLE, Nat.zero_add, decide_true, zq1_18, zq1_19, zq1_20, zq1_21, inC, insV, fC, fnC, cutsV, V.cells, List.length_map, true_implies, and_true, hlt]
  iterate 3 (try (refine run_sem 8 ?_; simp -implicitDefEqProofs (disch := omega) only [go_sem, need_of, ↓reduceIte, reduceCtorEq, Nat.reduceAdd, Nat.reduceEqDiff, Nat.reduceLeDiff, Nat.reduceLT, Int.reduceToNat, Int.reduceLE, Nat.zero_add, Bool.not_true, Nat.le_refl, beq_self_eq_true, V.cells, List.length_map, false_implies, true_implies, and_true, Bool.not_true, hlt, hD]))
  refine callPS hT t_regions_Func_Return (hR _ _) (hn _ _) 4 ?_
  simp -implicitDefEqProofs (disch := omega) only [go_sem, ↓reduceIte, Nat.reduceAdd, Nat.reduceEqDiff]
  iterate 2 (try (refine run_sem 4 ?_; simp -implicitDefEqProofs (disch := omega) only [go_sem, need_of, ↓reduceIte, reduceCtorEq, Nat.reduceAdd, Nat.reduceEqDiff, Nat.reduceLeDiff, Nat.reduceLT, Nat.reduceSub, Nat.reduceMul, Int.reduceToNat, Int.reduceLE, Int.reduceLT, Int.reduceEq, Int.reduceNe, Nat.succ_ne_zero, Nat.zero_add, Nat.add_zero, Nat.mul_one, Nat.one_mul, Nat.zero_mul, decide_true, decide_false, Bool.not_true, Bool.not_false, Nat.le_refl, Nat.zero_le, ge_iff_le, gt_iff_lt, Nat.reduceBEq, Nat.reduceBNe, beq_self_eq_true, bne_self_eq_false, Option.isSome_some, Option.isSome_none, Option.getD_some, Option.getD_none, proofmarklaw22_RegionsMoved, zq1_0, zq1_1, zq1_2, zq1_3, zq1_4, zq1_5, zq1_6, zq1_7, zq1_8, zq1_9, zq1_10, zq1_11, zq1_12, zq1_13, zq1_14, zq1_15, zq1_16, zq1_17, zq1_18, zq1_19, zq1_20, zq1_21, zq1_22, inC, insV, fC, fnC, cutsV, flt, V.cells, List.length_map, ints_length, false_implies, true_implies, true_and, and_true, not_true_eq_false, not_false_eq_true, Int.reduceBEq, Int.reduceBNe, Bool.not_true, Bool.not_false, List.cons_append, List.nil_append, ge_iff_le, gt_iff_lt]))
  refine callPS hT t_regions_Func_Return (hR _ _) (hn _ _) 4 ?_
  simp -implicitDefEqProofs (disch := omega) only [go_sem, ↓reduceIte, Nat.reduceAdd, Nat.reduceEqDiff, Nat.zero_add, bne_self_eq_false]
  iterate 4 (try (refine run_sem 4 ?_; simp -implicitDefEqProofs (disch := omega) only [go_sem, ↓reduceIte, reduceCtorEq, Nat.reduceAdd, Nat.reduceEqDiff, Nat.reduceLT, Int.reduceToNat, Int.reduceLE, Nat.zero_add, Nat.le_refl, V.cells, false_implies, and_true]))
  refine callPS hT t_regions_Func_Ends (hE _ _) (hn _ _) 4 ?_
  simp -implicitDefEqProofs (disch := omega) only [go_sem, ↓reduceIte, Nat.reduceAdd, Nat.reduceEqDiff]
  iterate 2 (try (refine run_sem 4 ?_; simp -implicitDefEqProofs (disch := omega) only [go_sem, need_of, ↓reduceIte, reduceCtorEq, Nat.reduceAdd, Nat.reduceEqDiff, Nat.reduceLeDiff, Nat.reduceLT, Nat.reduceSub, Nat.reduceMul, Int.reduceToNat, Int.reduceLE, Int.reduceLT, Int.reduceEq, Int.reduceNe, Nat.succ_ne_zero, Nat.zero_add, Nat.add_zero, Nat.mul_one, Nat.one_mul, Nat.zero_mul, decide_true, decide_false, Bool.not_true, Bool.not_false, Nat.le_refl, Nat.zero_le, ge_iff_le, gt_iff_lt, Nat.reduceBEq, Nat.reduceBNe, beq_self_eq_true, bne_self_eq_false, Option.isSome_some, Option.isSome_none, Option.getD_some, Option.getD_none, proofmarklaw22_RegionsMoved, zq1_0, zq1_1, zq1_2, zq1_3, zq1_4, zq1_5, zq1_6, zq1_7, zq1_8, zq1_9, zq1_10, zq1_11, zq1_12, zq1_13, zq1_14, zq1_15, zq1_16, zq1_17, zq1_18, zq1_19, zq1_20, zq1_21, zq1_22, inC, insV, fC, fnC, cutsV, flt, V.cells, List.length_map, ints_length, false_implies, true_implies, true_and, and_true, not_true_eq_false, not_false_eq_true, Int.reduceBEq, Int.reduceBNe, Bool.not_true, Bool.not_false, List.cons_append, List.nil_append, ge_iff_le, gt_iff_lt]))
  refine callPS hT t_regions_Func_Ends (hE _ _) (hn _ _) 4 ?_
  simp -implicitDefEqProofs (disch := omega) only [go_sem, ↓reduceIte, Nat.reduceAdd, Nat.reduceEqDiff, Nat.zero_add, bne_self_eq_false]
  iterate 4 (try (refine run_sem 4 ?_; simp -implicitDefEqProofs (disch := omega) only [go_sem, ↓reduceIte, reduceCtorEq, Nat.reduceAdd, Nat.reduceEqDiff, Nat.reduceLT, Int.reduceToNat, Int.reduceLE, Nat.zero_add, Nat.le_refl, V.cells, false_implies, and_true]))
  refine callPS hT t_regions_Func_Next (hN _ _) (hn _ _) 4 ?_
  simp -implicitDefEqProofs (disch := omega) only [go_sem, ↓reduceIte, Nat.reduceAdd, Nat.reduceEqDiff]
  iterate 2 (try (refine run_sem 4 ?_; simp -implicitDefEqProofs (disch := omega) only [go_sem, need_of, ↓reduceIte, reduceCtorEq, Nat.reduceAdd, Nat.reduceEqDiff, Nat.reduceLeDiff, Nat.reduceLT, Nat.reduceSub, Nat.reduceMul, Int.reduceToNat, Int.reduceLE, Int.reduceLT, Int.reduceEq, Int.reduceNe, Nat.succ_ne_zero, Nat.zero_add, Nat.add_zero, Nat.mul_one, Nat.one_mul, Nat.zero_mul, decide_true, decide_false, Bool.not_true, Bool.not_false, Nat.le_refl, Nat.zero_le, ge_iff_le, gt_iff_lt, Nat.reduceBEq, Nat.reduceBNe, beq_self_eq_true, bne_self_eq_false, Option.isSome_some, Option.isSome_none, Option.getD_some, Option.getD_none, proofmarklaw22_RegionsMoved, zq1_0, zq1_1, zq1_2, zq1_3, zq1_4, zq1_5, zq1_6, zq1_7, zq1_8, zq1_9, zq1_10, zq1_11, zq1_12, zq1_13, zq1_14, zq1_15, zq1_16, zq1_17, zq1_18, zq1_19, zq1_20, zq1_21, zq1_22, inC, insV, fC, fnC, cutsV, flt, V.cells, List.length_map, ints_length, false_implies, true_implies, true_and, and_true, not_true_eq_false, not_false_eq_true, Int.reduceBEq, Int.reduceBNe, Bool.not_true, Bool.not_false, List.cons_append, List.nil_append, ge_iff_le, gt_iff_lt]))
  refine callPS hT t_regions_Func_Next (hN _ _) (hn _ _) 4 ?_
  simp -implicitDefEqProofs (disch := omega) only [go_sem, ↓reduceIte, Nat.reduceAdd, Nat.reduceEqDiff]
  iterate 2 (try (refine run_sem 4 ?_; simp -implicitDefEqProofs (disch := omega) only [go_sem, need_of, ↓reduceIte, reduceCtorEq, Nat.reduceAdd, Nat.reduceEqDiff, Nat.reduceLeDiff, Nat.reduceLT, Nat.reduceSub, Nat.reduceMul, Int.reduceToNat, Int.reduceLE, Int.reduceLT, Int.reduceEq, Int.reduceNe, Nat.succ_ne_zero, Nat.zero_add, Nat.add_zero, Nat.mul_one, Nat.one_mul, Nat.zero_mul, decide_true, decide_false, Bool.not_true, Bool.not_false, Nat.le_refl, Nat.zero_le, ge_iff_le, gt_iff_lt, Nat.reduceBEq, Nat.reduceBNe, beq_self_eq_true, bne_self_eq_false, Option.isSome_some, Option.isSome_none, Option.getD_some, Option.getD_none, proofmarklaw22_RegionsMoved, zq1_0, zq1_1, zq1_2, zq1_3, zq1_4, zq1_5, zq1_6, zq1_7, zq1_8, zq1_9, zq1_10, zq1_11, zq1_12, zq1_13, zq1_14, zq1_15, zq1_16, zq1_17, zq1_18, zq1_19, zq1_20, zq1_21, zq1_22, inC, insV, fC, fnC, cutsV, flt, V.cells, List.length_map, ints_length, false_implies, true_implies, true_and, and_true, not_true_eq_false, not_false_eq_true, Int.reduceBEq, Int.reduceBNe, Bool.not_true, Bool.not_false, List.cons_append, List.nil_append, ge_iff_le, gt_iff_lt]))
  refine callPS hT t_proofmarkkit_SameInts hS hnS 4 ?_
  simp -implicitDefEqProofs (disch := omega) only [go_sem, ↓reduceIte, Nat.reduceAdd, Nat.reduceEqDiff, Bool.not_true, Bool.not_true]
  iterate 6 (try (refine run_sem 4 ?_; simp -implicitDefEqProofs (disch := omega) only [go_sem, ↓reduceIte, Nat.reduceEqDiff, e2]))
  exact ⟨_, _, Shift.refl _ _ _ _, t, o, rfl, rfl, rfl, rfl⟩
theorem c_RegionsMoved (hT : TabOk Tryz.prog tab) (l a : List In) (hok : ∀ x ∈ l, InOk x) (hoka : ∀ x ∈ a, InOk x) :
    Am.Pure Tryz.prog G0 n_proofmarklaw22_RegionsMoved [insV l, insV a] fun v => v = .bool true := by
  have hWk := c_works hT
  intro t
  refine C_keep 0 (Nat.zero_le _) (C_tab hT t_proofmarklaw22_RegionsMoved (by simp [proofmarklaw22_RegionsMoved]) (W_run 5 ?_))
  by_cases g1 : 60 < l.length
  · have g1' : decide ((60 : Int) < (l.length : Int)) = true := decide_eq_true (by omega)
    have g1'' : ((60 : Int) < (l.length : Int)) = True := eq_true (by omega)
    simp -implicitDefEqProofs (disch := omega) only [go_sem, ↓reduceIte, reduceCtorEq, Nat.reduceEqDiff, Nat.zero_add, proofmarklaw22_RegionsMoved, zq1_0, zq1_1, zq1_2, zq1_3, zq1_4, zq1_5, zq1_6, zq1_7, zq1_8, zq1_9, zq1_10, zq1_11, zq1_12, zq1_13, zq1_14, zq1_15, zq1_16, zq1_17, zq1_18, zq1_19, zq1_20, zq1_21, zq1_22, inC, insV]
    iterate 6 (try (refine run_sem 8 ?_; simp -implicitDefEqProofs (disch := omega) only [go_sem, ↓reduceIte, reduceCtorEq, Nat.reduceEqDiff, decide_true, gt_iff_lt, List.length_map, gt_iff_lt, g1'']))
    refine callPS hT t_proofmarklaw22_works hWk rfl 8 ?_
    simp -implicitDefEqProofs (disch := omega) only [go_sem, ↓reduceIte, reduceCtorEq, Nat.reduceEqDiff, Nat.le_refl, and_true]
  have g1' : decide ((60 : Int) < (l.length : Int)) = false := decide_eq_false (by omega)
  have g1'' : ((60 : Int) < (l.length : Int)) = False := eq_false (by omega)
  by_cases g2 : 60 < a.length
  · have g2' : decide ((60 : Int) < (a.length : Int)) = true := decide_eq_true (by omega)
    have g2'' : ((60 : Int) < (a.length : Int)) = True := eq_true (by omega)
    simp -implicitDefEqProofs (disch := omega) only [go_sem, ↓reduceIte, reduceCtorEq, Nat.reduceEqDiff, Nat.zero_add, proofmarklaw22_RegionsMoved, zq1_0, zq1_1, zq1_2, zq1_3, zq1_4, zq1_5, zq1_6, zq1_7, zq1_8, zq1_9, zq1_10, zq1_11, zq1_12, zq1_13, zq1_14, zq1_15, zq1_16, zq1_17, zq1_18, zq1_19, zq1_20, zq1_21, zq1_22, inC, insV]
    iterate 6 (try (refine run_sem 8 ?_; simp -implicitDefEqProofs (disch := omega) only [go_sem, ↓reduceIte, reduceCtorEq, Nat.reduceAdd, Nat.reduceEqDiff, Nat.zero_add, decide_true, decide_false, gt_iff_lt, List.length_map, gt_iff_lt, g1'', g2'']))
    refine callPS hT t_proofmarklaw22_works hWk rfl 8 ?_
    simp -implicitDefEqProofs (disch := omega) only [go_sem, ↓reduceIte, reduceCtorEq, Nat.reduceEqDiff, Nat.le_refl, and_true]
  have g2' : decide ((60 : Int) < (a.length : Int)) = false := decide_eq_false (by omega)
  have g2'' : ((60 : Int) < (a.length : Int)) = False := eq_false (by omega)
  by_cases g3 : l.length = 0
  · have g3' : ((l.length : Int) == 0) = true := by simp [g3]
    have g3'' : ((l.length : Int) = 0) = True := eq_true (by omega)
    simp -implicitDefEqProofs (disch := omega) only [go_sem, ↓reduceIte, reduceCtorEq, Nat.reduceEqDiff, Nat.zero_add, proofmarklaw22_RegionsMoved, zq1_0, zq1_1, zq1_2, zq1_3, zq1_4, zq1_5, zq1_6, zq1_7, zq1_8, zq1_9, zq1_10, zq1_11, zq1_12, zq1_13, zq1_14, zq1_15, zq1_16, zq1_17, zq1_18, zq1_19, zq1_20, zq1_21, zq1_22, inC, insV]
    iterate 6 (try (refine run_sem 8 ?_; simp -implicitDefEqProofs (disch := omega) only [go_sem, ↓reduceIte, reduceCtorEq, Nat.reduceAdd, Nat.reduceEqDiff, Nat.zero_add, decide_false, gt_iff_lt, List.length_map, gt_iff_lt, g1'', g2'', g3']))
    refine callPS hT t_proofmarklaw22_works hWk rfl 8 ?_
    simp -implicitDefEqProofs (disch := omega) only [go_sem, ↓reduceIte, reduceCtorEq, Nat.reduceEqDiff, Nat.le_refl, and_true]
  have g3' : ((l.length : Int) == 0) = false := by rw [ibeq]; exact decide_eq_false (by omega)
  have g3'' : ((l.length : Int) = 0) = False := eq_false (by omega)
  simp -implicitDefEqProofs (disch := omega) only [go_sem, ↓reduceIte, reduceCtorEq, Nat.reduceEqDiff, Nat.zero_add, proofmarklaw22_RegionsMoved, zq1_0, zq1_1, zq1_2, zq1_3, zq1_4, zq1_5, zq1_6, zq1_7, zq1_8, zq1_9, zq1_10, zq1_11, zq1_12, zq1_13, zq1_14, zq1_15, zq1_16, zq1_17, zq1_18, zq1_19, zq1_20, zq1_21, zq1_22, inC, insV]
  iterate 6 (try (refine run_sem 8 ?_; simp -implicitDefEqProofs (disch := omega) only [go_sem, ↓reduceIte, reduceCtorEq, Nat.reduceAdd, Nat.reduceEqDiff, Nat.zero_add, decide_false, gt_iff_lt, List.length_map, gt_iff_lt, g1'', g2'', g3']))
  refine sem_for l (m0J l a) (m0E l a) ⟨t, fun j x h => absurd h (Nat.not_lt_zero j), ?_⟩ (fun i x hx fr σ hJ => m0_round hT (by omega) hok hx hJ) (fun i hi fr σ hJ => ?_) (fun e fr σ hE => ?_)
  · simp -implicitDefEqProofs (disch := omega) only [go_sem, ↓reduceIte, reduceCtorEq, Nat.reduceEqDiff, inC, insV, true_and, and_true]
    try simp
  · obtain ⟨t2, hj, f0, f1, f5, rfl⟩ := hJ
    refine W_round [(0, insV l), (1, insV a), (5, .int .i64 ((i : Nat) : Int))] ⟨f0, f1, f5, trivial⟩  12 ?_
    simp -implicitDefEqProofs (disch := omega) only [go_sem, ↓reduceIte, reduceCtorEq, Nat.reduceEqDiff, decide_false, inC, insV, List.length_map, hi, Nat.lt_irrefl]
    refine .inr ⟨t2, rfl, fun x hx => ?_, rfl, rfl, rfl⟩
    obtain ⟨j, hjl, rfl⟩ := List.mem_iff_getElem.1 hx
    exact hj j _ (by omega) (List.getElem?_eq_getElem hjl)
  · rcases hE with ⟨rfl, f4⟩ | ⟨t2, rfl, hall, f0, f1, rfl⟩
    · refine run_sem 12 ?_
      simp -implicitDefEqProofs (disch := omega) only [go_sem, Nat.zero_le, and_true, f4]
    · have hI1 := Pure.args (.cons _ _ _ _ (.lst 1 1 _ _ true (WkL.refl _) (.inr rfl)) (.cons _ _ _ _ (.refl _) .nil)) (c_Image (ls := [l]) (d := 0) hT (by simp) (by simp; omega) (by simpa using hok))
      have hI2 := Pure.args (.cons _ _ _ _ (.lst 1 1 _ _ true (WkL.refl _) (.inr rfl)) (.cons _ _ _ _ (.refl _) .nil)) (c_Image (ls := [a, l]) (d := 0) hT (by simp) (by intro x hx; simp at hx; rcases hx with rfl | rfl <;> omega) (by intro x hx; simp at hx; rcases hx with rfl | rfl <;> assumption))
      have hle := encs_le l
      have hlea := encs_le a
      have hO1 := c_Of hT (imgS [l] 0) (img1_B (by omega)) (by rw [imgS1]; exact enc_b hok) (by rw [imgS1]; simp; omega)
      have hO2 := c_Of hT (imgS [a, l] 0) (img2_B (by omega) (by omega)) (by rw [imgS_two]; intro w hw; rcases List.mem_append.1 hw with h | h; exact enc_b hoka w h; exact enc_b hok w h) (by rw [imgS_two]; simp; omega)
      have hin1 := img_nl (imgS [l] 0)
      have hin2 := img_nl (imgS [a, l] 0)
      have hnlI : ∀ ls : List (List In), namelessL [.lst 1 (ls.map insV) true, .int .i64 0] = true := fun ls => by simp [namelessL, nameless]
      have hmv := moved (l := l) (a := a) (fun x hx => ⟨(hok x hx).2.1.1, (hok x hx).2.2.1.1, (hok x hx).2.2.2.1.1⟩) hall (by omega) (by omega) (by omega)
      have hnI1 := hnlI [l]
      have hnI2 := hnlI [a, l]
      have hne1 : ∀ {a b e}, ofS (imgS [l] 0) = .inr (a, b, e) → e ≠ 0 := fun h => ofS_ne h
      have hne2 : ∀ {x b e}, ofS (imgS [a, l] 0) = .inr (x, b, e) → e ≠ 0 := fun h => ofS_ne h
      have hln2 : ∀ {r}, ofS (imgS [l] 0) = .inl r → ∀ (n : Nat) (f : Rg.Fn), r[n]? = some f → FnB f := fun h n f hn => fnB_of h (by rw [imgS1]; exact enc_b hok) (by rw [imgS1]; simp; omega) hn
      have hct : ∀ {r}, ofS (imgS [a, l] 0) = .inl r → ∀ (n : Nat) (f : Rg.Fn), r[n]? = some f → FnB f := fun h n f hn => fnB_of h (by rw [imgS_two]; intro w hw; rcases List.mem_append.1 hw with h | h; exact enc_b hoka w h; exact enc_b hok w h) (by rw [imgS_two]; simp; omega) hn
      have hcu : ∀ {r}, ofS (imgS [l] 0) = .inl r → ∀ (n : Nat) (f : Rg.Fn), r[n]? = some f → FnOk (imgS [l] 0) f := fun h n f hn => (fnOk_of h (by rw [imgS1]; exact enc_b hok) (by rw [imgS1]; simp; omega) hn).1
      generalize imgS [l] 0 = m1 at *
      generalize imgS [a, l] 0 = m2 at *
      simp only [List.map_cons, List.map_nil, insV, inC, imgV, imgC, symsV, codeV] at hI1 hI2 hO1 hO2 hin1 hin2 hnI1 hnI2
      refine sem_exit [(0, insV l), (1, insV a)] ⟨f0, f1, trivial⟩ 12 ?_
      simp -implicitDefEqProofs (disch := omega) only [go_sem, ↓reduceIte, reduceCtorEq, Nat.reduceEqDiff, Nat.zero_add, Nat.le_refl, inC, insV, V.cells, and_true, List.cons_append, List.nil_append]
      refine callPS hT t_proofmarkkit_Image hI1 hnI1 12 ?_
      simp -implicitDefEqProofs (disch := omega) only [go_sem, ↓reduceIte, reduceCtorEq, Nat.reduceEqDiff]
      refine callPS hT t_regions_Of hO1 hin1 12 ?_
      cases h1 : ofS m1 with
      | inr e1 =>
        obtain ⟨x1, y1, e1⟩ := e1
        have n1 := hne1 h1
        have n1' : (e1 != 0) = true := by simp [n1]
        rw [h1] at hmv
        simp only [ofV, funsV, List.map_nil]
        simp -implicitDefEqProofs (disch := omega) only [go_sem, ↓reduceIte, reduceCtorEq, Nat.reduceAdd, Nat.reduceEqDiff, Nat.reduceLeDiff, Nat.reduceLT, Nat.zero_add, Bool.not_false, Nat.le_refl, flt, V.cells, and_true, Bool.not_false, List.cons_append, List.nil_append]
        iterate 6 (try (refine run_sem 8 ?_; simp -implicitDefEqProofs (disch := omega) only [go_sem, ↓reduceIte, reduceCtorEq, Nat.reduceEqDiff]))
        refine callPS hT t_proofmarkkit_Image hI2 hnI2 12 ?_
        simp -implicitDefEqProofs (disch := omega) only [go_sem, ↓reduceIte, reduceCtorEq, Nat.reduceEqDiff]
        refine callPS hT t_regions_Of hO2 hin2 12 ?_
        cases h2 : ofS m2 with
        | inl r => rw [h2] at hmv; exact hmv.elim
        | inr e2 =>
          obtain ⟨x2, y2, e2⟩ := e2
          have n2 := hne2 h2
          have n2' : (e2 != 0) = true := by simp [n2]
          simp only [ofV, funsV, List.map_nil]
          simp -implicitDefEqProofs (disch := omega) only [go_sem, ↓reduceIte, reduceCtorEq, Nat.reduceAdd, Nat.reduceEqDiff, Nat.reduceLT, Nat.zero_add, Bool.not_false, Nat.le_refl, Nat.zero_le, flt, V.cells, true_implies, and_true, Bool.not_false, List.cons_append, List.nil_append]
          iterate 9 (try (refine run_sem 8 ?_; simp -implicitDefEqProofs (disch := omega) only [go_sem, ↓reduceIte, reduceCtorEq, Nat.reduceAdd, Nat.reduceEqDiff, Nat.zero_add, Nat.le_refl, true_implies, and_true, n1', n2']))
          refine callPS hT t_proofmarklaw22_works hWk rfl 8 ?_
          simp -implicitDefEqProofs (disch := omega) only [go_sem, ↓reduceIte, reduceCtorEq, Nat.reduceAdd, Nat.reduceEqDiff, Nat.zero_add, Nat.zero_le, and_true]
      | inl r =>
        rw [h1] at hmv
        simp only [ofV, funsV]
        simp -implicitDefEqProofs (disch := omega) only [go_sem, ↓reduceIte, reduceCtorEq, Nat.reduceAdd, Nat.reduceEqDiff, Nat.reduceLeDiff, Nat.reduceLT, Nat.zero_add, Bool.not_false, Nat.le_refl, inC, insV, fC, fnC, cutsV, flt, V.cells, and_true, Bool.not_false, List.cons_append, List.nil_append]
        iterate 6 (try (refine run_sem 8 ?_; simp -implicitDefEqProofs (disch := omega) only [go_sem, ↓reduceIte, reduceCtorEq, Nat.reduceEqDiff]))
        refine callPS hT t_proofmarkkit_Image hI2 hnI2 12 ?_
        simp -implicitDefEqProofs (disch := omega) only [go_sem, ↓reduceIte, reduceCtorEq, Nat.reduceEqDiff]
        refine callPS hT t_regions_Of hO2 hin2 12 ?_
        cases h2 : ofS m2 with
        | inr e2 =>
          obtain ⟨x2, y2, e2⟩ := e2
          have n2 := hne2 h2
          have n2' : (e2 != 0) = true := by simp [n2]
          rw [h2] at hmv
          simp only at hmv
          simp only [ofV, funsV, List.map_nil]
          simp -implicitDefEqProofs (disch := omega) only [go_sem, ↓reduceIte, reduceCtorEq, Nat.reduceAdd, Nat.reduceEqDiff, Nat.reduceLT, Nat.zero_add, Bool.not_false, Nat.le_refl, Nat.zero_le, flt, V.cells, true_implies, and_true, Bool.not_false, List.cons_append, List.nil_append]
          by_cases z : x2 = 0
          · have z' : ((x2 : Int) == 0) = true := by simp [z]
            have z'' : ((x2 : Int) = 0) = True := eq_true (by omega)
            iterate 9 (try (refine run_sem 8 ?_; simp -implicitDefEqProofs (disch := omega) only [go_sem, ↓reduceIte, reduceCtorEq, Nat.reduceAdd, Nat.reduceEqDiff, Nat.reduceLeDiff, Nat.zero_add, Nat.add_zero, Nat.le_refl, bne_self_eq_false, true_implies, and_true, n2', z']))
            refine callPS hT t_proofmarklaw22_works hWk rfl 8 ?_
            simp -implicitDefEqProofs (disch := omega) only [go_sem, ↓reduceIte, reduceCtorEq, Nat.reduceAdd, Nat.reduceEqDiff, Nat.zero_add, Nat.zero_le, and_true]
          · have z' : ((x2 : Int) == 0) = false := by rw [ibeq]; exact decide_eq_false (by omega)
            have z'' : ((x2 : Int) = 0) = False := eq_false (by omega)
            have z2 : e2 = 2 := hmv.2.resolve_left z
            have z2' : (e2 == 2) = true := by simp [z2]
            iterate 9 (try (refine run_sem 8 ?_; simp -implicitDefEqProofs (disch := omega) only [go_sem, ↓reduceIte, reduceCtorEq, Nat.reduceAdd, Nat.reduceEqDiff, Nat.reduceLeDiff, Nat.zero_add, Nat.add_zero, Nat.le_refl, bne_self_eq_false, true_implies, and_true, n2', z', z2']))
            refine callPS hT t_proofmarklaw22_works hWk rfl 8 ?_
            simp -implicitDefEqProofs (disch := omega) only [go_sem, ↓reduceIte, reduceCtorEq, Nat.reduceAdd, Nat.reduceEqDiff, Nat.zero_add, Nat.zero_le, and_true]
        | inl q =>
          rw [h2] at hmv
          simp only at hmv
          obtain ⟨f, g, h, rfl, rfl, hh, hfc⟩ := hmv
          have hB := hln2 h1 0 f rfl
          have hBg := hct h2 0 g rfl
          have hFO := hcu h1 0 f rfl
          obtain ⟨nm, hp, hc, hF, hK⟩ := h
          simp only [Rg.Fn.mk.injEq, true_and] at hh
          obtain ⟨rfl, rfl, rfl, rfl⟩ := hh
          have hcl : f.cuts.length ≤ 1000 := by
            have hl := hFO.len
            rw [hFO.cu]; unfold Rg.cuts; rw [List.length_map]
            have := List.length_filter_le (fun k : Nat => decide (1 < waysIn f.code f.frame f.code.length (k : Int))) (List.range f.code.length)
            rw [List.length_range] at this; omega
          have hS := c_SameInts (P := Tryz.prog) (G := G0) hT f.cuts f.cuts (by omega) (by omega)
          rw [decide_eq_true rfl] at hS
          have hnS : namelessL [cutsV f.cuts, cutsV f.cuts] = true := by simp [cutsV, namelessL, nameless]
          have w1 : IntKind.i64.wrap (4 * (g.code.length : Int)) = 4 * (g.code.length : Int) := wself (by have := hBg.len; omega)
          have hlen := hFO.len
          have hokf := hFO.ok
          simp only [cutsV] at hS hnS
          have q1 : ((1 : Nat) : Int) = 1 := rfl
          have q2 : ((2 : Nat) : Int) = 2 := rfl
          simp only [ofV, funsV, List.map_cons, List.map_nil, fC]
          simp -implicitDefEqProofs (disch := omega) only [go_sem, ↓reduceIte, reduceCtorEq, Nat.reduceAdd, Nat.reduceEqDiff, Nat.reduceLT, Nat.zero_add, Bool.not_false, Nat.le_refl, Nat.zero_le, inC, insV, fnC, cutsV, flt, V.cells, true_implies, and_true, Bool.not_false, List.cons_append, List.nil_append, List.length_cons, List.length_nil]
          iterate 9 (try (refine run_sem 8 ?_; simp -implicitDefEqProofs (disch := omega) only [go_sem, ↓reduceIte, reduceCtorEq, Nat.reduceAdd, Nat.reduceEqDiff, Nat.reduceLeDiff, Nat.reduceLT, Int.reduceToNat, Int.reduceLE, Nat.zero_add, Nat.le_refl, bne_self_eq_false, V.cells, List.length_map, true_implies, and_true, List.length_cons, List.length_nil, q1, q2]))
          refine callPS hT t_proofmarkkit_SameInts hS hnS 8 ?_
          simp -implicitDefEqProofs (disch := omega) only [go_sem, ↓reduceIte, reduceCtorEq, Nat.reduceAdd, Nat.reduceEqDiff, Nat.reduceLeDiff, Nat.reduceLT, Int.reduceToNat, Int.reduceLE, Nat.zero_add, Bool.not_true, V.cells, true_implies, and_true, Bool.not_true]
          iterate 9 (try (refine run_sem 8 ?_; simp -implicitDefEqProofs (disch := omega) only [go_sem, ↓reduceIte, reduceCtorEq, Nat.reduceAdd, Nat.reduceEqDiff, Nat.reduceLeDiff, Int.reduceToNat, Int.reduceLE, Nat.zero_add, bne_self_eq_false, V.cells, List.length_map, true_implies, and_true, List.length_cons, List.length_nil, w1]))
          refine sem_for f.code (m1J f g nm (4 * (g.code.length : Int))) m1E ⟨_, _, rfl, rfl, rfl, rfl⟩ (fun i x hx fr σ hJ => m1_round hT hlen hokf hx hJ) (fun i hi fr σ hJ => ?_) (fun e fr σ hE => ?_)
          · obtain ⟨t3, o3, f8, f10, f12, rfl⟩ := hJ
            refine W_round [(8, .lst 5 [.agg (fC f)] false), (10, .lst 5 [.agg (fC g), .agg (fnC nm (4 * (g.code.length : Int)) f.code f.frame f.cuts)] false), (12, .int .i64 ((i : Nat) : Int))] ⟨f8, f10, f12, trivial⟩  20 ?_
            simp -implicitDefEqProofs (disch := omega) only [go_sem, ↓reduceIte, Nat.reduceAdd, Nat.reduceEqDiff, Nat.reduceLeDiff, Nat.reduceLT, Int.reduceToNat, Int.reduceLE, Nat.zero_add, decide_false, inC, insV, fC, fnC, cutsV, V.cells, List.length_map, true_implies, and_true, hi, Nat.lt_irrefl]
          · subst hE
            refine run_sem 12 ?_
            simp -implicitDefEqProofs (disch := omega) only [go_sem, ↓reduceIte]
            refine callPS hT t_proofmarklaw22_works hWk rfl 8 ?_
            simp -implicitDefEqProofs (disch := omega) only [go_sem, ↓reduceIte, Nat.reduceEqDiff, Nat.zero_le, and_true]
end Go.Proofs.YtaidbdgndljaeaaGreatDoor
