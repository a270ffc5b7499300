/- The document's Uses, of roots that stay. -/
import Derived.Test.YtfligilbnpcnaaaDoorV1
namespace Go.Proofs.YtfligilbnpcnaaaDoor
open Go Go.Am
set_option maxRecDepth 100000
set_option maxHeartbeats 1000000
variable {P : Program} {G : Nat → Option V}

theorem ru1L (hT : TabOk P tab) {w0 w1 ro n t id : Nat} {L : List Nd} {roots : List Int} {x : Option Ob} (hL : L.length ≤ 1000) (hok : okN L) (hrl : roots.length ≤ 1000) {Q : AE → Fr → H → Prop} {fr : Fr}
    (f0 : fget fr 0 = .ptr 0 w0 0) (f1 : fget fr 1 = .lst 1 (roots.map (V.int .i64)) false) (f5 : fget fr 5 = .sl 2 ro 0 1 n none) (f6 : fget fr 6 = .int .i64 id) (f7 : fget fr 7 = .bool false) (f8 : fget fr 8 = .int .i64 0)
    (hQ : ∀ fr' t', t ≤ t' → fget fr' 0 = .ptr 0 w0 0 → fget fr' 1 = .lst 1 (roots.map (V.int .i64)) false → fget fr' 5 = .sl 2 ro 0 1 n none → fget fr' 6 = .int .i64 id → fget fr' 7 = .bool (inR L roots id) → Q (.ex 2) fr' ⟨t', mH w0 w1 L ++ [x]⟩) :
    W P G 52 2 (.loop (AC.seq (AC.seq (AC.reg proofmarkref02_Graph_Uses_r6 [18, 19, 20])   (AC.cond (Arg.t 21)   AC.skip   (AC.exit 2)))   (AC.seq (AC.block 3 (AC.reg proofmarkref02_Graph_Uses_r7 [24, 25, 26, 27, 28, 29, 30, 31, 32, 33, 34, 35, 36, 37, 38, 39, 40, 41, 42, 43, 44, 45]))   (AC.reg proofmarkref02_Graph_Uses_r8 [22, 23])))) fr ⟨t, mH w0 w1 L ++ [x]⟩ Q := by
  refine sem_invE (s := []) (fun m fr σ' => ∃ (i t' : Nat), i ≤ roots.length ∧ m = roots.length - i ∧ t ≤ t' ∧ fget fr 0 = .ptr 0 w0 0 ∧ fget fr 1 = .lst 1 (roots.map (V.int .i64)) false ∧ fget fr 5 = .sl 2 ro 0 1 n none ∧ fget fr 6 = .int .i64 id ∧ fget fr 7 = .bool (inR L (roots.take i) id) ∧ fget fr 8 = .int .i64 i ∧ σ' = ⟨t', mH w0 w1 L ++ [x]⟩)
    (fun e fr σ' => e = .ex 2 ∧ fget fr 0 = .ptr 0 w0 0 ∧ fget fr 1 = .lst 1 (roots.map (V.int .i64)) false ∧ fget fr 5 = .sl 2 ro 0 1 n none ∧ fget fr 6 = .int .i64 id ∧ fget fr 7 = .bool (inR L roots id) ∧ ∃ t', t ≤ t' ∧ σ' = ⟨t', mH w0 w1 L ++ [x]⟩)
    (m0 := roots.length) ⟨0, t, Nat.zero_le _, rfl, Nat.le_refl _, f0, f1, f5, f6, f7, f8, rfl⟩ (fun m fr σ' hJ => ?_) (fun e fr σ' hE => ?_)
  · clear f0 f1 f5 f6 f7 f8
    obtain ⟨i, t', hi, rfl, ht', f0, f1, f5, f6, f7, f8, rfl⟩ := hJ
    have hl := ndC_length L
    rcases Nat.lt_or_ge i roots.length with hlt | hge
    · obtain ⟨r, hr⟩ : ∃ r, roots[i]? = some r := ⟨_, List.getElem?_eq_getElem hlt⟩
      have hg : (roots.map (V.int .i64))[i]? = some (V.int .i64 r) := by simp [hr]
      have hg2 : (roots.map (V.int .i64)).getD i .any = V.int .i64 r := by simp [List.getD_eq_getElem?_getD, hr]
      have hwi : IntKind.i64.wrap ((i : Int) + 1) = ((i + 1 : Nat) : Int) := by
        rw [wrap_i64 (by omega) (by omega)]; rfl
      have hstep : inR L (roots.take (i + 1)) id = (inR L (roots.take i) id || (decide (0 ≤ r ∧ r < L.length) && decide ((id : Int) ∈ usesL L [r]))) := by
        rw [take_snoc2 hr]; simp [inR, List.any_append]
      have hlr : (roots.map (V.int .i64)).length = roots.length := by simp
      rcases Bool.eq_false_or_eq_true (inR L (roots.take i) id) with hb | hb
      · rw [hb] at f7 hstep
        refine W_run 1000 ?_
        simp -implicitDefEqProofs (disch := omega) only [go_sem, ↓reduceIte, Nat.reduceEqDiff, decide_true, proofmarkref02_Graph_Uses_r6, proofmarkref02_Graph_Uses_r7, proofmarkref02_Graph_Uses_r8, f1, f7, f8, hlt, hwi, hlr]
        refine ⟨roots.length - (i + 1), _, _, by omega, Shift.refl _ _ _ _, i + 1, t', hlt, rfl, ht', ?_⟩
        simp -implicitDefEqProofs (disch := omega) only [go_sem, ↓reduceIte, reduceCtorEq, Nat.reduceEqDiff, Nat.succ_ne_zero, f0, f1, f5, f6, hstep, Bool.true_or]
      · rw [hb] at f7 hstep
        by_cases h : 0 ≤ r ∧ r < L.length
        · have hd : decide (0 ≤ r ∧ r < L.length) = true := by simp [h]
          rw [hd] at hstep
          have hcu := fun t => r_uses (P := P) (G := G) (w0 := w0) (w1 := w1) hT hL hok id (r.toNat + 1) r t h.1 h.2 (by omega)
          refine W_run 1000 ?_
          simp -implicitDefEqProofs (disch := omega) only [go_sem, need_of, ↓reduceIte, reduceCtorEq, Nat.reduceAdd, Nat.reduceEqDiff, Nat.succ_ne_zero, Nat.zero_add, Nat.add_zero, decide_true, Nat.le_refl, proofmarkref02_Graph_Uses_r6, proofmarkref02_Graph_Uses_r7, proofmarkref02_Graph_Uses_r8, f0, f1, f7, f8, hlt, hg2, hlr, mH_0]
          refine callPS hT t_proofmarkref02_has (c_has hT _ _) rfl 1000 ?_
          simp -implicitDefEqProofs (disch := omega) only [go_sem, need_of, ↓reduceIte, reduceCtorEq, Nat.reduceAdd, Nat.reduceEqDiff, Nat.succ_ne_zero, Nat.zero_add, Nat.le_refl, f0, f1, f6, f8, hlt, hg2, hlr, hd]
          refine callT hT t_proofmarkref02_Graph_uses (m_read (hcu _) rfl rfl) 1000 fun t2 ht2 => ?_
          simp -implicitDefEqProofs (disch := omega) only [go_sem, ↓reduceIte, Nat.reduceAdd, Nat.reduceEqDiff, f8, hwi]
          refine ⟨roots.length - (i + 1), _, _, by omega, Shift.refl _ _ _ _, i + 1, t2, hlt, rfl, by omega, ?_⟩
          simp -implicitDefEqProofs (disch := omega) only [go_sem, ↓reduceIte, reduceCtorEq, Nat.reduceEqDiff, Nat.succ_ne_zero, f0, f1, f5, f6, hstep, Bool.false_or, Bool.true_and]
        · have hd : decide (0 ≤ r ∧ r < L.length) = false := by simp [h]
          rw [hd] at hstep
          refine W_run 1000 ?_
          simp -implicitDefEqProofs (disch := omega) only [go_sem, need_of, ↓reduceIte, reduceCtorEq, Nat.reduceAdd, Nat.reduceEqDiff, Nat.succ_ne_zero, Nat.zero_add, Nat.add_zero, decide_true, Nat.le_refl, proofmarkref02_Graph_Uses_r6, proofmarkref02_Graph_Uses_r7, proofmarkref02_Graph_Uses_r8, f0, f1, f7, f8, hlt, hg2, hlr, mH_0]
          refine callPS hT t_proofmarkref02_has (c_has hT _ _) rfl 1000 ?_
          simp -implicitDefEqProofs (disch := omega) only [go_sem, ↓reduceIte, Nat.reduceAdd, Nat.reduceEqDiff, f8, hwi, hd]
          refine ⟨roots.length - (i + 1), _, _, by omega, Shift.refl _ _ _ _, i + 1, t', hlt, rfl, by omega, ?_⟩
          simp -implicitDefEqProofs (disch := omega) only [go_sem, ↓reduceIte, reduceCtorEq, Nat.reduceEqDiff, Nat.succ_ne_zero, f0, f1, f5, f6, hstep, Bool.false_or, Bool.false_and]
    · refine W_run 1000 ?_
      rw [List.take_of_length_le (by omega)] at f7
      simp -implicitDefEqProofs (disch := omega) only [go_sem, ↓reduceIte, reduceCtorEq, Nat.reduceEqDiff, Nat.succ_ne_zero, decide_false, proofmarkref02_Graph_Uses_r6, proofmarkref02_Graph_Uses_r7, proofmarkref02_Graph_Uses_r8, f0, f1, f5, f6, f7, f8, show ¬ i < roots.length from by omega, List.length_map]
      exact ⟨t', ht', rfl⟩
  · obtain ⟨rfl, f0, f1, f5, f6, f7, t', ht', rfl⟩ := hE
    exact hQ fr t' ht' f0 f1 f5 f6 f7

theorem r_UsesL (hT : TabOk P tab) {w0 w1 t : Nat} {L : List Nd} {roots : List Int} (hL : L.length ≤ 1000) (hok : okN L) (hrl : roots.length ≤ 1000) :
   C P G 2 n_proofmarkref02_Graph_Uses [.ptr 0 w0 0, .lst 1 (roots.map (V.int .i64)) false] ⟨t, mH w0 w1 L⟩ fun v σ => v = .lst 1 ((usesL L roots).map (V.int .i64)) false ∧ ∃ t', t ≤ t' ∧ σ = ⟨t', mH w0 w1 L⟩ := by
  refine C_keep 2 (Nat.le_refl _) (C_freeze (Q := fun v σ => ∃ (r n t' : Nat), n = (usesR L roots L.length).length ∧ t ≤ t' ∧ v = .sl 2 r 0 1 n none ∧ σ = ⟨t', mH w0 w1 L ++ [some (.arr r 3 ((usesR L roots L.length).map (V.int .i64)))]⟩) ?_ fun v σ hv => ?_)
  · refine C_tab hT t_proofmarkref02_Graph_Uses (by simp [proofmarkref02_Graph_Uses]) (W_run 1000 ?_)
    simp -implicitDefEqProofs (disch := omega) only [go_sem, ↓reduceIte, reduceCtorEq, Nat.reduceEqDiff, Nat.zero_add, proofmarkref02_Graph_Uses, proofmarkref02_Graph_Uses_r0, proofmarkref02_Graph_Uses_r1, proofmarkref02_Graph_Uses_r2, proofmarkref02_Graph_Uses_r3, proofmarkref02_Graph_Uses_r4, proofmarkref02_Graph_Uses_r5, proofmarkref02_Graph_Uses_r6, proofmarkref02_Graph_Uses_r7, proofmarkref02_Graph_Uses_r8, proofmarkref02_Graph_Uses_r9, proofmarkref02_Graph_Uses_r10, proofmarkref02_Graph_Uses_r11, proofmarkref02_Graph_Uses_r12]
    refine sem_shift (Shift.own (s := 5) (sz := 1) (T := 3) (z := 0) (by simp -implicitDefEqProofs (disch := omega) only [go_sem, ↓reduceIte, reduceCtorEq, Nat.reduceEqDiff]) (by decide)) (run_sem 1000 ?_)
    simp -implicitDefEqProofs (disch := omega) only [go_sem, ↓reduceIte, reduceCtorEq, Nat.reduceEqDiff]
    refine sem_invE (fun m fr σ => ∃ (i t' ro : Nat), i ≤ L.length ∧ m = L.length - i ∧ t ≤ t' ∧ fget fr 0 = .ptr 0 w0 0 ∧ fget fr 1 = .lst 1 (roots.map (V.int .i64)) false ∧ fget fr 5 = .sl 2 ro 0 1 (usesR L roots i).length none ∧ fget fr 6 = .int .i64 i ∧
         σ = ⟨t', mH w0 w1 L ++ [some (.arr ro 3 ((usesR L roots i).map (V.int .i64)))]⟩)
      (fun e fr σ => e = .ex 0 ∧ ∃ (t' ro : Nat), t ≤ t' ∧ fget fr 5 = .sl 2 ro 0 1 (usesR L roots L.length).length none ∧ σ = ⟨t', mH w0 w1 L ++ [some (.arr ro 3 ((usesR L roots L.length).map (V.int .i64)))]⟩)
      (m0 := L.length) ⟨0, t + 1, t, Nat.zero_le _, rfl, by omega, ?_⟩ (fun m fr σ hJ => ?_) (fun e fr σ hE => ?_)
    · simp -implicitDefEqProofs (disch := omega) only [go_sem, ↓reduceIte, reduceCtorEq, Nat.reduceEqDiff, usesR, List.range_zero, List.filter_nil, List.map_nil, List.length_nil]
      all_goals (first | rfl | exact ⟨rfl, rfl⟩)
    · obtain ⟨i, t', ro, hi, rfl, ht', f0, f1, f5, f6, rfl⟩ := hJ
      have hl := ndC_length L
      rcases Nat.lt_or_ge i L.length with hlt | hge
      · have hwi : IntKind.i64.wrap ((i : Int) + 1) = ((i + 1 : Nat) : Int) := by
          rw [wrap_i64 (by omega) (by omega)]; rfl
        have hul := usesR_len L roots i
        have hs := usesR_succ L roots i
        refine W_run 1000 ?_
        simp -implicitDefEqProofs (disch := omega) only [go_sem, ↓reduceIte, Nat.reduceEqDiff, Nat.succ_ne_zero, Nat.zero_add, Nat.add_zero, decide_true, Nat.le_refl, f0, f6, hlt, mH_0]
        refine ru1L hT (id := i) (ro := ro) (n := (usesR L roots i).length) (w0 := w0) hL hok hrl (by simp -implicitDefEqProofs (disch := omega) only [go_sem, ↓reduceIte, reduceCtorEq, Nat.succ_ne_zero, f0]) (by simp -implicitDefEqProofs (disch := omega) only [go_sem, ↓reduceIte, Nat.reduceEqDiff, f1]) (by simp -implicitDefEqProofs (disch := omega) only [go_sem, ↓reduceIte, Nat.reduceEqDiff, f5]) (by simp -implicitDefEqProofs (disch := omega) only [go_sem, ↓reduceIte, Nat.reduceEqDiff, f6]) (by simp -implicitDefEqProofs (disch := omega) only [go_sem, ↓reduceIte, Nat.reduceEqDiff]) (by simp -implicitDefEqProofs (disch := omega) only [go_sem, ↓reduceIte]) (fun fr' t2 ht2 g0 g1 g5 g6 g7 => ?_)
        refine run_sem 1000 ?_
        cases hb : inR L roots i with
        | true =>
          rw [hb] at g7 hs
          simp -implicitDefEqProofs (disch := omega) only [go_sem, need_of, ↓reduceIte, reduceCtorEq, Nat.reduceEqDiff, Nat.reduceLeDiff, Nat.zero_add, Nat.mul_one, Bool.not_true, Nat.le_refl, g5, g6, g7, hwi, mH_2, mHs_2, List.length_map, List.length_cons, List.length_nil]
          refine ⟨L.length - (i + 1), _, _, by omega, Shift.refl _ _ _ _, i + 1, t2 + 1, t2, hlt, rfl, by omega, ?_⟩
          simp -implicitDefEqProofs (disch := omega) only [go_sem, ↓reduceIte, reduceCtorEq, Nat.reduceEqDiff, Nat.succ_ne_zero, Nat.zero_add, g0, g1, hs, List.map_append, List.length_append, List.length_cons, List.length_nil]
        | false =>
          rw [hb] at g7 hs
          simp -implicitDefEqProofs (disch := omega) only [go_sem, ↓reduceIte, Nat.reduceEqDiff, g6, g7, hwi]
          refine ⟨L.length - (i + 1), _, _, by omega, Shift.refl _ _ _ _, i + 1, t2, ro, hlt, rfl, by omega, ?_⟩
          simp -implicitDefEqProofs (disch := omega) only [go_sem, ↓reduceIte, reduceCtorEq, Nat.reduceEqDiff, Nat.succ_ne_zero, g0, g1, g5, hs, List.append_nil]
      · have hil : i = L.length := by omega
        subst hil
        refine W_run 1000 ?_
        simp -implicitDefEqProofs (disch := omega) only [go_sem, ↓reduceIte, Nat.reduceEqDiff, Nat.succ_ne_zero, Nat.zero_add, Nat.add_zero, decide_false, Nat.le_refl, f0, f5, f6, mH_0, show ¬ L.length < L.length from by omega]
        exact ⟨t', ro, ht', rfl, rfl, rfl⟩
    · obtain ⟨rfl, t', ro, ht', f5, rfl⟩ := hE
      refine run_sem 1000 ?_
      simp -implicitDefEqProofs (disch := omega) only [go_sem, ↓reduceIte, Nat.reduceEqDiff, f5]
      exact ⟨ro, _, t', rfl, ht', rfl, rfl, rfl⟩
  · obtain ⟨r, n, t', rfl, ht', rfl, rfl⟩ := hv
    refine ⟨2, r, 3, (usesR L roots L.length).map (V.int .i64), by omega, rfl, ints_nameless _, ?_⟩
    rw [← usesR_eq hok.wf]
    refine ⟨by simp [mapFrom_length, mH], ?_, t', ht', ?_⟩
    · simp only [frzV, rowsV]
      simp [List.take_of_length_le]
    · simp [mH, mapFrom, mS]

end Go.Proofs.YtfligilbnpcnaaaDoor
