/- The document's Uses, and the graph as the document has it. -/
import Derived.Test.YtfligilbnpcnaaaDoorTerm19
namespace Go.Proofs.YtfligilbnpcnaaaDoor
open Go Go.Am
set_option maxRecDepth 100000
set_option maxHeartbeats 1000000
variable {P : Program} {G : Nat → Option V}

theorem r_Uses (hT : TabOk P tab) {w0 w1 wr t : Nat} {L : List Nd} {roots : List Int} (hL : L.length ≤ 1000) (hok : okN L) (hrl : roots.length ≤ 1000) :
   C P G 3 n_proofmarkref02_Graph_Uses [.ptr 0 w0 0, .sl 2 wr 0 1 roots.length none] ⟨t, mH w0 w1 L ++ [some (.arr wr 3 (roots.map (V.int .i64)))]⟩ fun v σ => v = .lst 1 ((usesL L roots).map (V.int .i64)) false ∧ ∃ t', t ≤ t' ∧ σ = ⟨t', mH w0 w1 L ++ [some (.arr wr 3 (roots.map (V.int .i64)))]⟩ := by
  refine C_keep 3 (Nat.le_refl _) (C_freeze (Q := fun v σ => ∃ (r n t' : Nat), n = (usesR L roots L.length).length ∧ t ≤ t' ∧ v = .sl 3 r 0 1 n none ∧ σ = ⟨t', mH w0 w1 L ++ [some (.arr wr 3 (roots.map (V.int .i64))), some (.arr r 3 ((usesR L roots L.length).map (V.int .i64)))]⟩) ?_ fun v σ hv => ?_)
  · refine C_tab hT t_proofmarkref02_Graph_Uses (by simp [proofmarkref02_Graph_Uses]) (W_run 1000 ?_)
    simp -implicitDefEqProofs (disch := omega) only [go_sem, ↓reduceIte, reduceCtorEq, Nat.reduceEqDiff, Nat.zero_add, proofmarkref02_Graph_Uses, proofmarkref02_Graph_Uses_r0, proofmarkref02_Graph_Uses_r1, proofmarkref02_Graph_Uses_r2, proofmarkref02_Graph_Uses_r3, proofmarkref02_Graph_Uses_r4, proofmarkref02_Graph_Uses_r5, proofmarkref02_Graph_Uses_r6, proofmarkref02_Graph_Uses_r7, proofmarkref02_Graph_Uses_r8, proofmarkref02_Graph_Uses_r9, proofmarkref02_Graph_Uses_r10, proofmarkref02_Graph_Uses_r11, proofmarkref02_Graph_Uses_r12]
    refine sem_shift (Shift.own (s := 5) (sz := 1) (T := 3) (z := 0) (by simp -implicitDefEqProofs (disch := omega) only [go_sem, ↓reduceIte, reduceCtorEq, Nat.reduceEqDiff]) (by decide)) (run_sem 1000 ?_)
    simp -implicitDefEqProofs (disch := omega) only [go_sem, ↓reduceIte, reduceCtorEq, Nat.reduceAdd, Nat.reduceEqDiff, Nat.zero_add, mH_len, mH_app, List.length_nil, List.nil_append, List.length_cons, List.cons_append]
    refine sem_invE (fun m fr σ => ∃ (i t' ro : Nat), i ≤ L.length ∧ m = L.length - i ∧ t ≤ t' ∧ fget fr 0 = .ptr 0 w0 0 ∧ fget fr 1 = .sl 2 wr 0 1 roots.length none ∧ fget fr 5 = .sl 3 ro 0 1 (usesR L roots i).length none ∧ fget fr 6 = .int .i64 i ∧
         σ = ⟨t', mH w0 w1 L ++ [some (.arr wr 3 (roots.map (V.int .i64))), some (.arr ro 3 ((usesR L roots i).map (V.int .i64)))]⟩)
      (fun e fr σ => e = .ex 0 ∧ ∃ (t' ro : Nat), t ≤ t' ∧ fget fr 5 = .sl 3 ro 0 1 (usesR L roots L.length).length none ∧ σ = ⟨t', mH w0 w1 L ++ [some (.arr wr 3 (roots.map (V.int .i64))), some (.arr ro 3 ((usesR L roots L.length).map (V.int .i64)))]⟩)
      (m0 := L.length) ⟨0, t + 1, t, Nat.zero_le _, rfl, by omega, ?_⟩ (fun m fr σ hJ => ?_) (fun e fr σ hE => ?_)
    · simp -implicitDefEqProofs (disch := omega) only [go_sem, ↓reduceIte, reduceCtorEq, Nat.reduceEqDiff, usesR, List.range_zero, List.filter_nil, List.map_nil, List.length_nil]
      all_goals (first | rfl | exact ⟨rfl, rfl⟩)
    · obtain ⟨i, t', ro, hi, rfl, ht', f0, f1, f5, f6, rfl⟩ := hJ
      have hl := ndC_length L
      rcases Nat.lt_or_ge i L.length with hlt | hge
      · have hwi : IntKind.i64.wrap ((i : Int) + 1) = ((i + 1 : Nat) : Int) := by
          rw [wrap_i64 (by omega) (by omega)]; rfl
        have hul := usesR_len L roots i
        have hs := usesR_succ L roots i
        refine W_run 1000 ?_
        simp -implicitDefEqProofs (disch := omega) only [go_sem, ↓reduceIte, Nat.reduceEqDiff, Nat.succ_ne_zero, Nat.zero_add, Nat.add_zero, decide_true, Nat.le_refl, f0, f6, hlt, mH_0]
        refine ru1 hT (id := i) (ro := ro) (n := (usesR L roots i).length) (wr := wr) (w0 := w0) hL hok hrl (by simp -implicitDefEqProofs (disch := omega) only [go_sem, ↓reduceIte, reduceCtorEq, Nat.succ_ne_zero, f0]) (by simp -implicitDefEqProofs (disch := omega) only [go_sem, ↓reduceIte, Nat.reduceEqDiff, f1]) (by simp -implicitDefEqProofs (disch := omega) only [go_sem, ↓reduceIte, Nat.reduceEqDiff, f5]) (by simp -implicitDefEqProofs (disch := omega) only [go_sem, ↓reduceIte, Nat.reduceEqDiff, f6]) (by simp -implicitDefEqProofs (disch := omega) only [go_sem, ↓reduceIte, Nat.reduceEqDiff]) (by simp -implicitDefEqProofs (disch := omega) only [go_sem, ↓reduceIte]) (fun fr' t2 ht2 g0 g1 g5 g6 g7 => ?_)
        refine run_sem 1000 ?_
        cases hb : inR L roots i with
        | true =>
          rw [hb] at g7 hs
          simp -implicitDefEqProofs (disch := omega) only [go_sem, need_of, ↓reduceIte, reduceCtorEq, Nat.reduceEqDiff, Nat.reduceLeDiff, Nat.zero_add, Nat.mul_one, Bool.not_true, Nat.le_refl, g5, g6, g7, hwi, mH_3, mHs_3, List.length_map, List.length_cons, List.length_nil]
          refine ⟨L.length - (i + 1), _, _, by omega, Shift.refl _ _ _ _, i + 1, t2 + 1, t2, hlt, rfl, by omega, ?_⟩
          simp -implicitDefEqProofs (disch := omega) only [go_sem, ↓reduceIte, reduceCtorEq, Nat.reduceEqDiff, Nat.succ_ne_zero, Nat.zero_add, g0, g1, hs, List.map_append, List.length_append, List.length_cons, List.length_nil]
        | false =>
          rw [hb] at g7 hs
          simp -implicitDefEqProofs (disch := omega) only [go_sem, ↓reduceIte, Nat.reduceEqDiff, g6, g7, hwi]
          refine ⟨L.length - (i + 1), _, _, by omega, Shift.refl _ _ _ _, i + 1, t2, ro, hlt, rfl, by omega, ?_⟩
          simp -implicitDefEqProofs (disch := omega) only [go_sem, ↓reduceIte, reduceCtorEq, Nat.reduceEqDiff, Nat.succ_ne_zero, g0, g1, g5, hs, List.append_nil]
      · have hil : i = L.length := by omega
        subst hil
        refine W_run 1000 ?_
        simp -implicitDefEqProofs (disch := omega) only [go_sem, ↓reduceIte, Nat.reduceEqDiff, Nat.succ_ne_zero, Nat.zero_add, Nat.add_zero, decide_false, Nat.le_refl, f0, f5, f6, mH_0, show ¬ L.length < L.length from by omega]
        exact ⟨t', ro, ht', rfl, rfl, rfl⟩
    · obtain ⟨rfl, t', ro, ht', f5, rfl⟩ := hE
      refine run_sem 1000 ?_
      simp -implicitDefEqProofs (disch := omega) only [go_sem, ↓reduceIte, Nat.reduceEqDiff, f5]
      exact ⟨ro, _, t', rfl, ht', rfl, rfl, rfl⟩
  · obtain ⟨r, n, t', rfl, ht', rfl, rfl⟩ := hv
    refine ⟨3, r, 3, (usesR L roots L.length).map (V.int .i64), by omega, rfl, ints_nameless _, ?_⟩
    rw [← usesR_eq hok.wf]
    refine ⟨by simp [mapFrom_length, mH], ?_, t', ht', ?_⟩
    · simp only [frzV, rowsV]
      simp [List.take_of_length_le]
    · simp [mH, mapFrom, mS]

theorem ndC_snoc (L : List Nd) (d : Nd) : ndC (L ++ [d]) = ndC L ++ d.cells := by simp [ndC]
theorem k_NodeAt (hT : TabOk P tab) {base : Nat} {fmt : Int → List UInt8} {v0 v1 v2 v3 v4 t : Nat} {L : List Nd} {ex : List (Option Ob)} {i : Nat} {d : Nd} (hd : L[i]? = some d) :
   C P G base n_term_Graph_Node [.ptr 1 v0 0, .int .i64 i] ⟨t, kG fmt v0 v1 v2 v3 v4 L ++ ex⟩ fun v σ => v = .tup [.agg d.cells, .bool true] ∧ ∃ t', t ≤ t' ∧ σ = ⟨t', kG fmt v0 v1 v2 v3 v4 L ++ ex⟩ := by
  have := k_Node (G := G) hT (base := base) (fmt := fmt) (v0 := v0) (v1 := v1) (v2 := v2) (v3 := v3) (v4 := v4) (t := t) (L := L) (ex := ex) (id := (i : Int))
  have hi := (List.getElem?_eq_some_iff.1 hd).1
  rw [if_pos ⟨by omega, by omega⟩, show L.getD (i : Int).toNat zeroNd = d from by simp [List.getD_eq_getElem?_getD, hd]] at this
  exact this
theorem kG_len0 {fmt : Int → List UInt8} {v0 v1 v2 v3 v4 : Nat} {L : List Nd} : (kG fmt v0 v1 v2 v3 v4 L).length = 5 := rfl
theorem c_PlainG (hT : TabOk P tab) {fmt : Int → List UInt8} {v0 v1 v2 v3 v4 t : Nat} {L : List Nd} (hL : L.length ≤ 1000) :
   C P G 0 n_proofmarkkit_Plain [.ptr 1 v0 0] ⟨t, kG fmt v0 v1 v2 v3 v4 L⟩ fun v σ => ∃ w0 w1 t', t ≤ t' ∧ v = .ptr 5 w0 0 ∧ σ = ⟨t', kG fmt v0 v1 v2 v3 v4 L ++ [some (.arr w0 65 [.sl 6 w1 0 6 L.length none]), some (.arr w1 62 (ndC L))]⟩ := by
  refine C_tab hT t_proofmarkkit_Plain (by simp [proofmarkkit_Plain]) (W_run 1000 ?_)
  simp -implicitDefEqProofs (disch := omega) only [go_sem, ↓reduceIte, reduceCtorEq, Nat.reduceEqDiff, proofmarkkit_Plain, proofmarkkit_Plain_r0, proofmarkkit_Plain_r1, proofmarkkit_Plain_r2, proofmarkkit_Plain_r3, proofmarkkit_Plain_r4, proofmarkkit_Plain_r5, proofmarkkit_Plain_r6, proofmarkkit_Plain_r7, kG_len0]
  refine sem_shift (HShift.shift (HShift.ownAt 6 62 (k := 5) (p := 0) (by omega) rfl rfl)) (run_sem 1000 ?_)
  simp -implicitDefEqProofs (disch := omega) only [go_sem, Nat.reduceAdd, Nat.zero_add, kG_len, kG_app, kGs_5, List.length_nil, List.nil_append, List.length_cons, List.cons_append, List.set_cons_zero]
  refine sem_invE (fun m fr σ => ∃ (i t' w1 : Nat), i ≤ L.length ∧ m = L.length - i ∧ t ≤ t' ∧ fget fr 0 = .ptr 1 v0 0 ∧ fget fr 3 = .ptr 5 t 0 ∧ fget fr 4 = .int .i64 i ∧
       σ = ⟨t', kG fmt v0 v1 v2 v3 v4 L ++ [some (.arr t 65 [.sl 6 w1 0 6 i none]), some (.arr w1 62 (ndC (L.take i)))]⟩)
    (fun e fr σ => e = .ex 0 ∧ fget fr 3 = .ptr 5 t 0 ∧ ∃ (t' w1 : Nat), t ≤ t' ∧ σ = ⟨t', kG fmt v0 v1 v2 v3 v4 L ++ [some (.arr t 65 [.sl 6 w1 0 6 L.length none]), some (.arr w1 62 (ndC L))]⟩)
    (m0 := L.length) ⟨0, t + 1 + 1, t + 1, Nat.zero_le _, rfl, by omega, ?_⟩ (fun m fr σ hJ => ?_) (fun e fr σ hE => ?_)
  · simp -implicitDefEqProofs (disch := omega) only [go_sem, ↓reduceIte, reduceCtorEq, Nat.reduceEqDiff]
    all_goals (first | rfl | exact ⟨rfl, rfl⟩)
  · obtain ⟨i, t', w1, hi, rfl, ht', f0, f3, f4, rfl⟩ := hJ
    rcases Nat.lt_or_ge i L.length with hlt | hge
    · obtain ⟨d, hd⟩ : ∃ d, L[i]? = some d := ⟨_, List.getElem?_eq_getElem hlt⟩
      have hnl := ndC_length (L.take i)
      rw [List.length_take, Nat.min_eq_left (by omega)] at hnl
      have hwi : IntKind.i64.wrap ((i : Int) + 1) = ((i + 1 : Nat) : Int) := by
        rw [wrap_i64 (by omega) (by omega)]; rfl
      have hns : ndC (L.take i) ++ d.cells = ndC (L.take (i + 1)) := by rw [take_snoc2 hd, ndC_snoc]
      have hpl := fun t => c_Plain (P := P) (G := G) hT d t
      have hpl2 : Pure P G n_proofmarkkit_PlainNode [.agg [.int .u8 d.kind, .int .i64 d.n, .int .i64 d.a, .int .u8 d.op, .int .i64 d.x, .int .i64 d.y]] fun v => v = .agg d.cells := hpl
      refine W_run 1000 ?_
      simp -implicitDefEqProofs (disch := omega) only [go_sem, ↓reduceIte, Nat.succ_ne_zero, f0, f4]
      refine callT hT t_term_Graph_Size (k_Size hT) 1000 fun t1 ht1 => ?_
      simp -implicitDefEqProofs (disch := omega) only [go_sem, ↓reduceIte, reduceCtorEq, Nat.reduceEqDiff, Nat.succ_ne_zero, decide_true, f0, f4, hlt]
      refine callT hT t_term_Graph_Node (k_NodeAt hT hd) 1000 fun t2 ht2 => ?_
      simp -implicitDefEqProofs (disch := omega) only [go_sem, ↓reduceIte, reduceCtorEq, Nat.reduceAdd, Nat.reduceEqDiff, Nat.reduceLT, Nat.zero_add, Nat.add_zero, Bool.not_false, Nat.le_refl, Nat.zero_le, f3, Nd.cells, kG_len, kG_app, kG_5, kG_7, kGs_7, List.length_cons, List.length_nil, List.cons_append, List.nil_append]
      refine callPS hT t_proofmarkkit_PlainNode hpl2 rfl 1000 ?_
      simp -implicitDefEqProofs (disch := omega) only [go_sem, need_of, ↓reduceIte, reduceCtorEq, Nat.reduceAdd, Nat.reduceEqDiff, Nat.reduceLeDiff, Nat.zero_add, Nat.add_zero, Bool.not_true, Bool.not_false, Nat.le_refl, Nat.zero_le, f4, Nd.cells, kG_5, kG_6, kGs_5, kGs_6, List.length_cons, List.length_nil, List.cons_append, List.nil_append, hnl]
      refine ⟨L.length - (i + 1), _, _, by omega, Shift.drop (o' := kG fmt v0 v1 v2 v3 v4 L ++ [some (.arr t 65 [.sl 6 (t2 + 1) 0 6 (i + 1) none]), some (.arr (t2 + 1) 62 (ndC (L.take (i + 1))))]) (t' := t2 + 1 + 1) (by rw [← hns]; simp [subObs, kG, Nd.cells]) (Nat.le_refl _) (Nat.zero_le _), i + 1, t2 + 1 + 1, t2 + 1, hlt, rfl, by omega, ?_⟩
      simp -implicitDefEqProofs (disch := omega) only [go_sem, ↓reduceIte, reduceCtorEq, Nat.reduceEqDiff, Nat.succ_ne_zero, f0, f3, hwi]
    · have hil : i = L.length := by omega
      subst hil
      refine W_run 1000 ?_
      simp -implicitDefEqProofs (disch := omega) only [go_sem, ↓reduceIte, Nat.succ_ne_zero, f0, f4]
      refine callT hT t_term_Graph_Size (k_Size hT) 1000 fun t1 ht1 => ?_
      simp -implicitDefEqProofs (disch := omega) only [go_sem, ↓reduceIte, Nat.reduceEqDiff, decide_false, f3, show ¬ L.length < L.length from by omega, List.take_length]
      exact ⟨t1, w1, by omega, rfl, rfl⟩
  · obtain ⟨rfl, f3, t', w1, ht', rfl⟩ := hE
    refine run_sem 1000 ?_
    simp -implicitDefEqProofs (disch := omega) only [go_sem, ↓reduceIte, Nat.reduceEqDiff, f3]
    exact ⟨t, w1, t', ht', rfl, rfl, rfl⟩
end Go.Proofs.YtfligilbnpcnaaaDoor
