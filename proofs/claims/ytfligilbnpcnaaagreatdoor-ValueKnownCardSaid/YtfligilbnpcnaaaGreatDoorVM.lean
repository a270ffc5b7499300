/- The document's Uses, of roots that stay. -/
import Derived.Test.YtfligilbnpcnaaaGreatDoorV1
/- The document's Uses, of roots that stay. -/
namespace Go.Proofs.YtfligilbnpcnaaaGreatDoor
open Go Go.Am
set_option maxRecDepth 100000
set_option maxHeartbeats 1000000
variable {P : Program} {G : Nat → Option V}

theorem ru1L (hT : TabOk P tab) {w0 w1 ro n t id : Nat} {L : List Nd} {roots : List Int} {x : Option Ob} (hL : L.length ≤ 1000) (hok : okN L) (hrl : roots.length ≤ 1000) {Q : AE → Fr → H → Prop} {fr : Fr}
    (f0 : fget fr 0 = .ptr 0 w0 0) (f1 : fget fr 1 = .lst 1 (roots.map (V.int .i64)) false) (f5 : fget fr 5 = .sl 2 ro 0 1 n none) (f6 : fget fr 6 = .int .i64 id) (f7 : fget fr 7 = .bool false) (f8 : fget fr 8 = .int .i64 0)
    (hQ : ∀ fr' t', t ≤ t' → fget fr' 0 = .ptr 0 w0 0 → fget fr' 1 = .lst 1 (roots.map (V.int .i64)) false → fget fr' 5 = .sl 2 ro 0 1 n none → fget fr' 6 = .int .i64 id → fget fr' 7 = .bool (inR L roots id) → Q (.ex 2) fr' ⟨t', mH w0 w1 L ++ [x]⟩) :
    W P G 52 2 (.loop (AC.seq (AC.seq (AC.reg zq1a_6 [18, 19, 20])   (AC.cond (Arg.t 21)   AC.skip   (AC.exit 2)))   (AC.seq (AC.block 3 (AC.reg zq1a_7 [24, 25, 26, 27, 28, 29, 30, 31, 32, 33, 34, 35, 36, 37, 38, 39, 40, 41, 42, 43, 44, 45]))   (AC.reg zq1a_8 [22, 23])))) fr ⟨t, mH w0 w1 L ++ [x]⟩ Q := by
  refine sem_invE (s := []) (fun m fr σ' => ∃ (i t' : Nat), i ≤ roots.length ∧ m = roots.length - i ∧ t ≤ t' ∧ fget fr 0 = .ptr 0 w0 0 ∧ fget fr 1 = .lst 1 (roots.map (V.int .i64)) false ∧ fget fr 5 = .sl 2 ro 0 1 n none ∧ fget fr 6 = .int .i64 id ∧ fget fr 7 = .bool (inR L (roots.take i) id) ∧ fget fr 8 = .int .i64 i ∧ σ' = ⟨t', mH w0 w1 L ++ [x]⟩)
    (fun e fr σ' => e = .ex 2 ∧ fget fr 0 = .ptr 0 w0 0 ∧ fget fr 1 = .lst 1 (roots.map (V.int .i64)) false ∧ fget fr 5 = .sl 2 ro 0 1 n none ∧ fget fr 6 = .int .i64 id ∧ fget fr 7 = .bool (inR L roots id) ∧ ∃ t', t ≤ t' ∧ σ' = ⟨t', mH w0 w1 L ++ [x]⟩)
    (m0 := roots.length) ⟨0, t, Nat.zero_le _, rfl, Nat.le_refl _, f0, f1, f5, f6, f7, f8, rfl⟩ (fun m fr σ' hJ => ?_) (fun e fr σ' hE => ?_)
  · clear f0 f1 f5 f6 f7 f8
    obtain ⟨i, t', hi, rfl, ht', f0, f1, f5, f6, f7, f8, rfl⟩ := hJ
    have hl := ndC_length L
    rcases Nat.lt_or_ge i roots.length with hlt | hge
    · obtain ⟨r, hr⟩ : ∃ r, roots[i]? = some r := ⟨_, List.getElem?_eq_getElem hlt⟩
      have hg : (roots.map (V.int .i64))[i]? = some (V.int .i64 r) := by simp [hr]
      have hg2 : (roots.map (V.int .i64)).getD i .any = V.int .i64 r := by simp [List.getD_eq_getElem?_getD, hr]
      have hwi : IntKind.i64.wrap ((i : Int) + 1) = ((i + 1 : Nat) : Int) := by
        rw [wrap_i64 (by omega) (by omega)]; rfl
      have hstep : inR L (roots.take (i + 1)) id = (inR L (roots.take i) id || (decide (0 ≤ r ∧ r < L.length) && decide ((id : Int) ∈ usesL L [r]))) := by
        rw [take_snoc2 hr]; simp [inR, List.any_append]
      have hlr : (roots.map (V.int .i64)).length = roots.length := by simp
      rcases Bool.eq_false_or_eq_true (inR L (roots.take i) id) with hb | hb
      · rw [hb] at f7 hstep
        refine W_run 1000 ?_
        simp -implicitDefEqProofs (disch := omega) only [go_sem, ↓reduceIte, Nat.reduceEqDiff, decide_true, zq1a_6, zq1a_7, zq1a_8, f1, f7, f8, hlt, hwi, hlr]
        refine ⟨roots.length - (i + 1), _, _, by omega, Shift.refl _ _ _ _, i + 1, t', hlt, rfl, ht', ?_⟩
        simp -implicitDefEqProofs (disch := omega) only [go_sem, ↓reduceIte, reduceCtorEq, Nat.reduceEqDiff, Nat.succ_ne_zero, f0, f1, f5, f6, hstep, Bool.true_or]
      · rw [hb] at f7 hstep
        by_cases h : 0 ≤ r ∧ r < L.length
        · have hd : decide (0 ≤ r ∧ r < L.length) = true := by simp [h]
          rw [hd] at hstep
          have hcu := fun t => r_uses (P := P) (G := G) (w0 := w0) (w1 := w1) hT hL hok id (r.toNat + 1) r t h.1 h.2 (by omega)
          refine W_run 1000 ?_
          simp -implicitDefEqProofs (disch := omega) only [go_sem, need_of, ↓reduceIte, reduceCtorEq, Nat.reduceAdd, Nat.reduceEqDiff, Nat.succ_ne_zero, Nat.zero_add, Nat.add_zero, decide_true, Nat.le_refl, zq1a_6, zq1a_7, zq1a_8, f0, f1, f7, f8, hlt, hg2, hlr, mH_0]
          refine callPS hT t_proofmarkref02_has (c_has hT _ _) rfl 1000 ?_
          simp -implicitDefEqProofs (disch := omega) only [go_sem, need_of, ↓reduceIte, reduceCtorEq, Nat.reduceAdd, Nat.reduceEqDiff, Nat.succ_ne_zero, Nat.zero_add, Nat.le_refl, f0, f1, f6, f8, hlt, hg2, hlr, hd]
          refine callT hT t_proofmarkref02_Graph_uses (m_read (hcu _) rfl rfl) 1000 fun t2 ht2 => ?_
          simp -implicitDefEqProofs (disch := omega) only [go_sem, ↓reduceIte, Nat.reduceAdd, Nat.reduceEqDiff, f8, hwi]
          refine ⟨roots.length - (i + 1), _, _, by omega, Shift.refl _ _ _ _, i + 1, t2, hlt, rfl, by omega, ?_⟩
          simp -implicitDefEqProofs (disch := omega) only [go_sem, ↓reduceIte, reduceCtorEq, Nat.reduceEqDiff, Nat.succ_ne_zero, f0, f1, f5, f6, hstep, Bool.false_or, Bool.true_and]
        · have hd : decide (0 ≤ r ∧ r < L.length) = false := by simp [h]
          rw [hd] at hstep
          refine W_run 1000 ?_
          simp -implicitDefEqProofs (disch := omega) only [go_sem, need_of, ↓reduceIte, reduceCtorEq, Nat.reduceAdd, Nat.reduceEqDiff, Nat.succ_ne_zero, Nat.zero_add, Nat.add_zero, decide_true, Nat.le_refl, zq1a_6, zq1a_7, zq1a_8, f0, f1, f7, f8, hlt, hg2, hlr, mH_0]
          refine callPS hT t_proofmarkref02_has (c_has hT _ _) rfl 1000 ?_
          simp -implicitDefEqProofs (disch := omega) only [go_sem, ↓reduceIte, Nat.reduceAdd, Nat.reduceEqDiff, f8, hwi, hd]
          refine ⟨roots.length - (i + 1), _, _, by omega, Shift.refl _ _ _ _, i + 1, t', hlt, rfl, by omega, ?_⟩
          simp -implicitDefEqProofs (disch := omega) only [go_sem, ↓reduceIte, reduceCtorEq, Nat.reduceEqDiff, Nat.succ_ne_zero, f0, f1, f5, f6, hstep, Bool.false_or, Bool.false_and]
    · refine W_run 1000 ?_
      rw [List.take_of_length_le (by omega)] at f7
      simp -implicitDefEqProofs (disch := omega) only [go_sem, ↓reduceIte, reduceCtorEq, Nat.reduceEqDiff, Nat.succ_ne_zero, decide_false, zq1a_6, zq1a_7, zq1a_8, f0, f1, f5, f6, f7, f8, show ¬ i < roots.length from by omega, List.length_map]
      exact ⟨t', ht', rfl⟩
  · obtain ⟨rfl, f0, f1, f5, f6, f7, t', ht', rfl⟩ := hE
    exact hQ fr t' ht' f0 f1 f5 f6 f7

theorem r_UsesL (hT : TabOk P tab) {w0 w1 t : Nat} {L : List Nd} {roots : List Int} (hL : L.length ≤ 1000) (hok : okN L) (hrl : roots.length ≤ 1000) :
   C P G 2 n_proofmarkref02_Graph_Uses [.ptr 0 w0 0, .lst 1 (roots.map (V.int .i64)) false] ⟨t, mH w0 w1 L⟩ fun v σ => v = .lst 1 ((usesL L roots).map (V.int .i64)) false ∧ ∃ t', t ≤ t' ∧ σ = ⟨t', mH w0 w1 L⟩ := by
  refine C_keep 2 (Nat.le_refl _) (C_freeze (Q := fun v σ => ∃ (r n t' : Nat), n = (usesR L roots L.length).length ∧ t ≤ t' ∧ v = .sl 2 r 0 1 n none ∧ σ = ⟨t', mH w0 w1 L ++ [some (.arr r 3 ((usesR L roots L.length).map (V.int .i64)))]⟩) ?_ fun v σ hv => ?_)
  · refine C_tab hT t_proofmarkref02_Graph_Uses (by simp [proofmarkref02_Graph_Uses]) (W_run 1000 ?_)
    simp -implicitDefEqProofs (disch := omega) only [go_sem, ↓reduceIte, reduceCtorEq, Nat.reduceEqDiff, Nat.zero_add, proofmarkref02_Graph_Uses, zq1a_0, zq1a_1, zq1a_2, zq1a_3, zq1a_4, zq1a_5, zq1a_6, zq1a_7, zq1a_8, zq1a_9, zq1a_10, zq1a_11, zq1a_12]
    refine sem_shift (Shift.own (s := 5) (sz := 1) (T := 3) (z := 0) (by simp -implicitDefEqProofs (disch := omega) only [go_sem, ↓reduceIte, reduceCtorEq, Nat.reduceEqDiff]) (by decide)) (run_sem 1000 ?_)
    simp -implicitDefEqProofs (disch := omega) only [go_sem, ↓reduceIte, reduceCtorEq, Nat.reduceEqDiff]
    refine sem_invE (fun m fr σ => ∃ (i t' ro : Nat), i ≤ L.length ∧ m = L.length - i ∧ t ≤ t' ∧ fget fr 0 = .ptr 0 w0 0 ∧ fget fr 1 = .lst 1 (roots.map (V.int .i64)) false ∧ fget fr 5 = .sl 2 ro 0 1 (usesR L roots i).length none ∧ fget fr 6 = .int .i64 i ∧
         σ = ⟨t', mH w0 w1 L ++ [some (.arr ro 3 ((usesR L roots i).map (V.int .i64)))]⟩)
      (fun e fr σ => e = .ex 0 ∧ ∃ (t' ro : Nat), t ≤ t' ∧ fget fr 5 = .sl 2 ro 0 1 (usesR L roots L.length).length none ∧ σ = ⟨t', mH w0 w1 L ++ [some (.arr ro 3 ((usesR L roots L.length).map (V.int .i64)))]⟩)
      (m0 := L.length) ⟨0, t + 1, t, Nat.zero_le _, rfl, by omega, ?_⟩ (fun m fr σ hJ => ?_) (fun e fr σ hE => ?_)
    · simp -implicitDefEqProofs (disch := omega) only [go_sem, ↓reduceIte, reduceCtorEq, Nat.reduceEqDiff, usesR, List.range_zero, List.filter_nil, List.map_nil, List.length_nil]
      all_goals (first | rfl | exact ⟨rfl, rfl⟩)
    · obtain ⟨i, t', ro, hi, rfl, ht', f0, f1, f5, f6, rfl⟩ := hJ
      have hl := ndC_length L
      rcases Nat.lt_or_ge i L.length with hlt | hge
      · have hwi : IntKind.i64.wrap ((i : Int) + 1) = ((i + 1 : Nat) : Int) := by
          rw [wrap_i64 (by omega) (by omega)]; rfl
        have hul := usesR_len L roots i
        have hs := usesR_succ L roots i
        refine W_run 1000 ?_
        simp -implicitDefEqProofs (disch := omega) only [go_sem, ↓reduceIte, Nat.reduceEqDiff, Nat.succ_ne_zero, Nat.zero_add, Nat.add_zero, decide_true, Nat.le_refl, f0, f6, hlt, mH_0]
        refine ru1L hT (id := i) (ro := ro) (n := (usesR L roots i).length) (w0 := w0) hL hok hrl (by simp -implicitDefEqProofs (disch := omega) only [go_sem, ↓reduceIte, reduceCtorEq, Nat.succ_ne_zero, f0]) (by simp -implicitDefEqProofs (disch := omega) only [go_sem, ↓reduceIte, Nat.reduceEqDiff, f1]) (by simp -implicitDefEqProofs (disch := omega) only [go_sem, ↓reduceIte, Nat.reduceEqDiff, f5]) (by simp -implicitDefEqProofs (disch := omega) only [go_sem, ↓reduceIte, Nat.reduceEqDiff, f6]) (by simp -implicitDefEqProofs (disch := omega) only [go_sem, ↓reduceIte, Nat.reduceEqDiff]) (by simp -implicitDefEqProofs (disch := omega) only [go_sem, ↓reduceIte]) (fun fr' t2 ht2 g0 g1 g5 g6 g7 => ?_)
        refine run_sem 1000 ?_
        cases hb : inR L roots i with
        | true =>
          rw [hb] at g7 hs
          simp -implicitDefEqProofs (disch := omega) only [go_sem, need_of, ↓reduceIte, reduceCtorEq, Nat.reduceEqDiff, Nat.reduceLeDiff, Nat.zero_add, Nat.mul_one, Bool.not_true, Nat.le_refl, g5, g6, g7, hwi, mH_2, mHs_2, List.length_map, List.length_cons, List.length_nil]
          refine ⟨L.length - (i + 1), _, _, by omega, Shift.refl _ _ _ _, i + 1, t2 + 1, t2, hlt, rfl, by omega, ?_⟩
          simp -implicitDefEqProofs (disch := omega) only [go_sem, ↓reduceIte, reduceCtorEq, Nat.reduceEqDiff, Nat.succ_ne_zero, Nat.zero_add, g0, g1, hs, List.map_append, List.length_append, List.length_cons, List.length_nil]
        | false =>
          rw [hb] at g7 hs
          simp -implicitDefEqProofs (disch := omega) only [go_sem, ↓reduceIte, Nat.reduceEqDiff, g6, g7, hwi]
          refine ⟨L.length - (i + 1), _, _, by omega, Shift.refl _ _ _ _, i + 1, t2, ro, hlt, rfl, by omega, ?_⟩
          simp -implicitDefEqProofs (disch := omega) only [go_sem, ↓reduceIte, reduceCtorEq, Nat.reduceEqDiff, Nat.succ_ne_zero, g0, g1, g5, hs, List.append_nil]
      · have hil : i = L.length := by omega
        subst hil
        refine W_run 1000 ?_
        simp -implicitDefEqProofs (disch := omega) only [go_sem, ↓reduceIte, Nat.reduceEqDiff, Nat.succ_ne_zero, Nat.zero_add, Nat.add_zero, decide_false, Nat.le_refl, f0, f5, f6, mH_0, show ¬ L.length < L.length from by omega]
        exact ⟨t', ro, ht', rfl, rfl, rfl⟩
    · obtain ⟨rfl, t', ro, ht', f5, rfl⟩ := hE
      refine run_sem 1000 ?_
      simp -implicitDefEqProofs (disch := omega) only [go_sem, ↓reduceIte, Nat.reduceEqDiff, f5]
      exact ⟨ro, _, t', rfl, ht', rfl, rfl, rfl⟩
  · obtain ⟨r, n, t', rfl, ht', rfl, rfl⟩ := hv
    refine ⟨2, r, 3, (usesR L roots L.length).map (V.int .i64), by omega, rfl, ints_nameless _, ?_⟩
    rw [← usesR_eq hok.wf]
    refine ⟨by simp [mapFrom_length, mH], ?_, t', ht', ?_⟩
    · simp only [frzV, rowsV]
      simp [List.take_of_length_le]
    · simp [mH, mapFrom, mS]

end Go.Proofs.YtfligilbnpcnaaaGreatDoor

/- What terms need: the document's. -/
namespace Go.Proofs.YtfligilbnpcnaaaGreatDoor
open Go Go.Am
set_option maxRecDepth 100000
set_option maxHeartbeats 1000000
variable {P : Program} {G : Nat → Option V}

abbrev Asc (l : List Int) : Prop := l.Pairwise fun a b => a ≤ b
theorem asc_put {Q S : List Int} {n : Int} (h : Asc (Q ++ S)) (hS : ∀ s ∈ S, n < s) (hQ : ∀ p, Q.getLast? = some p → p ≤ n) : Asc (Q ++ n :: S) := by
  simp only [Asc, List.pairwise_append, List.pairwise_cons] at h ⊢
  refine ⟨h.1, ⟨fun s hs => by have := hS s hs; omega, h.2.1⟩, fun a ha b hb => ?_⟩
  rcases List.mem_cons.1 hb with rfl | hb
  · cases hl : Q.getLast? with
    | none => rw [List.getLast?_eq_none_iff] at hl; subst hl; cases ha
    | some p =>
      have h1 := hQ p hl
      obtain ⟨R, rfl⟩ := List.getLast?_eq_some_iff.1 hl
      rcases List.mem_append.1 ha with ha | ha
      · have := (List.pairwise_append.1 h.1).2.2 a ha p (by simp); omega
      · simp at ha; subst ha; exact h1
  · exact h.2.2 a ha b hb
theorem asc_eq : ∀ {l m : List Int}, Asc l → Asc m → l.Perm m → l = m
  | [], m, _, _, h => (List.nil_perm.1 h).symm
  | a :: l, [], _, _, h => by simp at h
  | a :: l, b :: m, hl, hm, h => by
    have ha : a ∈ b :: m := h.subset (by simp)
    have hb : b ∈ a :: l := h.symm.subset (by simp)
    simp only [Asc, List.pairwise_cons] at hl hm
    have e : a = b := by
      rcases List.mem_cons.1 ha with e | ha
      · exact e
      · rcases List.mem_cons.1 hb with e | hb
        · exact e.symm
        · have := hm.1 a ha; have := hl.1 b hb; omega
    subst e
    rw [asc_eq hl.2 hm.2 (List.Perm.cons_inv h)]
theorem symS_eq {L : List Nd} {U ss : List Int} (h : Asc ss) (hp : ss.Perm (rawS L U)) : ss = symS L U := by
  refine asc_eq h ?_ (hp.trans (List.mergeSort_perm _ _).symm)
  have := List.pairwise_mergeSort (le := fun x y : Int => decide (x ≤ y)) (by intro a b c; simp; omega) (by intro a b; simp; omega) (rawS L U)
  exact this.imp fun h => by simpa using h
theorem nput {Q S : List Int} {p n : Int} : (nints (Q ++ n :: S)).take Q.length ++ [V.int .i64 p] ++ (nints (Q ++ n :: S)).drop (Q.length + 1) = nints (Q ++ p :: S) := by
  simp [nints, List.drop_append]
theorem nput2 {Q S : List Int} {p n q : Int} : (nints (Q ++ q :: n :: S)).take (Q.length + 1) ++ [V.int .i64 p] ++ (nints (Q ++ q :: n :: S)).drop (Q.length + 1 + 1) = nints (Q ++ q :: p :: S) := by
  have := nput (Q := Q ++ [q]) (S := S) (p := p) (n := n)
  simpa using this
theorem nget {Q S : List Int} {n : Int} : (nints (Q ++ n :: S)).getD Q.length .any = .int .i64 n := by simp [nints, List.getD_eq_getElem?_getD]
theorem nget2 {Q S : List Int} {p n : Int} : (nints (Q ++ p :: n :: S)).getD (Q.length + 1) .any = .int .i64 n := by simp [nints, List.getD_eq_getElem?_getD]

def rH (w0 w1 ws wc : Nat) (L : List Nd) (ss cs : List Int) : List (Option Ob) := mH w0 w1 L ++ [some (.arr ws 2 (nints ss)), some (.arr wc 3 (nints cs))]
abbrev inJ (t w0 w1 ws wc cl i z : Nat) (L : List Nd) (U cs : List Int) (n : Int) (l : List Int) : Nat → Fr → H → Prop := fun m fr σ => ∃ Q S, m = Q.length ∧ Q ++ S = l ∧ (∀ s ∈ S, n < s) ∧ fget fr 0 = .ptr 0 w0 0 ∧ fget fr 7 = .sl 3 wc 0 1 cl none ∧ fget fr 8 = .lst 1 (nints U) false ∧ fget fr 9 = .int .i64 ((i : Nat) : Int) ∧ fget fr 6 = .sl 2 ws 0 1 z none ∧ fget fr 11 = .int .i64 ((m : Nat) : Int) ∧ σ = ⟨t, rH w0 w1 ws wc L (Q ++ n :: S) cs⟩
abbrev inE (t w0 w1 ws wc cl i z : Nat) (L : List Nd) (U cs : List Int) (n : Int) (l : List Int) : AE → Fr → H → Prop := fun e fr σ => e = .ex 2 ∧ ∃ Q S, Q ++ S = l ∧ Asc (Q ++ n :: S) ∧ fget fr 0 = .ptr 0 w0 0 ∧ fget fr 7 = .sl 3 wc 0 1 cl none ∧ fget fr 8 = .lst 1 (nints U) false ∧ fget fr 9 = .int .i64 ((i : Nat) : Int) ∧ fget fr 6 = .sl 2 ws 0 1 z none ∧ σ = ⟨t, rH w0 w1 ws wc L (Q ++ n :: S) cs⟩
theorem w_pred {q : Nat} (h : q ≤ 1000000) : IntKind.i64.wrap (((q + 1 : Nat) : Int) - 1) = ((q : Nat) : Int) := by rw [wrap_i64 (by omega) (by omega)]; omega
theorem in_round {t w0 w1 ws wc cl i z : Nat} {L : List Nd} {U cs : List Int} {n : Int} {l : List Int} (hl : Asc l) (hz : l.length + 1 = z) (hlen : z ≤ 1000000) {m : Nat} {fr : Fr} {σ : H} (hJ : inJ t w0 w1 ws wc cl i z L U cs n l m fr σ) :
    W P G 85 2 (AC.seq (AC.seq (AC.reg zqs_12 [51, 52, 53, 54, 55, 56, 57, 58, 59, 60, 61, 62, 63])   (AC.cond (Arg.t 64)   AC.skip   (AC.exit 2)))   (AC.block 3 (AC.seq (AC.reg zqs_13 [65, 66, 67, 68, 69, 70, 71, 72, 73, 74, 75, 76, 77, 78, 79, 80])   (AC.reg zqs_14 [81, 82])))) fr σ (seqQ (fun fr σ => ∃ m' fr' σ', m' < m ∧ Shift G 85 2 fr σ fr' σ' ∧ inJ t w0 w1 ws wc cl i z L U cs n l m' fr' σ') (inE t w0 w1 ws wc cl i z L U cs n l)) := by
  obtain ⟨Q, S, hq, hQS, hS, f0, f7, f8, f9, f6, f11, rfl⟩ := hJ
  rcases List.eq_nil_or_concat Q with rfl | ⟨Q, p, rfl⟩
  · rw [List.length_nil] at hq
    subst hq
    refine W_round [(0, .ptr 0 w0 0), (7, .sl 3 wc 0 1 cl none), (8, .lst 1 (nints U) false), (9, .int .i64 ((i : Nat) : Int)), (6, .sl 2 ws 0 1 z none), (11, .int .i64 0)] ⟨f0, f7, f8, f9, f6, f11, trivial⟩  14 ?_
    simp -implicitDefEqProofs (disch := omega) only [go_sem, ↓reduceIte, reduceCtorEq, Nat.reduceEqDiff, decide_false, gt_iff_lt, zqs_12, zqs_13, zqs_14, List.nil_append, rH, Int.lt_irrefl]
    iterate 9 (try (refine run_sem 2 ?_; simp -implicitDefEqProofs (disch := omega) only [go_sem, ↓reduceIte, reduceCtorEq, Nat.reduceEqDiff]))
    iterate 4 (try (refine run_sem 4 ?_; simp -implicitDefEqProofs (disch := omega) only [go_sem, need_of, ↓reduceIte, reduceCtorEq, Nat.reduceAdd, Nat.reduceEqDiff, Nat.reduceLeDiff, Nat.reduceLT, Nat.reduceSub, Nat.reduceMul, Int.reduceToNat, Int.reduceLE, Int.reduceLT, Int.reduceEq, Int.reduceNe, Nat.succ_ne_zero, Nat.zero_add, Nat.add_zero, Nat.mul_one, Nat.one_mul, Nat.zero_mul, decide_true, decide_false, Bool.not_true, Bool.not_false, Nat.le_refl, Nat.zero_le, ge_iff_le, gt_iff_lt, Nat.reduceBEq, Nat.reduceBNe, beq_self_eq_true, bne_self_eq_false, Option.isSome_some, Option.isSome_none, Option.getD_some, Option.getD_none, proofmarkref03_Needs, zqs_0, zqs_1, zqs_2, zqs_3, zqs_4, zqs_5, zqs_6, zqs_7, zqs_8, zqs_9, zqs_10, zqs_11, zqs_12, zqs_13, zqs_14, zqs_15, zqs_16, mH_len, mH0_len, mH_take, mH0_take, mH_app, mH0_0, mH0_1, mH_0, mH_1, mH_2, mHs_2, mH_3, mHs_3, nints_length, List.length_append, List.length_cons, List.length_nil, false_implies, true_implies, true_and, and_true, not_true_eq_false, not_false_eq_true, List.cons_append, List.nil_append]))
    exact ⟨rfl, [], S, hQS, asc_put (Q := []) (hQS ▸ hl) hS (by simp), rfl, rfl, rfl, rfl, rfl, rfl⟩
  · rw [List.concat_eq_append] at *
    rw [List.length_append, List.length_singleton] at hq
    rw [List.append_assoc] at hQS
    have hQz : Q.length + S.length + 1 + 1 = z := by rw [← hz, ← hQS]; simp; omega
    subst hq
    have w1' := w_pred (q := Q.length) (by omega)
    have w2 : (0 : Int) < ((Q.length + 1 : Nat) : Int) := by omega
    have w2' : decide ((0 : Int) < ((Q.length + 1 : Nat) : Int)) = true := decide_eq_true w2
    have g1 := nget (Q := Q) (S := n :: S) (n := p)
    have g2 := nget2 (Q := Q) (S := S) (p := p) (n := n)
    have g3 := nput2 (Q := Q) (S := S) (p := p) (n := n) (q := p)
    have g4 := nput (Q := Q) (S := p :: S) (p := n) (n := p)
    have e1 : Q ++ [p] ++ n :: S = Q ++ p :: n :: S := by simp
    by_cases hlt : n < p
    · have hlt' : decide (n < p) = true := decide_eq_true hlt
      rw [e1]
      refine W_round [(0, .ptr 0 w0 0), (7, .sl 3 wc 0 1 cl none), (8, .lst 1 (nints U) false), (9, .int .i64 ((i : Nat) : Int)), (6, .sl 2 ws 0 1 z none), (11, .int .i64 ((Q.length + 1 : Nat) : Int))] ⟨f0, f7, f8, f9, f6, f11, trivial⟩  14 ?_
      simp -implicitDefEqProofs (disch := omega) only [go_sem, need_of, ↓reduceIte, reduceCtorEq, Nat.reduceAdd, Nat.reduceEqDiff, Nat.zero_add, Nat.mul_one, decide_true, gt_iff_lt, zqs_12, zqs_13, zqs_14, mH_2, nints_length, List.length_append, List.length_cons, true_implies, true_and, and_true, rH, w1', w2, g2]
      iterate 9 (try (refine run_sem 2 ?_; simp -implicitDefEqProofs (disch := omega) only [go_sem, need_of, ↓reduceIte, reduceCtorEq, Nat.reduceAdd, Nat.reduceEqDiff, Nat.zero_add, Nat.mul_one, decide_true, mH_2, nints_length, List.length_append, List.length_cons, true_implies, true_and, and_true, w1', g1, hlt]))
      iterate 9 (try (refine run_sem 4 ?_; simp -implicitDefEqProofs (disch := omega) only [go_sem, need_of, ↓reduceIte, reduceCtorEq, Nat.reduceEqDiff, Nat.zero_add, Nat.mul_one, Bool.not_false, Nat.le_refl, mH_2, mHs_2, nints_length, List.length_append, List.length_cons, List.length_nil, true_implies, true_and, and_true, w1', g1, g2, g3, g4]))
      refine ⟨Q.length, _, _, by omega, Shift.refl _ _ _ _, Q, p :: S, rfl, by rw [← hQS]; simp, fun s hs => ?_, ?_⟩
      · rcases List.mem_cons.1 hs with rfl | hs
        · exact hlt
        · exact hS s hs
      · simp -implicitDefEqProofs (disch := omega) only [go_sem, ↓reduceIte, reduceCtorEq, Nat.reduceEqDiff, and_true, rH]
    · have hlt' : decide (n < p) = false := decide_eq_false hlt
      rw [e1]
      have hsr : Asc (Q ++ [p] ++ n :: S) := asc_put (Q := Q ++ [p]) (S := S) (n := n) (by rw [← hQS] at hl; simpa using hl) hS (fun q hq => by
        simp at hq; subst hq; omega)
      refine W_round [(0, .ptr 0 w0 0), (7, .sl 3 wc 0 1 cl none), (8, .lst 1 (nints U) false), (9, .int .i64 ((i : Nat) : Int)), (6, .sl 2 ws 0 1 z none), (11, .int .i64 ((Q.length + 1 : Nat) : Int))] ⟨f0, f7, f8, f9, f6, f11, trivial⟩  14 ?_
      simp -implicitDefEqProofs (disch := omega) only [go_sem, need_of, ↓reduceIte, reduceCtorEq, Nat.reduceAdd, Nat.reduceEqDiff, Nat.zero_add, Nat.mul_one, decide_true, gt_iff_lt, zqs_12, zqs_13, zqs_14, mH_2, nints_length, List.length_append, List.length_cons, true_implies, true_and, and_true, rH, w1', w2, g2]
      iterate 9 (try (refine run_sem 2 ?_; simp -implicitDefEqProofs (disch := omega) only [go_sem, need_of, ↓reduceIte, reduceCtorEq, Nat.reduceAdd, Nat.reduceEqDiff, Nat.zero_add, decide_false, mH_2, nints_length, List.length_append, List.length_cons, true_implies, true_and, and_true, g1, hlt]))
      iterate 9 (try (refine run_sem 4 ?_; simp -implicitDefEqProofs (disch := omega) only [go_sem, need_of, ↓reduceIte, reduceCtorEq, Nat.reduceAdd, Nat.reduceEqDiff, Nat.reduceLeDiff, Nat.reduceLT, Nat.reduceSub, Nat.reduceMul, Int.reduceToNat, Int.reduceLE, Int.reduceLT, Int.reduceEq, Int.reduceNe, Nat.succ_ne_zero, Nat.zero_add, Nat.add_zero, Nat.mul_one, Nat.one_mul, Nat.zero_mul, decide_true, decide_false, Bool.not_true, Bool.not_false, Nat.le_refl, Nat.zero_le, ge_iff_le, gt_iff_lt, Nat.reduceBEq, Nat.reduceBNe, beq_self_eq_true, bne_self_eq_false, Option.isSome_some, Option.isSome_none, Option.getD_some, Option.getD_none, proofmarkref03_Needs, zqs_0, zqs_1, zqs_2, zqs_3, zqs_4, zqs_5, zqs_6, zqs_7, zqs_8, zqs_9, zqs_10, zqs_11, zqs_12, zqs_13, zqs_14, zqs_15, zqs_16, mH_len, mH0_len, mH_take, mH0_take, mH_app, mH0_0, mH0_1, mH_0, mH_1, mH_2, mHs_2, mH_3, mHs_3, nints_length, List.length_append, List.length_cons, List.length_nil, false_implies, true_implies, true_and, and_true, not_true_eq_false, not_false_eq_true, List.cons_append, List.nil_append, w1', g1, g2, g3]))
      exact ⟨rfl, Q ++ [p], S, by rw [← hQS]; simp, hsr, rfl, rfl, rfl, rfl, rfl, by rw [e1]; rfl⟩
end Go.Proofs.YtfligilbnpcnaaaGreatDoor

/- What terms need: the document's. -/
namespace Go.Proofs.YtfligilbnpcnaaaGreatDoor
open Go Go.Am
set_option maxRecDepth 100000
set_option maxHeartbeats 1000000
variable {P : Program} {G : Nat → Option V}

theorem mH_4 {w0 w1 : Nat} {L : List Nd} {x y z : Option Ob} {ex : List (Option Ob)} : (mH w0 w1 L ++ x :: y :: z :: ex)[4]? = some z := rfl
theorem mHs_4 {w0 w1 : Nat} {L : List Nd} {x y z u : Option Ob} {ex : List (Option Ob)} : (mH w0 w1 L ++ x :: y :: z :: ex).set 4 u = mH w0 w1 L ++ x :: y :: u :: ex := rfl
abbrev rnJ (t0 w0 w1 : Nat) (L : List Nd) (U : List Int) : Nat → Fr → H → Prop := fun i fr σ => ∃ t ws wc ss cs, t0 ≤ t ∧ Asc ss ∧ ss.Perm (rawS L (U.take i)) ∧ cs = cellS L (U.take i) ∧ fget fr 0 = .ptr 0 w0 0 ∧ fget fr 6 = .sl 2 ws 0 1 ss.length none ∧ fget fr 7 = .sl 3 wc 0 1 cs.length none ∧ fget fr 8 = .lst 1 (nints U) false ∧ fget fr 9 = .int .i64 ((i : Nat) : Int) ∧ σ = ⟨t, rH w0 w1 ws wc L ss cs⟩
abbrev rnE (t0 w0 w1 : Nat) (L : List Nd) (U : List Int) : AE → Fr → H → Prop := fun e fr σ => e = .ex 0 ∧ ∃ t ws wc, t0 ≤ t ∧ fget fr 6 = .sl 2 ws 0 1 (symS L U).length none ∧ fget fr 7 = .sl 3 wc 0 1 (cellS L U).length none ∧ σ = ⟨t, rH w0 w1 ws wc L (symS L U) (cellS L U)⟩
theorem rn_round {t0 w0 w1 : Nat} {L : List Nd} {U : List Int} (hL : L.length ≤ 1000) (hU : ∀ x ∈ U, 0 ≤ x ∧ x < L.length) (hUl : U.length ≤ 1000) {i : Nat} {x : Int} (hx : U[i]? = some x) {fr : Fr} {σ : H} (hJ : rnJ t0 w0 w1 L U i fr σ) :
    W P G 85 2 (AC.seq (AC.seq (AC.reg zqs_5 [15, 16, 17])   (AC.cond (Arg.t 18)   AC.skip   (AC.exit 0)))   (AC.seq (AC.block 1 (AC.seq (AC.reg zqs_6 [21, 22, 23, 24, 25, 26, 27, 28, 29, 30])   (AC.seq (AC.seq (AC.reg zqs_7 [31, 32])   (AC.cond (Arg.t 33)   (AC.reg zqs_8 [34, 35, 36, 37, 38, 39, 40])   AC.skip))   (AC.seq (AC.reg zqs_9 [41, 42])   (AC.cond (Arg.t 43)   (AC.seq (AC.reg zqs_10 [44, 45])   (AC.seq (AC.reg zqs_11 [46, 47, 48, 49, 50])   (AC.block 2 (AC.loop (AC.seq (AC.seq (AC.reg zqs_12 [51, 52, 53, 54, 55, 56, 57, 58, 59, 60, 61, 62, 63])   (AC.cond (Arg.t 64)   AC.skip   (AC.exit 2)))   (AC.block 3 (AC.seq (AC.reg zqs_13 [65, 66, 67, 68, 69, 70, 71, 72, 73, 74, 75, 76, 77, 78, 79, 80])   (AC.reg zqs_14 [81, 82]))))))))   AC.skip)))))   (AC.reg zqs_15 [19, 20]))) fr σ (seqQ (fun fr σ => ∃ fr' σ', Shift G 85 2 fr σ fr' σ' ∧ rnJ t0 w0 w1 L U (i + 1) fr' σ') (rnE t0 w0 w1 L U)) := by
  obtain ⟨t, ws, wc, ss, cs, ht, hsa, hsp, hcs, f0, f6, f7, f8, f9, rfl⟩ := hJ
  have hlt := (List.getElem?_eq_some_iff.1 hx).1
  have hD : (nints U).getD i V.any = .int .i64 x := by simp [nints, List.getD_eq_getElem?_getD, hx]
  have e2 := w_nx hlt (by omega)
  obtain ⟨h0, h1⟩ := hU x (List.mem_of_getElem? hx)
  have hts := take_snoc2 hx
  have s1 : rawS L (U.take (i + 1)) = rawS L (U.take i) ++ (if (nd L x).kind = 2 then [(nd L x).n] else []) := by rw [hts, rawS_snoc]
  have s2 : cellS L (U.take (i + 1)) = cs ++ (if (nd L x).kind = 3 then [x] else []) := by rw [hts, cellS_snoc, hcs]
  have hsl : ss.length ≤ 1000 := by have := rawS_len L (U.take i); rw [hsp.length_eq]; rw [List.length_take] at this; omega
  have hcl : cs.length ≤ 1000 := by have := cellS_len L (U.take i); rw [hcs]; rw [List.length_take] at this; omega
  have hd : L[x.toNat]? = some (nd L x) := by
    unfold nd
    rw [List.getD_eq_getElem?_getD, List.getElem?_eq_getElem (by omega)]; rfl
  have hc := ndC_get hd
  have hlen : x.toNat < L.length := by omega
  have hl := ndC_length L
  have h6 : x.toNat * 6 + 6 ≤ (ndC L).length := by omega
  have hap : ∀ (l : List Int) (y : Int), nints l ++ [V.int .i64 y] = nints (l ++ [y]) := fun l y => by simp [nints]
  generalize nd L x = d at *
  simp only [Nd.cells] at hc
  by_cases k2 : d.kind = 2
  · have k3 : ¬ d.kind = 3 := by omega
    rw [if_pos k2] at s1
    rw [if_neg k3, List.append_nil] at s2
    have k2'' : (d.kind = 2) = True := eq_true k2
    have k3'' : (d.kind = 3) = False := eq_false k3
    refine W_round [(0, .ptr 0 w0 0), (6, .sl 2 ws 0 1 ss.length none), (7, .sl 3 wc 0 1 cs.length none), (8, .lst 1 (nints U) false), (9, .int .i64 ((i : Nat) : Int))] ⟨f0, f6, f7, f8, f9, trivial⟩  1000 ?_
    simp -implicitDefEqProofs (disch := omega) only [go_sem, need_of, ↓reduceIte, reduceCtorEq, Nat.reduceAdd, Nat.reduceEqDiff, Nat.reduceLeDiff, Nat.zero_add, Nat.add_zero, Nat.mul_one, decide_true, Bool.not_true, Bool.not_false, Nat.le_refl, zqs_5, zqs_6, zqs_7, zqs_8, zqs_9, zqs_10, zqs_11, zqs_12, zqs_13, zqs_14, zqs_15, mH0_len, mH_app, mH_0, mH_1, mH_2, mHs_2, mH_3, mHs_3, mH_4, mHs_4, nints_length, List.length_append, List.length_cons, List.length_nil, false_implies, true_implies, true_and, and_true, not_true_eq_false, not_false_eq_true, List.cons_append, List.nil_append, rH, hlt, hD, h0, hlen, hc, h6, k2'', k3'', hap]
    refine sem_shift (Shift.drop (o' := rH w0 w1 (t + 1) wc L (ss ++ [d.n]) cs) (t' := t + 1 + 1) (by simp [subObs, rH, mH]) (Nat.le_refl _) (by simp [rH, mH])) ?_
    refine sem_invE (inJ (t + 1 + 1) w0 w1 (t + 1) wc cs.length i (ss.length + 1) L U cs d.n ss) (inE (t + 1 + 1) w0 w1 (t + 1) wc cs.length i (ss.length + 1) L U cs d.n ss) (m0 := ss.length) ⟨ss, [], rfl, by simp, by simp, rfl, rfl, rfl, rfl, rfl, rfl, rfl⟩ (fun m fr σ hJ => in_round hsa rfl (by omega) hJ) (fun e fr σ hE => ?_)
    obtain ⟨rfl, Q, S, hQS, hasc, f0, f7, f8, f9, f6, rfl⟩ := hE
    have hperm : (Q ++ d.n :: S).Perm (rawS L (U.take i) ++ [d.n]) := by
      refine (List.perm_middle).trans ?_
      rw [hQS]
      exact (List.perm_append_comm (l₁ := [d.n]) (l₂ := ss)).trans (hsp.append_right _)
    have hln : (Q ++ d.n :: S).length = ss.length + 1 := by rw [← hQS]; simp; omega
    refine sem_exit2 [(0, .ptr 0 w0 0), (6, .sl 2 (t + 1) 0 1 (ss.length + 1) none), (7, .sl 3 wc 0 1 cs.length none), (8, .lst 1 (nints U) false), (9, .int .i64 ((i : Nat) : Int))] ⟨f0, f6, f7, f8, f9, trivial⟩ 1000 ?_
    simp -implicitDefEqProofs (disch := omega) only [go_sem, ↓reduceIte, reduceCtorEq, Nat.reduceEqDiff]
    refine ⟨_, _, Shift.refl _ _ _ _, t + 1 + 1, t + 1, wc, Q ++ d.n :: S, cs, by omega, hasc, s1 ▸ hperm, s2.symm, ?_⟩
    rw [hln]
    simp -implicitDefEqProofs (disch := omega) only [go_sem, ↓reduceIte, reduceCtorEq, Nat.reduceEqDiff, and_true, e2]
    try simp
  by_cases k3 : d.kind = 3
  · rw [if_neg k2, List.append_nil] at s1
    rw [if_pos k3] at s2
    have k2'' : (d.kind = 2) = False := eq_false k2
    have k3'' : (d.kind = 3) = True := eq_true k3
    refine W_round [(0, .ptr 0 w0 0), (6, .sl 2 ws 0 1 ss.length none), (7, .sl 3 wc 0 1 cs.length none), (8, .lst 1 (nints U) false), (9, .int .i64 ((i : Nat) : Int))] ⟨f0, f6, f7, f8, f9, trivial⟩  1000 ?_
    simp -implicitDefEqProofs (disch := omega) only [go_sem, need_of, ↓reduceIte, reduceCtorEq, Nat.reduceAdd, Nat.reduceEqDiff, Nat.reduceLeDiff, Nat.zero_add, Nat.add_zero, Nat.mul_one, decide_true, Bool.not_true, Bool.not_false, Nat.le_refl, zqs_5, zqs_6, zqs_7, zqs_8, zqs_9, zqs_10, zqs_11, zqs_12, zqs_13, zqs_14, zqs_15, mH0_len, mH_app, mH_0, mH_1, mH_2, mHs_2, mH_3, mHs_3, mH_4, mHs_4, nints_length, List.length_append, List.length_cons, List.length_nil, false_implies, true_implies, true_and, and_true, not_true_eq_false, not_false_eq_true, List.cons_append, List.nil_append, rH, hlt, hD, h0, hlen, hc, h6, k2'', k3'', hap]
    refine ⟨_, _, Shift.drop (o' := rH w0 w1 ws (t + 1) L ss (cs ++ [x])) (t' := t + 1 + 1) (by simp [subObs, rH, mH]) (Nat.le_refl _) (by simp [rH, mH]), t + 1 + 1, ws, t + 1, ss, cs ++ [x], by omega, hsa, s1 ▸ hsp, s2.symm, ?_⟩
    simp -implicitDefEqProofs (disch := omega) only [go_sem, ↓reduceIte, reduceCtorEq, Nat.reduceEqDiff, Nat.zero_add, List.length_append, List.length_cons, List.length_nil, and_true, rH, e2]
    try simp
  · rw [if_neg k2, List.append_nil] at s1
    rw [if_neg k3, List.append_nil] at s2
    have k2'' : (d.kind = 2) = False := eq_false k2
    have k3'' : (d.kind = 3) = False := eq_false k3
    refine W_round [(0, .ptr 0 w0 0), (6, .sl 2 ws 0 1 ss.length none), (7, .sl 3 wc 0 1 cs.length none), (8, .lst 1 (nints U) false), (9, .int .i64 ((i : Nat) : Int))] ⟨f0, f6, f7, f8, f9, trivial⟩  1000 ?_
    simp -implicitDefEqProofs (disch := omega) only [go_sem, need_of, ↓reduceIte, reduceCtorEq, Nat.reduceAdd, Nat.reduceEqDiff, Nat.reduceLeDiff, Nat.zero_add, Nat.add_zero, Nat.mul_one, decide_true, Bool.not_true, Bool.not_false, Nat.le_refl, zqs_5, zqs_6, zqs_7, zqs_8, zqs_9, zqs_10, zqs_11, zqs_12, zqs_13, zqs_14, zqs_15, mH0_len, mH_app, mH_0, mH_1, mH_2, mHs_2, mH_3, mHs_3, mH_4, mHs_4, nints_length, List.length_append, List.length_cons, List.length_nil, false_implies, true_implies, true_and, and_true, not_false_eq_true, List.cons_append, List.nil_append, rH, hlt, hD, h0, hlen, hc, h6, k2'', k3'', hap]
    refine ⟨_, _, Shift.drop (o' := rH w0 w1 ws wc L ss cs) (t' := t + 1) (by simp [subObs, rH, mH]) (Nat.le_refl _) (by simp [rH, mH]), t + 1, ws, wc, ss, cs, by omega, hsa, s1 ▸ hsp, s2.symm, ?_⟩
    simp -implicitDefEqProofs (disch := omega) only [go_sem, ↓reduceIte, reduceCtorEq, Nat.reduceEqDiff, and_true, rH, e2]
    try simp
end Go.Proofs.YtfligilbnpcnaaaGreatDoor

/- What terms need: the document's contract. -/
namespace Go.Proofs.YtfligilbnpcnaaaGreatDoor
open Go Go.Am
set_option maxRecDepth 100000
set_option maxHeartbeats 1000000
variable {P : Program} {G : Nat → Option V}

theorem r_Needs (hT : TabOk P tab) {w0 w1 t : Nat} {L : List Nd} (hL : L.length ≤ 1000) (hok : okN L) (ids : List Int) (hrl : ids.length ≤ 1000) :
    C P G 2 n_proofmarkref03_Needs [.ptr 0 w0 0, .lst 1 (ids.map (V.int .i64)) false] ⟨t, mH w0 w1 L⟩ fun v σ => v = .tup [.lst 1 (nints (symS L (usesL L ids))) false, .lst 1 (nints (cellS L (usesL L ids))) false] ∧ ∃ t', t ≤ t' ∧ σ = ⟨t', mH w0 w1 L⟩ := by
  refine C_keep 2 (Nat.le_refl _) (C_freezeO (Q := fun v σ => ∃ t' wc, t ≤ t' ∧ v = .tup [.lst 1 (nints (symS L (usesL L ids))) false, .sl 3 wc 0 1 (cellS L (usesL L ids)).length none] ∧ σ = ⟨t', mH w0 w1 L ++ [none, some (.arr wc 3 (nints (cellS L (usesL L ids))))]⟩)
    (C_freezeO (Q := fun v σ => ∃ t' ws wc, t ≤ t' ∧ v = .tup [.sl 2 ws 0 1 (symS L (usesL L ids)).length none, .sl 3 wc 0 1 (cellS L (usesL L ids)).length none] ∧ σ = ⟨t', rH w0 w1 ws wc L (symS L (usesL L ids)) (cellS L (usesL L ids))⟩) ?_ fun v σ hv => ?_) fun v σ hv => ?_)
  · have hU := fun t => r_UsesL (P := P) (G := G) hT (w0 := w0) (w1 := w1) (t := t) hL hok hrl
    have hUb : ∀ x ∈ usesL L ids, 0 ≤ x ∧ x < L.length := uses_ok
    have hUl : (usesL L ids).length ≤ 1000 := by have := nodup_len L.length (usesL L ids) uses_nodup uses_ok; omega
    generalize usesL L ids = U at *
    refine C_tab hT t_proofmarkref03_Needs (by simp [proofmarkref03_Needs]) (W_run 1000 ?_)
    simp -implicitDefEqProofs (disch := omega) only [go_sem, ↓reduceIte, reduceCtorEq, Nat.reduceEqDiff, Nat.zero_add, proofmarkref03_Needs, zqs_0, zqs_1, zqs_2, zqs_3, zqs_4, zqs_5, zqs_6, zqs_7, zqs_8, zqs_9, zqs_10, zqs_11, zqs_12, zqs_13, zqs_14, zqs_15, zqs_16]
    refine call hT t_proofmarkref02_Graph_Uses (hU _) 1000 fun v σ hv => ?_
    obtain ⟨rfl, t1, ht1, rfl⟩ := hv
    simp -implicitDefEqProofs (disch := omega) only [go_sem, ↓reduceIte, reduceCtorEq, Nat.reduceEqDiff]
    refine sem_shift (Shift.own (s := 6) (z := 0) (sz := 1) (T := 2) (by simp -implicitDefEqProofs (disch := omega) only [go_sem, ↓reduceIte, reduceCtorEq, Nat.reduceEqDiff]) (by decide)) ?_
    simp -implicitDefEqProofs (disch := omega) only [go_sem, ↓reduceIte, reduceCtorEq, Nat.reduceEqDiff, H.push, mH0_len]
    refine sem_shift (Shift.own (s := 7) (z := 0) (sz := 1) (T := 3) (by simp -implicitDefEqProofs (disch := omega) only [go_sem, ↓reduceIte, reduceCtorEq, Nat.reduceEqDiff]) (by decide)) ?_
    simp -implicitDefEqProofs (disch := omega) only [go_sem, ↓reduceIte, reduceCtorEq, Nat.reduceAdd, Nat.reduceEqDiff, Nat.zero_add, H.push, mH_len, mH_app, List.length_cons, List.length_nil, List.cons_append, List.nil_append]
    refine sem_for U (rnJ t w0 w1 L U) (rnE t w0 w1 L U) ⟨t1 + 1 + 1, t1, t1 + 1, [], [], by omega, .nil, .refl _, rfl, ?_⟩ (fun i x hx fr σ hJ => rn_round hL hUb hUl hx hJ) (fun i hi fr σ hJ => ?_) (fun e fr σ hE => ?_)
    · simp -implicitDefEqProofs (disch := omega) only [go_sem, ↓reduceIte, reduceCtorEq, Nat.reduceEqDiff, List.length_nil, true_and, rH]
      simp [nints]
    · obtain ⟨t2, ws, wc, ss, cs, ht, hasc, hsp, hcs, f0, f6, f7, f8, f9, rfl⟩ := hJ
      rw [hi, List.take_length] at hsp hcs
      refine W_round [(0, .ptr 0 w0 0), (6, .sl 2 ws 0 1 ss.length none), (7, .sl 3 wc 0 1 cs.length none), (8, .lst 1 (nints U) false), (9, .int .i64 ((i : Nat) : Int))] ⟨f0, f6, f7, f8, f9, trivial⟩  1000 ?_
      simp -implicitDefEqProofs (disch := omega) only [go_sem, ↓reduceIte, reduceCtorEq, Nat.reduceEqDiff, decide_false, nints_length, hi, Nat.lt_irrefl]
      have hs := symS_eq hasc hsp
      subst hs hcs
      exact ⟨rfl, t2, ws, wc, ht, rfl, rfl, rfl⟩
    · obtain ⟨rfl, t2, ws, wc, ht2, f6, f7, rfl⟩ := hE
      refine sem_exit [(6, .sl 2 ws 0 1 (symS L U).length none), (7, .sl 3 wc 0 1 (cellS L U).length none)] ⟨f6, f7, trivial⟩ 1000 ?_
      simp -implicitDefEqProofs (disch := omega) only [go_sem, ↓reduceIte, Nat.reduceEqDiff, rH]
      exact ⟨t2, ws, wc, by omega, rfl, rfl, rfl⟩
  · obtain ⟨t', ws, wc, ht, rfl, rfl⟩ := hv
    refine .inr ⟨2, ws, 2, nints (symS L (usesL L ids)), Nat.le_refl _, rfl, nints_nameless _, t', wc, ht, ?_, ?_⟩
    · have := frz_n (k := 2) (w := ws) (symS L (usesL L ids))
      simp only [frzV, frzL] at this ⊢
      rw [this]
      simp
    · simp [rH, mH, mapFrom, Ob.mapV, frz_nints]
  · obtain ⟨t', wc, ht, rfl, rfl⟩ := hv
    refine .inr ⟨3, wc, 3, nints (cellS L (usesL L ids)), by omega, rfl, nints_nameless _, ?_, ?_, t', ht, ?_⟩
    · simp [mapFrom_length, mH]
    · have := frz_n (k := 3) (w := wc) (cellS L (usesL L ids))
      simp only [frzV, frzL] at this ⊢
      rw [this]
    · simp [mH, mapFrom]
/-- Both graphs. -/
theorem r_NeedsK (hT : TabOk P tab) {fmt : Int → List UInt8} {v0 v1 v2 v3 v4 w0 w1 t base : Nat} {L : List Nd} {ex : List (Option Ob)} (hL : L.length ≤ 1000) (hok : okN L) (ids : List Int) (hrl : ids.length ≤ 1000) :
    C P G base n_proofmarkref03_Needs [.ptr 5 w0 0, .lst 1 (ids.map (V.int .i64)) false] ⟨t, kG fmt v0 v1 v2 v3 v4 L ++ mK w0 w1 L ex⟩ fun v σ => v = .tup [.lst 1 (nints (symS L (usesL L ids))) false, .lst 1 (nints (cellS L (usesL L ids))) false] ∧ ∃ t', t ≤ t' ∧ σ = ⟨t', kG fmt v0 v1 v2 v3 v4 L ++ mK w0 w1 L ex⟩ :=
  m_readK (r_Needs hT hL hok ids hrl) rfl rfl
end Go.Proofs.YtfligilbnpcnaaaGreatDoor

