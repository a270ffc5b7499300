/- Contracts: a model is looked for. -/
import Derived.Test.YtpepmhmgfpkdmaaSw14
import Derived.Test.YtpepmhmgfpkdmaaSA
namespace Go.Proofs.Ytpepmhmgfpkdmaa
open Go Go.Am Go.Cl Go.Sat
set_option maxRecDepth 100000
variable {P : Program} {G : Nat → Option V}

theorem teach_size {s s' : S} {c : List Int} {level : Nat} (h : s.teach c level = some s') : s'.pf.length = s.pf.length + 1 ∧ s'.cl.length ≤ s.cl.length + 1 ∧ s'.he = s.he ∧ s'.lf + 1 ≤ s.lf ∧ s'.ms.length ≤ s.ms.length := by
  have hl := teach_lf h
  have hb : ∀ (s : S), (s.back level).pf = s.pf ∧ (s.back level).cl = s.cl ∧ (s.back level).he = s.he ∧ (s.back level).ms.length ≤ s.ms.length := fun s => by
    unfold S.back
    cases s.ms[level]? with
    | none => exact ⟨rfl, rfl, rfl, Nat.le_refl _⟩
    | some m => exact ⟨rfl, rfl, rfl, by simp; omega⟩
  unfold S.teach at h
  simp only at h
  obtain ⟨b1, b2, b3, b4⟩ := hb { s with pf := s.pf ++ [(cleanS c).1] }
  split at h
  · obtain ⟨_, rfl⟩ := S.set_some h
    exact ⟨by show (S.back _ level).pf.length = _; rw [b1]; simp, by show (S.back _ level).cl.length ≤ _; rw [b2]; simp, b3, by omega, b4⟩
  · obtain ⟨_, rfl⟩ := S.set_some h
    exact ⟨by show (S.back _ level).pf.length = _; rw [b1]; simp, by show ((S.back _ level).cl ++ _).length ≤ _; rw [b2]; simp, b3, by omega, b4⟩

theorem Can.cap {K K' : Vs} {fu t t' : Nat} {ps : List V} {s : S} {σ : H} {pf : List (List Int)} (h : Can K' fu t' ps s σ) (hp : PfOk ps pf) (hK : K'.s = K.s) (ht : t ≤ t') : Cap K fu t { s with pf := pf } σ := by
  obtain ⟨K2, es, cs, rest, ow, t2, h1, h2, h3, rfl⟩ := h
  exact ⟨ps, hp, K2, es, cs, rest, ow, t2, by omega, h2.trans hK, ⟨h3.len, h3.cl, h3.wt⟩, rfl⟩
theorem Cap.mono {K K' : Vs} {fu t t' : Nat} {s : S} {σ : H} (h : Cap K' fu t' s σ) (hK : K'.s = K.s) (ht : t ≤ t') : Cap K fu t s σ := by
  obtain ⟨ps, hp, K2, es, cs, rest, ow, t2, h1, h2, h3, rfl⟩ := h
  exact ⟨ps, hp, K2, es, cs, rest, ow, t2, by omega, h2.trans hK, h3, rfl⟩

def RunQ (K : Vs) (fu t : Nat) : Option (S × Bool) → V → H → Prop
  | none, v, σ => v = .int .u8 0 ∧ ∃ s', Cap K fu t s' σ
  | some (s', true), v, σ => v = .int .u8 1 ∧ Cap K fu t s' σ
  | some (s', false), v, σ => v = .int .u8 2 ∧ Cap K fu t s' σ

abbrev ruJ (K : Vs) (N fu t : Nat) (R : Option (S × Bool)) : Nat → Fr → H → Prop := fun m fr σ =>
  ∃ s K' es cs ps rest ow t', s.lf < m ∧ t ≤ t' ∧ K'.s = K.s ∧ S.runN m s = R ∧ s.ms.length + s.lf ≤ 8388608 ∧ Inv N s ∧ Bd fu N s ∧ PfOk ps s.pf ∧ RW s es cs rest ow ∧ fget fr 0 = .ptr 0 K.s 0 ∧ σ = hp K' s fu t' es cs ps rest
abbrev ruE (K : Vs) (fu t : Nat) (R : Option (S × Bool)) : AE → Fr → H → Prop := fun e fr σ => e = .ret ∧ RunQ K fu t R (fget fr 2) σ

theorem ru_round (hT : TabOk Try.prog tab) {N fu t : Nat} {K : Vs} {R : Option (S × Bool)} {m : Nat} {fr : Fr} {σ : H} (hJ : ruJ K N fu t R m fr σ) :
    W Try.prog G 72 0 (AC.block 1 (AC.seq (AC.reg sat_solver_run_r1 [7, 8, 6, 9, 10])   (AC.seq (AC.block 2 (AC.seq (AC.reg sat_solver_run_r2 [12])   (AC.cond (Arg.t 11)   (AC.seq (AC.reg sat_solver_run_r3 [])   AC.ret)   (AC.seq (AC.reg sat_solver_run_r4 [14, 15, 16, 17, 18, 19, 20, 21, 22, 23])   (AC.cond (Arg.t 13)   (AC.seq (AC.reg sat_solver_run_r5 [24, 25, 26, 27, 28, 29, 30, 31, 32])   (AC.seq (AC.reg sat_solver_run_r6 [])   AC.ret))   (AC.seq (AC.reg sat_solver_run_r7 [34, 35])   (AC.cond (Arg.t 33)   (AC.seq (AC.seq (AC.reg sat_solver_run_r8 [36, 37, 38, 39, 40, 41, 42, 43, 44, 45, 46, 47])   (AC.cond (Arg.t 48)   (AC.seq (AC.reg sat_solver_run_r9 [])   AC.ret)   AC.skip))   (AC.exit 1))   AC.skip)))))))   (AC.seq (AC.reg sat_solver_run_r10 [49, 50])   (AC.seq (AC.seq (AC.reg sat_solver_run_r11 [51])   (AC.cond (Arg.t 52)   (AC.seq (AC.reg sat_solver_run_r12 [])   AC.ret)   AC.skip))   (AC.seq (AC.reg sat_solver_run_r13 [53, 54, 55, 56, 57, 58, 59, 60, 61, 62, 63, 64, 65, 66])   (AC.seq (AC.reg sat_solver_run_r14 [67, 68, 69, 70])   (AC.cond (Arg.t 71)   (AC.seq (AC.reg sat_solver_run_r15 [])   AC.ret)   AC.skip)))))))) fr σ (seqQ (fun fr σ => ∃ m' fr' σ', m' < m ∧ Shift G 72 0 fr σ fr' σ' ∧ ruJ K N fu t R m' fr' σ') (ruE K fu t R)) := by
  obtain ⟨s, K', es, cs, ps, rest, ow, t', hlf, ht, hK, hR, hml, hi, hb, hpf, hw, f0, rfl⟩ := hJ
  obtain ⟨m, rfl⟩ : ∃ k, m = k + 1 := ⟨m - 1, by omega⟩
  rw [← hK] at f0
  have hsp := spread_inv (s.room + 1) s hi (Nat.lt_succ_self _)
  have hbn := hb.bn
  unfold S.runN at hR
  refine W_round [(0, .ptr 0 K'.s 0)] ⟨f0, trivial⟩  1000 ?_
  simp -implicitDefEqProofs (disch := omega) only [go_sem, ↓reduceIte, reduceCtorEq, sat_solver_run_r1, sat_solver_run_r2, sat_solver_run_r3, sat_solver_run_r4, sat_solver_run_r5, sat_solver_run_r6, sat_solver_run_r7, sat_solver_run_r8, sat_solver_run_r9, sat_solver_run_r10, sat_solver_run_r11, sat_solver_run_r12, sat_solver_run_r13, sat_solver_run_r14, sat_solver_run_r15]
  refine call hT t_sat_solver_spread (c_spread (K := K') hT hi hb hw) 1000 fun v σ hv => ?_
  unfold S.round at hR
  unfold S.spread at hv hR
  generalize S.spreadN (s.room + 1) s = r0 at hv hR hsp
  match r0, hv, hR, hsp with
  | none, hv, hR, _ =>
    obtain ⟨⟨n, rfl⟩, s', hcan⟩ := hv
    simp -implicitDefEqProofs (disch := omega) only [go_sem, ↓reduceIte, reduceCtorEq, Nat.reduceAdd, Nat.reduceEqDiff, Nat.reduceLT, Nat.zero_add]
    simp only at hR
    subst hR
    exact ⟨rfl, rfl, _, hcan.cap hpf hK ht⟩
  | some (s1, some n), hv, hR, hsp =>
    obtain ⟨rfl, K1, es1, cs1, rest1, ow1, t1, ht1, hK1, hw1, rfl⟩ := hv
    obtain ⟨hi1, hx1, c, hc, hf, y, hy, hyl⟩ := hsp
    have hge : decide (0 ≤ (n : Int)) = true := decide_eq_true (by omega)
    have hgep : (0 ≤ (n : Int)) = True := eq_true (by omega)
    have hpf1 : PfOk ps s1.pf := by rw [hx1.pf]; exact hpf
    have hxl := hx1.le
    have hxc := hx1.len
    have hxp := hx1.pf
    have hb1 : Bd fu N s1 := ⟨hb.bn, hb.bf, Nat.le_trans hx1.le hb.lf, by have := hb.cl; omega, by rw [hxp]; have := hb.pf; omega, fun v => by rw [hx1.he]; have := hb.he v; omega⟩
    have hps : ps.length ≤ 8388608 := by rw [hpf.1]; have := hb.pf; omega
    simp only at hR
    by_cases g1 : s1.ms.length = 0
    · rw [if_pos g1] at hR
      have g1' : ((s1.ms.length : Int) == 0) = true := beq_iff_eq.2 (by omega)
      have g1p : ((s1.ms.length : Int) = 0) = True := eq_true (by omega)
      rw [← hK1]
      simp -implicitDefEqProofs (disch := omega) only [go_sem, need_of, ↓reduceIte, reduceCtorEq, Nat.reduceAdd, Nat.reduceEqDiff, Nat.reduceLeDiff, Nat.reduceLT, Nat.zero_add, Nat.mul_one, decide_true, Bool.not_true, Bool.not_false, Nat.le_refl, Nat.zero_le, ge_iff_le, hp, sc, hgep, g1', true_implies, true_and, and_true]
      simp only at hR
      subst hR
      exact ⟨rfl, rfl, ps ++ [.lst 0 [] true], hpf1.snoc (p := []) (.inl rfl), { K1 with p := t1 }, es1, cs1, rest1, ow1, t1 + 1, by omega, hK1.trans hK, ⟨hw1.len, hw1.cl, hw1.wt⟩, by simp [hp, sc]⟩
    · rw [if_neg g1] at hR
      have g1' : ((s1.ms.length : Int) == 0) = false := beq_eq_false_iff_ne.2 (by omega)
      have g1p : ((s1.ms.length : Int) = 0) = False := eq_false (by omega)
      rw [← hK1]
      simp -implicitDefEqProofs (disch := omega) only [go_sem, ↓reduceIte, reduceCtorEq, Nat.reduceAdd, Nat.reduceEqDiff, Nat.reduceLeDiff, Nat.reduceLT, Nat.zero_add, decide_true, ge_iff_le, hp, sc, hgep, g1', true_implies, and_true]
      unfold S.burn at hR
      by_cases g2 : s1.lf = 0
      · rw [if_pos g2] at hR
        simp only at hR
        subst hR
        refine call hT t_sat_solver_burn (c_burn0 (s := s1) (K := K1) (fu := fu) (t := t1) (es := es1) (cs := cs1) (ps := ps) (rest := rest1) hT g2) 1000 fun v σ hv => ?_
        obtain ⟨rfl, rfl⟩ := hv
        simp -implicitDefEqProofs (disch := omega) only [go_sem, ↓reduceIte, reduceCtorEq, Nat.reduceEqDiff, Bool.not_false]
        exact ⟨rfl, rfl, s1, ps, hpf1, K1, es1, cs1, rest1, ow1, t1, by omega, hK1.trans hK, hw1, rfl⟩
      · rw [if_neg g2] at hR
        simp only at hR
        refine call hT t_sat_solver_burn (c_burn (s := s1) (K := K1) (fu := fu) (t := t1) (es := es1) (cs := cs1) (ps := ps) (rest := rest1) hT hb1 g2) 1000 fun v σ hv => ?_
        obtain ⟨rfl, rfl⟩ := hv
        have hib := hi1.fuel (s1.lf - 1)
        have hbb : Bd fu N { s1 with lf := s1.lf - 1 } := ⟨hb1.bn, hb1.bf, by have := hb1.lf; show s1.lf - 1 ≤ fu; omega, by have := hb1.cl; show s1.cl.length + (s1.lf - 1) ≤ _; omega, by have := hb1.pf; show s1.pf.length + (s1.lf - 1) ≤ _; omega, fun v => by have := hb1.he v; show s1.he.getD v 0 + (s1.lf - 1) ≤ _; omega⟩
        obtain ⟨d, level, he, e, hta⟩ := learn_inv hib (Nat.pos_of_ne_zero g1) hc hf hy hyl
        rw [e] at hR
        simp only at hR
        simp -implicitDefEqProofs (disch := omega) only [go_sem, ↓reduceIte, reduceCtorEq, Nat.reduceAdd, Nat.reduceEqDiff, Bool.not_true]
        refine call hT t_sat_solver_learn (c_learn (s := { s1 with lf := s1.lf - 1 }) (K := K1) (fu := fu) (t := t1) (es := es1) (cs := cs1) (ps := ps) (rest := rest1) (ow := ow1) hT hib hbb ⟨hw1.len, hw1.cl, hw1.wt⟩ (Nat.pos_of_ne_zero g1) hc hf hy hyl e) 1000 fun v σ hv => ?_
        obtain ⟨k, wo, t2, r2, ow2, ht2, rfl, hw2, hr2, ho2, rfl⟩ := hv
        simp -implicitDefEqProofs (disch := omega) only [go_sem, ↓reduceIte, reduceCtorEq, Nat.reduceAdd, Nat.reduceEqDiff, Nat.reduceLT, Nat.zero_add]
        have hih := hib.heat hta.hlen
        have hta' : Taught N { s1 with lf := s1.lf - 1, he := he } d level he := ⟨hta.head, hta.lt, hta.ok, hta.hlen, fun v => Nat.le_succ _⟩
        have hbh : Bd fu N { s1 with lf := s1.lf - 1, he := he } := ⟨hbb.bn, hbb.bf, hbb.lf, hbb.cl, hbb.pf, fun v => by
          have h1 := hb1.he v
          have h2 := hta.heat v
          show he.getD v 0 + (s1.lf - 1) ≤ _
          replace h2 : he.getD v 0 ≤ s1.he.getD v 0 + 1 := h2
          omega⟩
        refine call hT t_sat_solver_teach (c_teach (s := { s1 with lf := s1.lf - 1, he := he }) (K := K1) (fu := fu) (t := t2) (es := es1) (cs := cs1) (ps := ps) (r := r2) (ow := ow2) (k := k) (wo := wo) hT hih hbh ⟨hw2.len, hw2.cl, hw2.wt⟩ hta' hpf1 (by have := hb1.pf; show s1.pf.length + 1 + (s1.lf - 1) ≤ _; omega) (by have := hb1.cl; show s1.cl.length + 1 + (s1.lf - 1) ≤ _; omega) hr2 ho2) 1000 fun v σ hv => ?_
        cases hte : S.teach { s1 with lf := s1.lf - 1, he := he } d level with
        | none =>
          rw [hte] at hv hR
          obtain ⟨rfl, s', hcap⟩ := hv
          simp only [Option.map_none] at hR
          subst hR
          simp -implicitDefEqProofs (disch := omega) only [go_sem, ↓reduceIte, reduceCtorEq, Nat.reduceAdd, Nat.reduceEqDiff, Bool.not_false]
          exact ⟨rfl, rfl, s', hcap.mono (hK1.trans hK) (by omega)⟩
        | some s2 =>
          rw [hte] at hv hR
          obtain ⟨rfl, ps2, hps2, K2, es2, cs2, r3, ow3, t3, ht3, hK2, hw3, rfl⟩ := hv
          simp only [Option.map_some] at hR
          obtain ⟨hi2, hlf2⟩ := teach_inv hih hta' hte
          obtain ⟨z1, z2, z3, z4, z5⟩ := teach_size hte
          simp -implicitDefEqProofs (disch := omega) only [go_sem, ↓reduceIte, reduceCtorEq, Nat.reduceAdd, Nat.reduceEqDiff, Bool.not_true]
          refine ⟨m, _, _, Nat.lt_succ_self _, Shift.refl _ _ _ _, s2, K2, es2, cs2, ps2, r3, ow3, t3, ?_, by omega, hK2.trans (hK1.trans hK), hR, ?_, hi2, ?_, hps2, hw3, ?_, rfl⟩
          · replace hlf2 : s2.lf + 1 = s1.lf - 1 := hlf2
            omega
          · replace hlf2 : s2.lf + 1 = s1.lf - 1 := hlf2
            replace z5 : s2.ms.length ≤ s1.ms.length := z5
            rw [hx1.ms] at z5
            omega
          · replace hlf2 : s2.lf + 1 = s1.lf - 1 := hlf2
            refine ⟨hb1.bn, hb1.bf, by have := hb1.lf; omega, ?_, ?_, fun v => ?_⟩
            · have := hb1.cl
              replace z2 : s2.cl.length ≤ s1.cl.length + 1 := z2
              omega
            · have := hb1.pf
              replace z1 : s2.pf.length = s1.pf.length + 1 := z1
              omega
            · rw [z3]
              have h1 := hbh.he v
              replace h1 : he.getD v 0 + (s1.lf - 1) ≤ 8388608 := h1
              show he.getD v 0 + s2.lf ≤ _
              omega
          · rw [← hK1] at hK; rw [← hK]; rfl
  | some (s1, none), hv, hR, hsp =>
    obtain ⟨rfl, K1, es1, cs1, rest1, ow1, t1, ht1, hK1, hw1, rfl⟩ := hv
    obtain ⟨hi1, hx1, hdn⟩ := hsp
    have hpf1 : PfOk ps s1.pf := by rw [hx1.pf]; exact hpf
    have hxl := hx1.le
    have hxc := hx1.len
    have hxp := hx1.pf
    have hb1 : Bd fu N s1 := ⟨hb.bn, hb.bf, Nat.le_trans hx1.le hb.lf, by have := hb.cl; omega, by rw [hxp]; have := hb.pf; omega, fun v => by rw [hx1.he]; have := hb.he v; omega⟩
    have hm1 : decide ((0 : Int) ≤ -1) = false := by decide
    have hm1p : ((0 : Int) ≤ -1) = False := by simp
    simp only at hR
    rw [← hK1]
    simp -implicitDefEqProofs (disch := omega) only [go_sem, ↓reduceIte, reduceCtorEq, Nat.reduceAdd, Nat.reduceEqDiff, Nat.reduceLT, Nat.zero_add, decide_false, ge_iff_le, hp, sc, hm1p]
    refine call hT t_sat_solver_pick (c_pick (s := s1) (K := K1) (fu := fu) (t := t1) (es := es1) (cs := cs1) (ps := ps) (rest := rest1) hT hi1 hb1) 1000 fun v σ hv => ?_
    obtain ⟨rfl, rfl⟩ := hv
    have htl := okc_len hi1.tro
    by_cases g1 : s1.pick = 0
    · rw [if_pos g1] at hR
      simp only at hR
      subst hR
      have g1' : ((s1.pick : Int) == 0) = true := beq_iff_eq.2 (by omega)
      simp -implicitDefEqProofs (disch := omega) only [go_sem, ↓reduceIte, reduceCtorEq, Nat.reduceEqDiff, g1']
      exact ⟨rfl, rfl, ps, hpf1, K1, es1, cs1, rest1, ow1, t1, by omega, hK1.trans hK, hw1, rfl⟩
    · rw [if_neg g1] at hR
      have g1' : ((s1.pick : Int) == 0) = false := beq_eq_false_iff_ne.2 (by omega)
      obtain ⟨p1, p2, p3⟩ := pick_ok.resolve_left g1
      have hpN : s1.pick < N := by rw [← hi1.nva]; exact p2
      have hneg : IntKind.i64.wrap (0 - (s1.pick : Int)) = -(s1.pick : Int) := by
        rw [wneg64 (by omega)]; unfold neg; rw [if_neg (by omega)]
      have hmsl : s1.ms.length ≤ 8388608 := by rw [hx1.ms]; omega
      have hd := hi1.decide hdn
      have hz : s1.is (s1.pick : Int) = 0 := by unfold S.is; rw [if_neg (by omega)]; simpa using p3
      rw [hi1.is_zero] at hz
      simp -implicitDefEqProofs (disch := omega) only [go_sem, need_of, ↓reduceIte, reduceCtorEq, Nat.reduceAdd, Nat.reduceEqDiff, Nat.reduceLeDiff, Nat.zero_add, Nat.mul_one, Bool.not_true, Bool.not_false, Nat.le_refl, Nat.zero_le, hp, sc, nts_length, g1', hneg, nts_snoc]
      refine CV_heap (σ' := hp { K1 with k := t1 } { s1 with ms := s1.ms ++ [s1.tr.length] } fu (t1 + 1) es1 cs1 ps rest1) (by simp [hp, sc]) ?_
      have hbd : Bd fu N { s1 with ms := s1.ms ++ [s1.tr.length] } := ⟨hb1.bn, hb1.bf, hb1.lf, hb1.cl, hb1.pf, hb1.he⟩
      cases hse : S.set { s1 with ms := s1.ms ++ [s1.tr.length] } (-(s1.pick : Int)) (-1) with
      | none =>
        rw [hse] at hR
        simp only [Option.map_none] at hR
        subst hR
        have h0 : s1.lf = 0 := by
          unfold S.set at hse
          by_cases q : ({ s1 with ms := s1.ms ++ [s1.tr.length] } : S).lf = 0
          · exact q
          · rw [if_neg q] at hse; cases hse
        refine call hT t_sat_solver_set (c_set0 (s := { s1 with ms := s1.ms ++ [s1.tr.length] }) (K := { K1 with k := t1 }) (fu := fu) (t := t1 + 1) (es := es1) (cs := cs1) (ps := ps) (rest := rest1) hT h0 _ _) 1000 fun v σ hv => ?_
        obtain ⟨rfl, rfl⟩ := hv
        simp -implicitDefEqProofs (disch := omega) only [go_sem, ↓reduceIte, reduceCtorEq, Nat.reduceEqDiff, Bool.not_false]
        exact ⟨rfl, rfl, { s1 with ms := s1.ms ++ [s1.tr.length] }, ps, hpf1, { K1 with k := t1 }, es1, cs1, rest1, ow1, t1 + 1, by omega, hK1.trans hK, ⟨hw1.len, hw1.cl, hw1.wt⟩, rfl⟩
      | some s2 =>
        rw [hse] at hR
        simp only [Option.map_some] at hR
        have hpn : (-(s1.pick : Int)).natAbs = s1.pick := by omega
        refine call hT t_sat_solver_set (c_set (N := N) (s := { s1 with ms := s1.ms ++ [s1.tr.length] }) (s' := s2) (K := { K1 with k := t1 }) (fu := fu) (t := t1 + 1) (es := es1) (cs := cs1) (ps := ps) (rest := rest1) hT hbd hse (by rw [hpn]; exact p2) (by rw [hpn]; show _ < s1.lv.length; rw [hi1.nlv]; exact hpN) (by rw [hpn]; show _ < s1.re.length; rw [hi1.nre]; exact hpN) (by show s1.va.length ≤ _; rw [hi1.nva]; exact hbn.2) (by show s1.tr.length ≤ _; omega)) 1000 fun v σ hv => ?_
        obtain ⟨rfl, w2, t2, ht2, rfl⟩ := hv
        have hi2 := hd.set hse (by omega) (by rw [hpn]; exact hpN) hz.2 (by rw [Int.neg_neg]; exact hz.1) (.inr (.inl (by simp)))
        obtain ⟨hl0, hs2⟩ := S.set_some hse
        replace hl0 : s1.lf ≠ 0 := hl0
        simp -implicitDefEqProofs (disch := omega) only [go_sem, ↓reduceIte, reduceCtorEq, Nat.reduceEqDiff, Bool.not_true]
        refine ⟨m, _, _, Nat.lt_succ_self _, Shift.refl _ _ _ _, s2, { K1 with k := t1, t := w2 }, es1, cs1, ps, rest1, ow1, t2, ?_, by omega, hK1.trans hK, hR, ?_, hi2, ?_, by rw [hs2]; exact hpf1, by rw [hs2]; exact ⟨hw1.len, hw1.cl, hw1.wt⟩, ?_, rfl⟩
        · rw [hs2]; show s1.lf - 1 < m; omega
        · rw [hs2]; show (s1.ms ++ [s1.tr.length]).length + (s1.lf - 1) ≤ _; rw [List.length_append, hx1.ms]; simp only [List.length_singleton]; omega
        · rw [hs2]
          exact ⟨hb1.bn, hb1.bf, by show s1.lf - 1 ≤ fu; have := hb1.lf; omega, by show s1.cl.length + (s1.lf - 1) ≤ _; have := hb1.cl; omega, by show s1.pf.length + (s1.lf - 1) ≤ _; have := hb1.pf; omega, fun v => by show s1.he.getD v 0 + (s1.lf - 1) ≤ _; have := hb1.he v; omega⟩
        · rw [← hK1] at hK; rw [← hK]; rfl

theorem c_run (hT : TabOk Try.prog tab) {N fu t : Nat} {K : Vs} {s : S} {es : List (Int × V)} {cs ps : List V} {rest : List (Option Ob)} {ow : Nat → Own} (hi : Inv N s) (hb : Bd fu N s) (hml : s.ms.length + s.lf ≤ 8388608) (hpf : PfOk ps s.pf) (hw : RW s es cs rest ow) :
    C Try.prog G 0 n_sat_solver_run [.ptr 0 K.s 0] (hp K s fu t es cs ps rest) fun v σ => RunQ K fu t s.run v σ := by
  refine C_tab hT t_sat_solver_run (by simp [sat_solver_run]) (W_run 1000 ?_)
  simp -implicitDefEqProofs (disch := omega) only [go_sem, ↓reduceIte, reduceCtorEq, sat_solver_run, sat_solver_run_r0, sat_solver_run_r1, sat_solver_run_r2, sat_solver_run_r3, sat_solver_run_r4, sat_solver_run_r5, sat_solver_run_r6, sat_solver_run_r7, sat_solver_run_r8, sat_solver_run_r9, sat_solver_run_r10, sat_solver_run_r11, sat_solver_run_r12, sat_solver_run_r13, sat_solver_run_r14, sat_solver_run_r15]
  refine sem_invE (ruJ K N fu t s.run) (ruE K fu t s.run) (m0 := s.lf + 1) ⟨s, K, es, cs, ps, rest, ow, t, Nat.lt_succ_self _, Nat.le_refl _, rfl, rfl, hml, hi, hb, hpf, hw, rfl, rfl⟩ (fun m fr σ hJ => ru_round hT hJ) (fun e fr σ hE => ?_)
  obtain ⟨rfl, hq⟩ := hE
  refine run_sem 1000 ?_
  simp -implicitDefEqProofs (disch := omega) only [go_sem]
  exact hq
end Go.Proofs.Ytpepmhmgfpkdmaa

