/- Contracts: a clause is visited (the whole). -/
import Derived.Test.YtpepmhmgfpkdmaaSw5
namespace Go.Proofs.Ytpepmhmgfpkdmaa
open Go Go.Am Go.Cl Go.Sat
set_option maxRecDepth 100000
variable {P : Program} {G : Nat → Option V}

abbrev vtJ (K : Vs) (N fu t n j w : Nat) (l : Int) (s : S) (d : List Int) (es : List (Int × V)) (cs ps : List V) (rest : List (Option Ob)) (ow : Nat → Own) : Fr → H → Prop := fun fr σ =>
  ∃ rest1, rest1.length = rest.length ∧ At N n l (s.put n d) d cs rest1 ow j w ∧ RW (s.put n d) es cs rest1 ow ∧ Fm l rest rest1 ow ow ∧
    fget fr 0 = .ptr 0 K.s 0 ∧ fget fr 1 = .int .i64 (n : Int) ∧ fget fr 9 = .sl (j + 10) w 0 1 d.length none ∧ σ = hp K s fu t es cs ps rest1

theorem okc_len {N : Nat} {c : List Int} (h : Okc N c) : c.length ≤ N := by
  have := nodup_lt (n := N) h.2 fun x hx => by
    obtain ⟨y, hy, rfl⟩ := List.mem_map.1 hx
    exact (h.1 y hy).2
  simpa using this

theorem c_visit (hT : TabOk P tab) {N fu t n : Nat} {K : Vs} {s : S} {es : List (Int × V)} {cs ps : List V} {rest : List (Option Ob)} {ow : Nat → Own} {l : Int} {W0 : List Nat} (hi : Inv N (s.sub l W0)) (hnW : n ∈ W0) (hb : Bd fu N s) (hw : RW s es cs rest ow) (hwl : ∀ x, x ≠ l → (s.wt x).length ≤ 8388608) :
    C P G 0 n_sat_solver_visit [.ptr 0 K.s 0, .int .i64 (n : Int), .int .i64 l] (hp K s fu t es cs ps rest) fun v σ => VisQ K fu t ps l rest ow (s.visit n l) v σ := by
  obtain ⟨c, hc, htwo⟩ := ((hi.wat l).2 n).1 (by rw [sub_wt, if_pos rfl]; exact hnW)
  replace hc : s.cl[n]? = some c := hc
  have hcok := hi.cls c (List.mem_of_getElem? hc)
  have hcD : s.cl.getD n [] = c := getD_some hc
  have hnl := (List.getElem?_eq_some_iff.1 hc).1
  have hbn := hb.bn
  have hcl := hb.cl
  obtain ⟨j, w, hrow, hcell, hown⟩ := hw.cl n c hc
  have hjl := (List.getElem?_eq_some_iff.1 hcell).1
  unfold S.visit
  rw [hcD]
  generalize hd : turn c l = d
  have hper : d.Perm c := hd ▸ turn_perm hcok.1 l
  have hdok : Okc N d := hcok.2.perm hper
  have hd1 : d[1]? = some l := hd ▸ turn_one hcok.1 htwo
  have hdlen : d.length = c.length := hper.length_eq
  have hclen := okc_len hcok.2
  have hrowD : cs.getD n V.any = .sl (j + 10) w 0 1 c.length none := getD_some hrow
  have hncs : n < cs.length := by rw [hw.len]; exact hnl
  have hC0 := ints_getD' (l := c) (i := 0) (by omega)
  have hC1 := ints_getD' (l := c) (i := 1) (by omega)
  have hc1 : 1 < c.length := by omega
  have hc0 : 0 < c.length := by omega
  have hlt2 : 1 < (c.set 0 (c.getD 1 0)).length := by simpa using hc1
  have hat : ∀ r, rest.set j (some (.arr w 3 (ints d))) = r → At N n l (s.put n d) d cs r ow j w := fun r hr =>
    ⟨hi.nva, hi.nlv, hi.nre, fun v => Tri.of hi v, hdok, by omega, by omega, hd1, by show n < (s.cl.set n d).length; simpa using hnl, by rw [hdlen]; exact hrow, by rw [← hr, List.getElem?_set_self hjl], hown, hwl⟩
  refine C_tab hT t_sat_solver_visit (by simp [sat_solver_visit]) (W_run 18 ?_)
  simp -implicitDefEqProofs (disch := omega) only [go_sem, need_of, ↓reduceIte, reduceCtorEq, Nat.reduceAdd, Nat.reduceEqDiff, Nat.reduceLeDiff, Nat.zero_add, Nat.add_zero, Nat.mul_one, sat_solver_visit, sat_solver_visit_r0, sat_solver_visit_r1, sat_solver_visit_r2, sat_solver_visit_r3, sat_solver_visit_r4, sat_solver_visit_r5, sat_solver_visit_r6, sat_solver_visit_r7, sat_solver_visit_r8, sat_solver_visit_r9, sat_solver_visit_r10, sat_solver_visit_r11, sat_solver_visit_r12, sat_solver_visit_r13, sat_solver_visit_r14, sat_solver_visit_r15, hp, sc, Int.toNat_natCast, hncs, hrowD]
  refine cut (vtJ K N fu t n j w l s d es cs ps rest ow) (W_run 1000 ?_) fun fr σ hJ => ?_
  · by_cases g : c.getD 0 0 = l
    · have g' : (c.getD 0 0 == l) = true := beq_iff_eq.2 g
      have hdd : d = (c.set 0 (c.getD 1 0)).set 1 (c.getD 0 0) := by rw [← hd]; unfold turn; rw [if_pos g]; rfl
      have hput := hw.putc (d := d) hc hdlen hrow hcell hown
      simp -implicitDefEqProofs (disch := omega) only [go_sem, need_of, ↓reduceIte, reduceCtorEq, Nat.reduceAdd, Nat.reduceEqDiff, Int.reduceToNat, Int.reduceLE, Nat.zero_add, Nat.add_zero, Nat.mul_one, Bool.not_false, Nat.zero_le, ints_length, hcell, hC0, hC1, hc0, hc1, g', ints_put0, ints_put, List.length_set, List.getElem?_set_self, List.set_set]
      rw [hdd] at hput
      exact ⟨_, by simp, hat _ (by rw [hdd]), by rw [hdd]; exact hput, (Fm.refl l rest ow).set (by rw [hown]; exact fun e => by cases e) (by rw [hown]; exact fun e => by cases e), rfl, rfl, by rw [hdlen]; rfl, rfl⟩
    · have g' : (c.getD 0 0 == l) = false := beq_eq_false_iff_ne.2 g
      have hdd : d = c := by rw [← hd]; unfold turn; rw [if_neg g]
      have hput := hw.putc (d := d) hc hdlen hrow hcell hown
      have hself : rest.set j (some (.arr w 3 (ints d))) = rest := set_self (by rw [hdd]; exact hcell)
      rw [hself] at hput
      simp -implicitDefEqProofs (disch := omega) only [go_sem, need_of, ↓reduceIte, reduceCtorEq, Nat.reduceEqDiff, Int.reduceToNat, Int.reduceLE, Nat.zero_add, Nat.add_zero, Nat.mul_one, ints_length, hcell, hC0, hc0, g']
      exact ⟨rest, rfl, hat _ hself, hput, Fm.refl _ _ _, rfl, rfl, by rw [hdlen]; rfl, rfl⟩
  · obtain ⟨rest1, hrl, ha, hw1, hf1, f0, f1, f9, rfl⟩ := hJ
    have hcell1 := ha.cell
    have hbl := ha.bl
    have hdl := ha.len
    have hD0 := ints_getD' (l := d) (i := 0) (by omega)
    have hd0 : d[0]? = some (d.getD 0 0) := some_getD (by omega)
    have hd0N := hdok.1 _ (List.mem_of_getElem? hd0)
    have hdl0 : 0 < d.length := by omega
    generalize hx : d.getD 0 0 = x at *
    have hisC : ∀ base, C P G base n_sat_solver_is [.ptr 0 K.s 0, .int .i64 x] (hp K (s.put n d) fu t es cs ps rest1) fun v σ => v = .int .i8 (s.is x) ∧ σ = hp K (s.put n d) fu t es cs ps rest1 :=
      fun base => c_is (s := s.put n d) hT (by show x.natAbs < s.va.length; rw [show s.va.length = N from hi.nva]; exact hd0N.2) (by show s.va.length ≤ _; rw [show s.va.length = N from hi.nva]; omega) (Tri.of hi _)
    unfold S.visD
    rw [hx]
    refine W_round [(0, .ptr 0 K.s 0), (1, .int .i64 (n : Int)), (9, .sl (j + 10) w 0 1 d.length none)] ⟨f0, f1, f9, trivial⟩  1000 ?_
    simp -implicitDefEqProofs (disch := omega) only [go_sem, need_of, ↓reduceIte, reduceCtorEq, Nat.reduceEqDiff, Int.reduceToNat, Int.reduceLE, Nat.zero_add, Nat.add_zero, Nat.mul_one, hp, sc, ints_length, hcell1, hD0, hdl0]
    refine call hT t_sat_solver_is (hisC _) 1000 fun v σ hv => ?_
    obtain ⟨rfl, rfl⟩ := hv
    by_cases g1 : s.is x = 1
    · have g1' : (s.is x == 1) = true := beq_iff_eq.2 g1
      rw [if_pos g1]
      simp -implicitDefEqProofs (disch := omega) only [go_sem, ↓reduceIte, reduceCtorEq, Nat.reduceEqDiff, hp, sc, g1']
      exact ⟨rfl, Left.of hw1 hf1⟩
    · have g1' : (s.is x == 1) = false := beq_eq_false_iff_ne.2 g1
      rw [if_neg g1]
      simp -implicitDefEqProofs (disch := omega) only [go_sem, ↓reduceIte, reduceCtorEq, Nat.reduceEqDiff, hp, sc, g1']
      refine sem_invE (viJ K fu t n j w ps (s.put n d) d es cs rest1) (viE K fu t n j w ps l (s.put n d) d es cs rest rest1 ow) (m0 := d.length - 2)
        ⟨2, Nat.le_refl _, by omega, rfl, fun i y h1 h2 _ => by omega, rfl, rfl, rfl, rfl, rfl⟩ (fun m fr σ hJ => vis_round hT hbn.2 ha hw1 (by show (s.cl.set n d)[n]? = some d; rw [List.getElem?_set_self hnl]) hf1 hrl.symm (by omega) hJ) (fun e fr σ hE => ?_)
      have hfnd : (s.put n d).find d 2 = s.find d 2 := rfl
      rcases hE with ⟨rfl, f6, f7, f8, k, hk, hL⟩ | ⟨rfl, hk, f0, f1, f9, rfl⟩
      · refine run_sem 1000 ?_
        simp -implicitDefEqProofs (disch := omega) only [go_sem]
        rw [← hfnd, hk]
        exact ⟨by rw [f6, f7, f8]; rfl, hL⟩
      · rw [← hfnd, hk]
        refine sem_exit [(0, .ptr 0 K.s 0), (1, .int .i64 (n : Int)), (9, .sl (j + 10) w 0 1 d.length none)] ⟨f0, f1, f9, trivial⟩  1000 ?_
        simp -implicitDefEqProofs (disch := omega) only [go_sem, need_of, ↓reduceIte, reduceCtorEq, Nat.reduceEqDiff, Int.reduceToNat, Int.reduceLE, Nat.zero_add, Nat.add_zero, Nat.mul_one, hp, sc, ints_length, hcell1, hD0, hdl0]
        refine call hT t_sat_solver_is (hisC _) 1000 fun v σ hv => ?_
        obtain ⟨rfl, rfl⟩ := hv
        by_cases g2 : s.is x = -1
        · have g2' : (s.is x == -1) = true := beq_iff_eq.2 g2
          simp -implicitDefEqProofs (disch := omega) only [go_sem, ↓reduceIte, reduceCtorEq, Nat.reduceEqDiff, hp, sc, g2']
          simp only [if_pos g2]
          exact ⟨rfl, Left.of hw1 hf1⟩
        · have g2' : (s.is x == -1) = false := beq_eq_false_iff_ne.2 g2
          simp only [if_neg g2]
          simp -implicitDefEqProofs (disch := omega) only [go_sem, need_of, ↓reduceIte, reduceCtorEq, Nat.reduceEqDiff, Int.reduceToNat, Int.reduceLE, Nat.zero_add, Nat.add_zero, Nat.mul_one, hp, sc, ints_length, g2', hcell1, hD0, hdl0]
          have hbp : Bd fu N (s.put n d) := ⟨hb.bn, hb.bf, hb.lf, by show (s.cl.set n d).length + s.lf ≤ _; rw [List.length_set]; exact hb.cl, hb.pf, hb.he⟩
          cases hs : (s.put n d).set x n with
          | none =>
            have h0 : (s.put n d).lf = 0 := by
              unfold S.set at hs
              by_cases q : (s.put n d).lf = 0
              · exact q
              · rw [if_neg q] at hs; cases hs
            refine call hT t_sat_solver_set (c_set0 (s := s.put n d) (K := K) (fu := fu) (es := es) (cs := cs) (ps := ps) (rest := rest1) hT h0 x n) 1000 fun v σ hv => ?_
            obtain ⟨rfl, rfl⟩ := hv
            simp -implicitDefEqProofs (disch := omega) only [go_sem, ↓reduceIte, reduceCtorEq, Nat.reduceEqDiff, Bool.not_false]
            exact ⟨rfl, s.put n d, Left.of hw1 hf1⟩
          | some s' =>
            have htr := okc_len hi.tro
            have hNN : (s.put n d).va.length ≤ 1000 := by rw [show (s.put n d).va.length = N from hi.nva]; omega
            refine call hT t_sat_solver_set (c_set (s := s.put n d) (s' := s') (K := K) (fu := fu) (es := es) (cs := cs) (ps := ps) (rest := rest1) hT hbp hs (by rw [show (s.put n d).va.length = N from hi.nva]; exact hd0N.2) (by rw [show (s.put n d).lv.length = N from hi.nlv]; exact hd0N.2) (by rw [show (s.put n d).re.length = N from hi.nre]; exact hd0N.2) hNN (by have : s.tr.length ≤ N := htr; show s.tr.length ≤ _; omega)) 1000 fun v σ hv => ?_
            obtain ⟨rfl, w2, t2, ht2, rfl⟩ := hv
            simp -implicitDefEqProofs (disch := omega) only [go_sem, ↓reduceIte, reduceCtorEq, Nat.reduceEqDiff, Bool.not_true]
            obtain ⟨_, e'⟩ := S.set_some hs
            refine ⟨rfl, w2, es, cs, rest1, ow, t2, ht2, ?_, hf1, rfl⟩
            rw [e']
            exact ⟨hw1.len, hw1.cl, hw1.wt⟩
end Go.Proofs.Ytpepmhmgfpkdmaa

