/- Contracts: what follows is looked at. -/
import Derived.Test.YtpepmhmgfpkdmaaSw7
namespace Go.Proofs.Ytpepmhmgfpkdmaa
open Go Go.Am Go.Cl Go.Sat
set_option maxRecDepth 100000
variable {P : Program} {G : Nat → Option V}

abbrev soJ (K : Vs) (N fu t : Nat) (ps : List V) (R : Option (S × Option Nat)) : Nat → Fr → H → Prop := fun m fr σ =>
  ∃ s K' es cs rest ow t', s.room < m ∧ t ≤ t' ∧ K'.s = K.s ∧ S.spreadN m s = R ∧ Inv N s ∧ Bd fu N s ∧ RW s es cs rest ow ∧ fget fr 0 = .ptr 0 K.s 0 ∧ σ = hp K' s fu t' es cs ps rest
abbrev soE (K : Vs) (fu t : Nat) (ps : List V) (R : Option (S × Option Nat)) : AE → Fr → H → Prop := fun e fr σ =>
  (e = .ret ∧ ((R = none ∧ (∃ n, fget fr 2 = .int .i64 n) ∧ fget fr 3 = .bool true ∧ ∃ s, Can K fu t ps s σ) ∨ ∃ (s : S) (n : Nat), R = some (s, some n) ∧ fget fr 2 = .int .i64 (n : Int) ∧ fget fr 3 = .bool false ∧ Can K fu t ps s σ)) ∨
  (e = .ex 0 ∧ ∃ s, R = some (s, none) ∧ Can K fu t ps s σ)

theorem sp_step {s s1 : S} {l : Int} {m : Nat} (hl : s.tr[s.dn]? = some l) (hp : S.pass (-l) [] (s.wt (-l)) { s with dn := s.dn + 1 } = some (s1, none)) (hm : s.room < m + 1) : s1.room < m := by
  have hx := pass_ext _ _ _ _ hp
  have b1 := hx.lf
  have b2 := hx.dn
  have b3 := hx.le
  obtain ⟨t, ht⟩ := hx.tr
  have b4 := congrArg List.length ht
  have b5 := (List.getElem?_eq_some_iff.1 hl).1
  simp only [List.length_append] at b1 b2 b3 b4
  unfold S.room at hm ⊢
  omega

theorem so_round (hT : TabOk P tab) {N fu t : Nat} {K : Vs} {ps : List V} {R : Option (S × Option Nat)} {m : Nat} {fr : Fr} {σ : H} (hJ : soJ K N fu t ps R m fr σ) :
    W P G 93 0 (AC.seq (AC.seq (AC.reg sat_solver_spread_r1 [12, 13, 14, 15, 16, 17, 18, 19, 20])   (AC.cond (Arg.t 21)   AC.skip   (AC.exit 0)))   (AC.block 1 (AC.cond (Arg.c (V.bool true))   (AC.seq (AC.reg sat_solver_spread_r2 [22, 23, 24, 25, 26, 27, 28, 29, 30, 31, 32])   (AC.seq (AC.reg sat_solver_spread_r3 [33, 34, 35, 36, 37, 38, 39])   (AC.seq (AC.reg sat_solver_spread_r4 [40, 41, 42, 43, 44, 45])   (AC.seq (AC.reg sat_solver_spread_r5 [46, 47])   (AC.seq AC.skip   (AC.seq (AC.seq (AC.reg sat_solver_spread_r6 [])   (AC.block 2 (AC.loop (AC.seq (AC.reg sat_solver_spread_r7 [])   (AC.seq (AC.cond (Arg.t 51)   AC.skip   (AC.exit 2))   (AC.seq (AC.block 3 (AC.seq (AC.reg sat_solver_spread_r8 [52, 53, 54])   (AC.seq (AC.reg sat_solver_spread_r9 [56, 57, 58, 59, 55, 60, 61, 62])   (AC.seq (AC.block 4 (AC.seq (AC.reg sat_solver_spread_r10 [64])   (AC.cond (Arg.t 63)   (AC.exit 3)   (AC.seq (AC.reg sat_solver_spread_r11 [66, 67, 68, 69])   (AC.cond (Arg.t 65)   (AC.seq (AC.reg sat_solver_spread_r12 [70, 71, 72, 73, 74, 75, 76, 77, 78, 79])   (AC.seq (AC.reg sat_solver_spread_r13 [80, 81])   AC.ret))   AC.skip)))))   (AC.reg sat_solver_spread_r14 [82, 83, 84, 85])))))   (AC.reg sat_solver_spread_r15 [86])))))))   (AC.reg sat_solver_spread_r16 [87, 88, 89, 90, 91, 92])))))))   AC.bad))) fr σ (seqQ (fun fr σ => ∃ m' fr' σ', m' < m ∧ Shift G 93 0 fr σ fr' σ' ∧ soJ K N fu t ps R m' fr' σ') (soE K fu t ps R)) := by
  obtain ⟨s, K', es, cs, rest, ow, t', hrm, ht, hK, hR, hi, hb, hw, f0, rfl⟩ := hJ
  obtain ⟨m, rfl⟩ : ∃ k, m = k + 1 := ⟨m - 1, by omega⟩
  rw [← hK] at f0
  unfold S.spreadN at hR
  have htl := okc_len hi.tro
  have hbn := hb.bn
  rcases Nat.lt_or_ge s.dn s.tr.length with hlt | hge
  · obtain ⟨l, hl⟩ : ∃ l, s.tr[s.dn]? = some l := ⟨_, List.getElem?_eq_getElem hlt⟩
    rw [hl] at hR
    have hD := ints_getD' hlt
    have hlD : s.tr.getD s.dn 0 = l := getD_some hl
    rw [hlD] at hD
    have hlN := (hi.tro.1 l (List.mem_of_getElem? hl)).2
    have hneg : IntKind.i64.wrap (0 - l) = -l := by
      rw [wneg64 (by omega)]; unfold neg; rw [if_neg (by omega)]
    have e2 := wnext hlt (by omega)
    have hlt' : (s.dn : Int) < (s.tr.length : Int) := by omega
    have h1 := hi.look hlt
    have hb1 : Bd fu N { s with dn := s.dn + 1 } := ⟨hb.bn, hb.bf, hb.lf, hb.cl, hb.pf, hb.he⟩
    have hw1 : RW { s with dn := s.dn + 1 } es cs rest ow := ⟨hw.len, hw.cl, hw.wt⟩
    have hin : Inv N (({ s with dn := s.dn + 1 } : S).sub (-l) ([] ++ (s.wt (-l)).drop 0)) := by
      rw [List.nil_append, List.drop_zero]; exact (sub_self { s with dn := s.dn + 1 } (-l)).symm ▸ h1
    have hwl : (s.wt (-l)).length ≤ 8388608 := by have := wt_len hi (-l); have := hb.cl; omega
    have hlm : - -l ∈ s.tr := by rw [Int.neg_neg]; exact List.mem_of_getElem? hl
    obtain ⟨R1, hR1⟩ : ∃ R1, S.pass (-l) [] (s.wt (-l)) { s with dn := s.dn + 1 } = R1 := ⟨_, rfl⟩
    simp only [hR1] at hR
    have hdone : ∀ i, i = (s.wt (-l)).length → ∀ fr σ, spJ K N fu t ps (-l) (s.wt (-l)) R1 i fr σ → W P G 93 0 (AC.seq (AC.reg sat_solver_spread_r7 [])   (AC.seq (AC.cond (Arg.t 51)   AC.skip   (AC.exit 2))   (AC.seq (AC.block 3 (AC.seq (AC.reg sat_solver_spread_r8 [52, 53, 54])   (AC.seq (AC.reg sat_solver_spread_r9 [56, 57, 58, 59, 55, 60, 61, 62])   (AC.seq (AC.block 4 (AC.seq (AC.reg sat_solver_spread_r10 [64])   (AC.cond (Arg.t 63)   (AC.exit 3)   (AC.seq (AC.reg sat_solver_spread_r11 [66, 67, 68, 69])   (AC.cond (Arg.t 65)   (AC.seq (AC.reg sat_solver_spread_r12 [70, 71, 72, 73, 74, 75, 76, 77, 78, 79])   (AC.seq (AC.reg sat_solver_spread_r13 [80, 81])   AC.ret))   AC.skip)))))   (AC.reg sat_solver_spread_r14 [82, 83, 84, 85])))))   (AC.reg sat_solver_spread_r15 [86])))) fr σ (seqQ (fun _ _ => False) (spE K N fu t ps (-l) R1)) := fun i hi fr σ hJ => by
      obtain ⟨s2, kp, K2, es2, cs2, rest2, ow2, t2, ht2, hK2, hR2, hi2, hl2, hb2, hw2, f0, f4, f5, f6, f48, f49, f50, rfl⟩ := hJ
      rw [hi, List.drop_length] at hR2 hi2
      rw [List.append_nil] at hi2
      rw [← hK2] at f0
      have hge' : ¬ ((i : Nat) : Int) < ((s.wt (-l)).length : Int) := by omega
      generalize hkv : fget fr 6 = kv6 at f6
      have f6' := f6
      have f6 := hkv
      refine W_round [(0, .ptr 0 K2.s 0), (4, .int .i64 (-l)), (49, .int .i64 ((s.wt (-l)).length : Int)), (50, .int .i64 (i : Int)), (6, kv6)] ⟨f0, f4, f49, f50, f6, trivial⟩  1000 ?_
      simp -implicitDefEqProofs (disch := omega) only [go_sem, ↓reduceIte, reduceCtorEq, Nat.reduceEqDiff, decide_false, sat_solver_spread_r7, sat_solver_spread_r8, sat_solver_spread_r9, sat_solver_spread_r10, sat_solver_spread_r11, sat_solver_spread_r12, sat_solver_spread_r13, sat_solver_spread_r14, sat_solver_spread_r15, hp, sc, hge']
      exact .inr ⟨rfl, s2, kp, K2, es2, cs2, rest2, ow2, t2, ht2, hK2, hR2.symm, hi2, hb2, hw2, by rw [← hK2]; rfl, rfl, f6', rfl⟩
    rcases hw.wt (-l) with ⟨hw0, hv⟩ | ⟨jo, wo, hv, hjo, hoo⟩
    · refine W_round [(0, .ptr 0 K'.s 0)] ⟨f0, trivial⟩  1000 ?_
      simp -implicitDefEqProofs (disch := omega) only [go_sem, need_of, ↓reduceIte, reduceCtorEq, Nat.reduceAdd, Nat.reduceEqDiff, Nat.reduceLeDiff, Nat.reduceSub, Int.reduceToNat, Int.reduceLE, Nat.zero_add, Nat.mul_one, decide_true, Bool.not_false, Nat.le_refl, sat_solver_spread_r1, sat_solver_spread_r2, sat_solver_spread_r3, sat_solver_spread_r4, sat_solver_spread_r5, sat_solver_spread_r6, sat_solver_spread_r7, sat_solver_spread_r8, sat_solver_spread_r9, sat_solver_spread_r10, sat_solver_spread_r11, sat_solver_spread_r12, sat_solver_spread_r13, sat_solver_spread_r14, sat_solver_spread_r15, sat_solver_spread_r16, hp, sc, ints_length, Int.toNat_natCast, mget_kv, hlt', hlt, hD, hneg, e2, hv, keysOk_kv]
      refine sem_for (s.wt (-l)) (spJ K N fu t ps (-l) (s.wt (-l)) R1) (spE K N fu t ps (-l) R1) ?_ (fun i n hn fr σ hJ => sp_round hT hwl hn hJ) hdone (fun e fr σ hE => ?_)
      · exact ⟨{ s with dn := s.dn + 1 }, [], K', es, cs, rest, ow, t', ht, hK, by rw [List.drop_zero]; exact hR1, hin, hlm, hb1, hw1, by rw [← hK]; rfl, rfl, .inl ⟨hw0, rfl⟩, .inl ⟨rfl, rfl⟩, rfl, by rw [hw0]; rfl, rfl, rfl⟩
      · rcases hE with ⟨rfl, ⟨rfl, ⟨n, f2⟩, f3, hcan⟩ | ⟨s2, n, rfl, f2, f3, hcan⟩⟩ | ⟨rfl, s2, kp, K2, es2, cs2, rest2, ow2, t2, ht2, hK2, rfl, hi2, hb2, hw2, f0, f4, f6, rfl⟩
        · refine run_sem 1000 ?_
          simp -implicitDefEqProofs (disch := omega) only [go_sem]
          exact .inl ⟨rfl, .inl ⟨hR.symm, ⟨n, f2⟩, f3, hcan⟩⟩
        · refine run_sem 1000 ?_
          simp -implicitDefEqProofs (disch := omega) only [go_sem]
          exact .inl ⟨rfl, .inr ⟨s2, n, hR.symm, f2, f3, hcan⟩⟩
        · have hst := sp_step hl hR1 hrm
          rw [← hK2] at f0
          rcases f6 with ⟨rfl, f6⟩ | ⟨jk, wk, f6, hjk, hok⟩
          · refine sem_exit [(0, .ptr 0 K2.s 0), (4, .int .i64 (-l)), (6, .lst 0 [] true)] ⟨f0, f4, f6, trivial⟩  1000 ?_
            simp -implicitDefEqProofs (disch := omega) only [go_sem, ↓reduceIte, reduceCtorEq, Nat.reduceAdd, Nat.reduceEqDiff, Nat.reduceLeDiff, Nat.zero_add, Bool.not_false, Nat.zero_le, hp, sc, mput_kv, keysOk_kv]
            exact ⟨m, _, _, Nat.lt_succ_self _, Shift.refl _ _ _ _, s2.sub (-l) [], K2, _, cs2, rest2, ow2, t2, hst, ht2, hK2, hR, hi2, ⟨hb2.bn, hb2.bf, hb2.lf, hb2.cl, hb2.pf, hb2.he⟩, hw2.nil (-l), by rw [← hK2]; rfl, rfl⟩
          · refine sem_exit [(0, .ptr 0 K2.s 0), (4, .int .i64 (-l)), (6, .sl (jk + 10) wk 0 1 kp.length none)] ⟨f0, f4, f6, trivial⟩  1000 ?_
            simp -implicitDefEqProofs (disch := omega) only [go_sem, ↓reduceIte, reduceCtorEq, Nat.reduceAdd, Nat.reduceEqDiff, Nat.reduceLeDiff, Nat.zero_add, Bool.not_false, Nat.zero_le, hp, sc, mput_kv, keysOk_kv]
            have hjkl := (List.getElem?_eq_some_iff.1 hjk).1
            have hnew := hw2.setw (l := -l) (j := jk) (w := wk) (x := kp) hjkl (.inr hok)
            rw [set_self hjk] at hnew
            exact ⟨m, _, _, Nat.lt_succ_self _, Shift.refl _ _ _ _, s2.sub (-l) kp, K2, _, cs2, rest2, _, t2, hst, ht2, hK2, hR, hi2, ⟨hb2.bn, hb2.bf, hb2.lf, hb2.cl, hb2.pf, hb2.he⟩, hnew, by rw [← hK2]; rfl, rfl⟩
    · refine W_round [(0, .ptr 0 K'.s 0)] ⟨f0, trivial⟩  1000 ?_
      simp -implicitDefEqProofs (disch := omega) only [go_sem, need_of, ↓reduceIte, reduceCtorEq, Nat.reduceAdd, Nat.reduceEqDiff, Nat.reduceLeDiff, Nat.reduceLT, Nat.reduceSub, Int.reduceToNat, Int.reduceLE, Nat.zero_add, Nat.add_zero, Nat.mul_one, decide_true, Bool.not_false, Nat.le_refl, Nat.zero_le, sat_solver_spread_r1, sat_solver_spread_r2, sat_solver_spread_r3, sat_solver_spread_r4, sat_solver_spread_r5, sat_solver_spread_r6, sat_solver_spread_r7, sat_solver_spread_r8, sat_solver_spread_r9, sat_solver_spread_r10, sat_solver_spread_r11, sat_solver_spread_r12, sat_solver_spread_r13, sat_solver_spread_r14, sat_solver_spread_r15, sat_solver_spread_r16, hp, sc, ints_length, Int.toNat_natCast, mget_kv, hlt', hlt, hD, hneg, e2, hv, keysOk_kv]
      refine W_shift (Shift.slot (s := 6) (u := .lst 0 [] true) fun I ρ x h => VR.tight h) ?_
      refine sem_for (s.wt (-l)) (spJ K N fu t ps (-l) (s.wt (-l)) R1) (spE K N fu t ps (-l) R1) ?_ (fun i n hn fr σ hJ => sp_round hT hwl hn hJ) hdone (fun e fr σ hE => ?_)
      · exact ⟨{ s with dn := s.dn + 1 }, [], K', es, cs, rest, ow, t', ht, hK, by rw [List.drop_zero]; exact hR1, hin, hlm, hb1, hw1, by rw [← hK]; rfl, rfl, .inr ⟨jo, wo, rfl, hjo, hoo⟩, .inl ⟨rfl, rfl⟩, rfl, rfl, rfl, rfl⟩
      · rcases hE with ⟨rfl, ⟨rfl, ⟨n, f2⟩, f3, hcan⟩ | ⟨s2, n, rfl, f2, f3, hcan⟩⟩ | ⟨rfl, s2, kp, K2, es2, cs2, rest2, ow2, t2, ht2, hK2, rfl, hi2, hb2, hw2, f0, f4, f6, rfl⟩
        · refine run_sem 1000 ?_
          simp -implicitDefEqProofs (disch := omega) only [go_sem]
          exact .inl ⟨rfl, .inl ⟨hR.symm, ⟨n, f2⟩, f3, hcan⟩⟩
        · refine run_sem 1000 ?_
          simp -implicitDefEqProofs (disch := omega) only [go_sem]
          exact .inl ⟨rfl, .inr ⟨s2, n, hR.symm, f2, f3, hcan⟩⟩
        · have hst := sp_step hl hR1 hrm
          rw [← hK2] at f0
          rcases f6 with ⟨rfl, f6⟩ | ⟨jk, wk, f6, hjk, hok⟩
          · refine sem_exit [(0, .ptr 0 K2.s 0), (4, .int .i64 (-l)), (6, .lst 0 [] true)] ⟨f0, f4, f6, trivial⟩  1000 ?_
            simp -implicitDefEqProofs (disch := omega) only [go_sem, ↓reduceIte, reduceCtorEq, Nat.reduceAdd, Nat.reduceEqDiff, Nat.reduceLeDiff, Nat.zero_add, Bool.not_false, Nat.zero_le, hp, sc, mput_kv, keysOk_kv]
            exact ⟨m, _, _, Nat.lt_succ_self _, Shift.refl _ _ _ _, s2.sub (-l) [], K2, _, cs2, rest2, ow2, t2, hst, ht2, hK2, hR, hi2, ⟨hb2.bn, hb2.bf, hb2.lf, hb2.cl, hb2.pf, hb2.he⟩, hw2.nil (-l), by rw [← hK2]; rfl, rfl⟩
          · refine sem_exit [(0, .ptr 0 K2.s 0), (4, .int .i64 (-l)), (6, .sl (jk + 10) wk 0 1 kp.length none)] ⟨f0, f4, f6, trivial⟩  1000 ?_
            simp -implicitDefEqProofs (disch := omega) only [go_sem, ↓reduceIte, reduceCtorEq, Nat.reduceAdd, Nat.reduceEqDiff, Nat.reduceLeDiff, Nat.zero_add, Bool.not_false, Nat.zero_le, hp, sc, mput_kv, keysOk_kv]
            have hjkl := (List.getElem?_eq_some_iff.1 hjk).1
            have hnew := hw2.setw (l := -l) (j := jk) (w := wk) (x := kp) hjkl (.inr hok)
            rw [set_self hjk] at hnew
            exact ⟨m, _, _, Nat.lt_succ_self _, Shift.refl _ _ _ _, s2.sub (-l) kp, K2, _, cs2, rest2, _, t2, hst, ht2, hK2, hR, hi2, ⟨hb2.bn, hb2.bf, hb2.lf, hb2.cl, hb2.pf, hb2.he⟩, hnew, by rw [← hK2]; rfl, rfl⟩
  · have hnone : s.tr[s.dn]? = none := List.getElem?_eq_none hge
    rw [hnone] at hR
    have hge' : ¬ (s.dn : Int) < (s.tr.length : Int) := by omega
    refine W_round [(0, .ptr 0 K'.s 0)] ⟨f0, trivial⟩  1000 ?_
    simp -implicitDefEqProofs (disch := omega) only [go_sem, ↓reduceIte, reduceCtorEq, Nat.reduceAdd, Nat.reduceEqDiff, Nat.reduceLeDiff, Nat.zero_add, decide_false, sat_solver_spread_r1, sat_solver_spread_r2, sat_solver_spread_r3, sat_solver_spread_r4, sat_solver_spread_r5, sat_solver_spread_r6, sat_solver_spread_r7, sat_solver_spread_r8, sat_solver_spread_r9, sat_solver_spread_r10, sat_solver_spread_r11, sat_solver_spread_r12, sat_solver_spread_r13, sat_solver_spread_r14, sat_solver_spread_r15, sat_solver_spread_r16, hp, sc, hge']
    exact .inr ⟨rfl, s, hR.symm, K', es, cs, rest, ow, t', ht, hK, hw, rfl⟩
end Go.Proofs.Ytpepmhmgfpkdmaa

