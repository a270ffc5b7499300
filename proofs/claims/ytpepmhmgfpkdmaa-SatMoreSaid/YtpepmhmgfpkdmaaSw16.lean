/- Contracts: a formula's clauses are put there. -/
import Derived.Test.YtpepmhmgfpkdmaaSw15
namespace Go.Proofs.Ytpepmhmgfpkdmaa
open Go Go.Am Go.Cl Go.Sat
set_option maxRecDepth 100000
variable {G : Nat → Option V}

/-- A clean copy of a row that stays, in a cell of its own. -/
theorem c_CleanT (hT : TabOk Try.prog tab) (c : List Int) (hb : ∀ n ∈ c, -9223372036854775808 ≤ n ∧ n ≤ 9223372036854775807) (hl : c.length ≤ 1000000) {base t : Nat} {o : List (Option Ob)} (hbase : base ≤ o.length) :
    C Try.prog G base n_clause_Clean [row c] ⟨t, o⟩ fun u σ => ∃ t' w x, t ≤ t' ∧ σ = ⟨t', o ++ [some (.arr w 3 x)]⟩ ∧ ((u = .tup [.lst 0 [] true, .bool false] ∧ cleanS c = ([], false)) ∨ ∃ q, cleanS c = (q, true) ∧ x = ints q ∧ u = .tup [.sl o.length w 0 1 q.length none, .bool true]) := by
  refine C_hshift (c_CleanO hT c hb hl hbase fun b => c_Clone hT c hl) fun u σ ⟨t', w, x, ht, hσ, hn, hu⟩ => ?_
  subst hσ
  rcases hu with hu | ⟨q, cells, hcl, rfl, rfl⟩
  · exact ⟨_, HShift.refl _ _, t', w, x, ht, rfl, .inl hu⟩
  · refine ⟨_, HShift.trim (k := o.length) (v := w) (T := 3) (cs := ints q ++ cells) hbase (by simp) q.length, t', w, ints q, ht, ?_, .inr ⟨q, hcl, rfl, rfl⟩⟩
    rw [set_snoc, List.take_append_of_le_length (by rw [ints_length]; exact Nat.le_refl _), List.take_of_length_le (by rw [ints_length]; exact Nat.le_refl _)]

theorem begin_bad {c : List Int} {F : List (List Int)} {s : S} (h : (cleanS c).2 = false) : S.begin (c :: F) s = S.begin F s := by
  rw [S.begin, if_pos h]
theorem begin_nil {c : List Int} {F : List (List Int)} {s : S} (h : cleanS c = ([], true)) : S.begin (c :: F) s = some ({ s with pf := s.pf ++ [[]] }, some false) := by
  rw [S.begin, h]; rfl
theorem begin_one {c : List Int} {l : Int} {F : List (List Int)} {s : S} (h : cleanS c = ([l], true)) : S.begin (c :: F) s = if s.is l = -1 then some ({ s with pf := s.pf ++ [[]] }, some false) else
      if s.is l = 0 then (match s.set l (-1) with | none => none | some s => S.begin F s) else S.begin F s := by
  rw [S.begin, h]; rfl
theorem begin_more {c q : List Int} {F : List (List Int)} {s : S} (h : cleanS c = (q, true)) (hq : 1 < q.length) : S.begin (c :: F) s = S.begin F (s.add q) := by
  rw [S.begin, h]
  match q, hq with
  | a :: b :: r, _ => rfl

def BegQ (K : Vs) (fu N t : Nat) : Option (S × Option Bool) → V → H → Prop
  | none, v, σ => v = .tup [.int .u8 0, .bool true] ∧ ∃ s', Cap K fu t s' σ
  | some (s', none), v, σ => v = .tup [.int .u8 0, .bool false] ∧ Cap K fu t s' σ ∧ Bd fu N s'
  | some (s', some _), v, σ => v = .tup [.int .u8 2, .bool true] ∧ Cap K fu t s' σ

abbrev beJ (K : Vs) (N fu t : Nat) (F : List (List Int)) (R : Option (S × Option Bool)) : Nat → Fr → H → Prop := fun i fr σ =>
  ∃ s K' es cs ps rest ow t', t ≤ t' ∧ K'.s = K.s ∧ S.begin (F.drop i) s = R ∧ Inv N s ∧ s.ms = [] ∧ Bd fu N s ∧ s.cl.length + (F.length - i) + s.lf ≤ 8388608 ∧ PfOk ps s.pf ∧ s.pf.length + 1 + s.lf ≤ 8388608 ∧ RW s es cs rest ow ∧
    fget fr 0 = .ptr 0 K.s 0 ∧ fget fr 11 = .lst 1 (F.map row) false ∧ fget fr 12 = .int .i64 (F.length : Int) ∧ fget fr 13 = .int .i64 (i : Int) ∧ σ = hp K' s fu t' es cs ps rest
abbrev beE (K : Vs) (N fu t : Nat) (R : Option (S × Option Bool)) : AE → Fr → H → Prop := fun e fr σ =>
  (e = .ret ∧ BegQ K fu N t R (.tup [fget fr 4, fget fr 5]) σ) ∨ (e = .ex 0 ∧ ∃ s, R = some (s, none) ∧ Cap K fu t s σ ∧ Bd fu N s)

theorem be_round (hT : TabOk Try.prog tab) {N fu t : Nat} {K : Vs} {F : List (List Int)} {R : Option (S × Option Bool)} (hN : N ≤ 1000) (hF : ∀ c ∈ F, ∀ l ∈ c, l ≠ 0 ∧ l.natAbs < N) (hFl : F.length ≤ 1000) (hFc : ∀ c ∈ F, c.length ≤ 1000) {i : Nat} {c : List Int} (hc : F[i]? = some c) {fr : Fr} {σ : H} (hJ : beJ K N fu t F R i fr σ) :
    W Try.prog G 67 0 (AC.seq (AC.reg sat_solver_begin_r2 [])   (AC.seq (AC.cond (Arg.t 14)   AC.skip   (AC.exit 0))   (AC.seq (AC.block 1 (AC.seq (AC.reg sat_solver_begin_r3 [15, 16])   (AC.seq (AC.reg sat_solver_begin_r4 [18, 19, 17, 20, 21])   (AC.block 2 (AC.seq (AC.reg sat_solver_begin_r5 [23, 24])   (AC.cond (Arg.t 22)   AC.skip   (AC.seq (AC.reg sat_solver_begin_r6 [26, 27, 28])   (AC.cond (Arg.t 25)   (AC.reg sat_solver_begin_r7 [29, 30, 31])   (AC.seq (AC.reg sat_solver_begin_r8 [33, 34, 35, 36, 37, 38, 39, 40, 41, 42, 43])   (AC.cond (Arg.t 32)   (AC.seq (AC.reg sat_solver_begin_r9 [44, 45, 46, 47, 48, 49, 50, 51, 52])   (AC.seq (AC.reg sat_solver_begin_r10 [])   AC.ret))   (AC.seq (AC.reg sat_solver_begin_r11 [54, 55, 56, 57, 58, 59])   (AC.cond (Arg.t 53)   (AC.seq (AC.reg sat_solver_begin_r12 [60, 61, 62, 63, 64])   (AC.cond (Arg.t 65)   (AC.seq (AC.reg sat_solver_begin_r13 [])   AC.ret)   AC.skip))   AC.skip))))))))))))   (AC.reg sat_solver_begin_r14 [66])))) fr σ (seqQ (fun fr σ => ∃ fr' σ', Shift G 67 0 fr σ fr' σ' ∧ beJ K N fu t F R (i + 1) fr' σ') (beE K N fu t R)) := by
  obtain ⟨s, K', es, cs, ps, rest, ow, t', ht, hK, hR, hi, hms, hb, hclb, hpf, hpfb, hw, f0, f11, f12, f13, rfl⟩ := hJ
  have hil := (List.getElem?_eq_some_iff.1 hc).1
  have hcm := List.mem_of_getElem? hc
  have hcb : ∀ n ∈ c, -9223372036854775808 ≤ n ∧ n ≤ 9223372036854775807 := fun n hn => by have := (hF c hcm n hn).2; omega
  have hcl := hFc c hcm
  rw [← hK] at f0
  rw [show F.drop i = c :: F.drop (i + 1) by
    obtain ⟨h1, h2⟩ := List.getElem?_eq_some_iff.1 hc
    rw [List.drop_eq_getElem_cons h1, h2]] at hR
  have hlt : (i : Int) < (F.length : Int) := by omega
  have hD := rows_getD hc
  have e2 := wnext hil (by omega)
  have hps : ps.length ≤ 8388608 := by rw [hpf.1]; have := hb.pf; omega
  refine W_round [(0, .ptr 0 K'.s 0), (11, .lst 1 (F.map row) false), (12, .int .i64 (F.length : Int)), (13, .int .i64 (i : Int))] ⟨f0, f11, f12, f13, trivial⟩  1000 ?_
  simp -implicitDefEqProofs (disch := omega) only [go_sem, need_of, ↓reduceIte, reduceCtorEq, Nat.reduceEqDiff, Nat.zero_add, decide_true, Nat.le_refl, sat_solver_begin_r2, sat_solver_begin_r3, sat_solver_begin_r4, sat_solver_begin_r5, sat_solver_begin_r6, sat_solver_begin_r7, sat_solver_begin_r8, sat_solver_begin_r9, sat_solver_begin_r10, sat_solver_begin_r11, sat_solver_begin_r12, sat_solver_begin_r13, sat_solver_begin_r14, hp, sc, Int.toNat_natCast, hlt, hil, hD, List.length_map]
  have hclean := c_CleanT (G := G) hT c hcb (by omega) (base := 0) (t := t') (o := (hp K' s fu t' es cs ps rest).o) (Nat.zero_le _)
  refine call hT t_clause_Clean hclean 1000 fun v σ hv => ?_
  obtain ⟨t1, w, x, ht1, rfl, hu⟩ := hv
  have hw1 := hw.newno (some (.arr w 3 x))
  have hol : (hp K' s fu t' es cs ps rest).o.length = rest.length + 10 := by simp [hp]
  have hown : (fun i => if i = rest.length then Own.no else ow i) rest.length = .no := if_pos rfl
  have hheap : (⟨t1, (hp K' s fu t' es cs ps rest).o ++ [some (.arr w 3 x)]⟩ : H) = hp K' s fu t1 es cs ps (rest ++ [some (.arr w 3 x)]) := by simp [hp]
  rcases hu with ⟨rfl, hcl0⟩ | ⟨q, hq, rfl, rfl⟩
  · rw [begin_bad (by rw [hcl0])] at hR
    rw [hheap]
    simp -implicitDefEqProofs (disch := omega) only [go_sem, ↓reduceIte, reduceCtorEq, Nat.reduceAdd, Nat.reduceEqDiff, Nat.reduceLT, Nat.zero_add, Bool.not_false]
    refine ⟨_, _, Shift.refl _ _ _ _, s, K', es, cs, ps, _, _, t1, by omega, hK, hR, hi, hms, hb, by omega, hpf, hpfb, hw1, ?_⟩
    simp -implicitDefEqProofs (disch := omega) only [go_sem, ↓reduceIte, reduceCtorEq, Nat.reduceEqDiff, e2, hK]
  · have hok := (clean_ok (hF c hcm) hq).1
    have hql := okc_len hok
    rw [hheap, hol]
    have hj : (rest ++ [some (Ob.arr w 3 (ints q))])[rest.length]? = some (some (.arr w 3 (ints q))) := List.getElem?_concat_length
    have hjl := (List.getElem?_eq_some_iff.1 hj).1
    rcases Nat.lt_or_ge 1 q.length with g1 | g1
    · rw [begin_more hq g1] at hR
      have g1' : decide ((1 : Int) < (q.length : Int)) = true := decide_eq_true (by omega)
      have g1p : ((1 : Int) < (q.length : Int)) = True := eq_true (by omega)
      simp -implicitDefEqProofs (disch := omega) only [go_sem, ↓reduceIte, reduceCtorEq, Nat.reduceAdd, Nat.reduceEqDiff, Nat.reduceLT, Nat.zero_add, decide_true, Bool.not_true, gt_iff_lt, g1p]
      have hadd := c_add (P := Try.prog) (G := G) (fu := fu) (t := t1) (K := K') (ps := ps) (es := es) (cs := cs) hT hi hb hw1 ⟨g1, hok⟩ hj hown
      refine call hT t_sat_solver_add hadd 1000 fun v σ hv => ?_
      obtain ⟨rfl, w3, es3, cs3, r3, ow3, t3, ht3, hw3, hr3, rfl⟩ := hv
      simp -implicitDefEqProofs (disch := omega) only [go_sem, ↓reduceIte, reduceCtorEq, Nat.reduceEqDiff]
      refine ⟨_, _, Shift.refl _ _ _ _, s.add q, { K' with c := w3 }, es3, cs3, ps, r3, ow3, t3, by omega, hK, hR, add_inv hi ⟨g1, hok⟩, hms, ?_, ?_, hpf, hpfb, hw3, ?_⟩
      · exact ⟨hb.bn, hb.bf, hb.lf, by show (s.cl ++ [q]).length + s.lf ≤ _; rw [List.length_append, List.length_singleton]; omega, hb.pf, hb.he⟩
      · show (s.cl ++ [q]).length + _ + s.lf ≤ _
        rw [List.length_append, List.length_singleton]; omega
      · simp -implicitDefEqProofs (disch := omega) only [go_sem, ↓reduceIte, reduceCtorEq, Nat.reduceEqDiff, e2, hK]
    · have g1' : decide ((1 : Int) < (q.length : Int)) = false := decide_eq_false (by omega)
      have g1p : ((1 : Int) < (q.length : Int)) = False := eq_false (by omega)
      have hcase : q = [] ∨ ∃ l, q = [l] := by
        match q, g1 with
        | [], _ => exact .inl rfl
        | [l], _ => exact .inr ⟨l, rfl⟩
      rcases hcase with hq0 | ⟨l, hq0⟩
      · rw [begin_nil (by rw [hq, hq0])] at hR
        subst hR
        have g0 : ((q.length : Int) == 0) = true := by rw [hq0]; rfl
        simp -implicitDefEqProofs (disch := omega) only [go_sem, need_of, ↓reduceIte, reduceCtorEq, Nat.reduceAdd, Nat.reduceEqDiff, Nat.reduceLeDiff, Nat.reduceLT, Nat.zero_add, Nat.mul_one, decide_false, Bool.not_true, Bool.not_false, Nat.le_refl, Nat.zero_le, gt_iff_lt, hp, sc, g1p, g0, true_implies, true_and, and_true]
        exact .inl ⟨rfl, rfl, ps ++ [.lst 0 [] true], hpf.snoc (p := []) (.inl rfl), { K' with p := t1 }, es, cs, _, _, t1 + 1, by omega, hK, ⟨hw1.len, hw1.cl, hw1.wt⟩, by simp [hp, sc]⟩
      · rw [begin_one (by rw [hq, hq0])] at hR
        have hlN := hok.1 l (by rw [hq0]; simp)
        have hD0 : (ints q).getD 0 V.any = .int .i64 l := by rw [hq0]; rfl
        have g0 : ((q.length : Int) == 0) = false := by rw [hq0]; rfl
        have g0p : 0 < q.length := by rw [hq0]; simp
        have h3 := Tri.of hi l.natAbs
        have htl := okc_len hi.tro
        have his := c_is (P := Try.prog) (G := G) (base := 0) (fu := fu) (t := t1) (K := K') (es := es) (cs := cs) (ps := ps) (rest := rest ++ [some (Ob.arr w 3 (ints q))]) (s := s) (l := l) hT (by rw [hi.nva]; exact hlN.2) (by rw [hi.nva]; omega) h3
        simp -implicitDefEqProofs (disch := omega) only [go_sem, need_of, ↓reduceIte, reduceCtorEq, Nat.reduceAdd, Nat.reduceEqDiff, Nat.reduceLT, Int.reduceToNat, Int.reduceLE, Nat.zero_add, Nat.add_zero, Nat.mul_one, decide_false, Bool.not_true, gt_iff_lt, hp, sc, ints_length, g1p, g0, g0p, hj, hD0, true_implies, true_and, and_true]
        refine call hT t_sat_solver_is his 1000 fun v σ hv => ?_
        obtain ⟨rfl, rfl⟩ := hv
        by_cases g2 : s.is l = -1
        · rw [if_pos g2] at hR
          subst hR
          simp -implicitDefEqProofs (disch := omega) only [go_sem, need_of, ↓reduceIte, reduceCtorEq, Nat.reduceAdd, Nat.reduceEqDiff, Nat.reduceLeDiff, Nat.zero_add, Nat.mul_one, Bool.not_true, Bool.not_false, Nat.le_refl, Nat.zero_le, beq_self_eq_true, hp, sc, g2, true_implies, true_and, and_true]
          exact .inl ⟨rfl, rfl, ps ++ [.lst 0 [] true], hpf.snoc (p := []) (.inl rfl), { K' with p := t1 }, es, cs, _, _, t1 + 1, by omega, hK, ⟨hw1.len, hw1.cl, hw1.wt⟩, by simp [hp, sc]⟩
        · rw [if_neg g2] at hR
          have g2' : (s.is l == -1) = false := beq_eq_false_iff_ne.2 g2
          have g2p : (s.is l = -1) = False := eq_false g2
          simp -implicitDefEqProofs (disch := omega) only [go_sem, need_of, ↓reduceIte, reduceCtorEq, Nat.reduceAdd, Nat.reduceEqDiff, Int.reduceToNat, Int.reduceLE, Nat.zero_add, Nat.add_zero, Nat.mul_one, hp, sc, ints_length, g0p, hj, hD0, g2', true_implies, true_and, and_true]
          refine call hT t_sat_solver_is his 1000 fun v σ hv => ?_
          obtain ⟨rfl, rfl⟩ := hv
          by_cases g3 : s.is l = 0
          · rw [if_pos g3] at hR
            obtain ⟨z1, z2⟩ := hi.is_zero.1 g3
            simp -implicitDefEqProofs (disch := omega) only [go_sem, need_of, ↓reduceIte, reduceCtorEq, Nat.reduceEqDiff, Int.reduceToNat, Int.reduceLE, Nat.zero_add, Nat.add_zero, Nat.mul_one, beq_self_eq_true, hp, sc, ints_length, g0p, hj, hD0, g3, true_implies, true_and, and_true]
            cases hse : s.set l (-1) with
            | none =>
              rw [hse] at hR
              simp only at hR
              subst hR
              have h0 : s.lf = 0 := by
                unfold S.set at hse
                by_cases q : s.lf = 0
                · exact q
                · rw [if_neg q] at hse; cases hse
              refine call hT t_sat_solver_set (c_set0 (s := s) (K := K') (fu := fu) (t := t1) (es := es) (cs := cs) (ps := ps) hT h0 _ _) 1000 fun v σ hv => ?_
              obtain ⟨rfl, rfl⟩ := hv
              simp -implicitDefEqProofs (disch := omega) only [go_sem, ↓reduceIte, reduceCtorEq, Nat.reduceEqDiff, Bool.not_false]
              exact .inl ⟨rfl, rfl, s, ps, hpf, K', es, cs, _, _, t1, by omega, hK, hw1, rfl⟩
            | some s1 =>
              rw [hse] at hR
              simp only at hR
              refine call hT t_sat_solver_set (c_set (N := N) (s := s) (s' := s1) (K := K') (fu := fu) (t := t1) (es := es) (cs := cs) (ps := ps) hT hb hse (by rw [hi.nva]; exact hlN.2) (by rw [hi.nlv]; exact hlN.2) (by rw [hi.nre]; exact hlN.2) (by rw [hi.nva]; omega) (by omega)) 1000 fun v σ hv => ?_
              obtain ⟨rfl, w2, t2, ht2, rfl⟩ := hv
              have hi2 := hi.set hse hlN.1 hlN.2 z1 z2 (.inl (by rw [hms]; rfl))
              obtain ⟨hl0, hs2⟩ := S.set_some hse
              have hb2 : Bd fu N s1 := by
                rw [hs2]
                exact ⟨hb.bn, hb.bf, by show s.lf - 1 ≤ fu; have := hb.lf; omega, by show s.cl.length + (s.lf - 1) ≤ _; have := hb.cl; omega, by show s.pf.length + (s.lf - 1) ≤ _; have := hb.pf; omega, fun v => by show s.he.getD v 0 + (s.lf - 1) ≤ _; have := hb.he v; omega⟩
              simp -implicitDefEqProofs (disch := omega) only [go_sem, ↓reduceIte, reduceCtorEq, Nat.reduceEqDiff, Bool.not_true]
              refine ⟨_, _, Shift.refl _ _ _ _, s1, { K' with t := w2 }, es, cs, ps, _, _, t2, by omega, hK, hR, hi2, by rw [hs2]; exact hms, hb2, by rw [hs2]; show s.cl.length + _ + (s.lf - 1) ≤ _; omega, by rw [hs2]; exact hpf, by rw [hs2]; show s.pf.length + 1 + (s.lf - 1) ≤ _; omega, by rw [hs2]; exact ⟨hw1.len, hw1.cl, hw1.wt⟩, ?_⟩
              simp -implicitDefEqProofs (disch := omega) only [go_sem, ↓reduceIte, reduceCtorEq, Nat.reduceEqDiff, e2, hK]
          · rw [if_neg g3] at hR
            have g3' : (s.is l == 0) = false := beq_eq_false_iff_ne.2 g3
            have g3p : (s.is l = 0) = False := eq_false g3
            simp -implicitDefEqProofs (disch := omega) only [go_sem, ↓reduceIte, reduceCtorEq, Nat.reduceEqDiff, hp, sc, g3']
            refine ⟨_, _, Shift.refl _ _ _ _, s, K', es, cs, ps, _, _, t1, by omega, hK, hR, hi, hms, hb, by omega, hpf, hpfb, hw1, ?_⟩
            simp -implicitDefEqProofs (disch := omega) only [go_sem, ↓reduceIte, reduceCtorEq, Nat.reduceEqDiff, hp, sc, e2, hK]

theorem c_begin (hT : TabOk Try.prog tab) {N fu t : Nat} {K : Vs} {s : S} {es : List (Int × V)} {cs ps : List V} {rest : List (Option Ob)} {ow : Nat → Own} (v : Int) {F : List (List Int)} (hN : N ≤ 1000) (hF : ∀ c ∈ F, ∀ l ∈ c, l ≠ 0 ∧ l.natAbs < N) (hFl : F.length ≤ 1000) (hFc : ∀ c ∈ F, c.length ≤ 1000)
    (hi : Inv N s) (hms : s.ms = []) (hb : Bd fu N s) (hcl : s.cl.length + F.length + s.lf ≤ 8388608) (hpf : PfOk ps s.pf) (hpfb : s.pf.length + 1 + s.lf ≤ 8388608) (hw : RW s es cs rest ow) :
    C Try.prog G 0 n_sat_solver_begin [.ptr 0 K.s 0, fml v F] (hp K s fu t es cs ps rest) fun v σ => BegQ K fu N t (S.begin F s) v σ := by
  refine C_tab hT t_sat_solver_begin (by simp [sat_solver_begin]) (W_run 1000 ?_)
  simp only [fml, rows]
  simp -implicitDefEqProofs (disch := omega) only [go_sem, ↓reduceIte, reduceCtorEq, Nat.reduceAdd, Nat.reduceEqDiff, Nat.zero_add, Nat.le_refl, sat_solver_begin, sat_solver_begin_r0, sat_solver_begin_r1, sat_solver_begin_r2, sat_solver_begin_r3, sat_solver_begin_r4, sat_solver_begin_r5, sat_solver_begin_r6, sat_solver_begin_r7, sat_solver_begin_r8, sat_solver_begin_r9, sat_solver_begin_r10, sat_solver_begin_r11, sat_solver_begin_r12, sat_solver_begin_r13, sat_solver_begin_r14, sat_solver_begin_r15, hp, sc, List.length_map, List.getElem?_concat_length]
  have hw1 := hw.newno (some (.arr t 24 [.int .i64 v, .lst 1 (F.map row) false]))
  refine sem_for F (beJ K N fu t F (S.begin F s)) (beE K N fu t (S.begin F s)) ?_ (fun i c hc fr σ hJ => be_round hT hN hF hFl hFc hc hJ) (fun i hi2 fr σ hJ => ?_) (fun e fr σ hE => ?_)
  · exact ⟨s, K, es, cs, ps, _, _, t + 1, by omega, rfl, rfl, hi, hms, hb, by omega, hpf, hpfb, hw1, rfl, rfl, rfl, rfl, by simp [hp, sc]⟩
  · obtain ⟨s', K', es', cs', ps', r', ow', t', ht, hK, hR, hi', hms', hb', hcl', hpf', hpfb', hw', f0, f11, f12, f13, rfl⟩ := hJ
    rw [hi2, List.drop_length] at hR
    refine W_round [(0, .ptr 0 K.s 0), (11, .lst 1 (F.map row) false), (12, .int .i64 (F.length : Int)), (13, .int .i64 (i : Int))] ⟨f0, f11, f12, f13, trivial⟩  1000 ?_
    simp -implicitDefEqProofs (disch := omega) only [go_sem, ↓reduceIte, reduceCtorEq, Nat.reduceEqDiff, decide_false, hi2, Nat.lt_irrefl]
    exact .inr ⟨rfl, s', hR.symm, ⟨ps', hpf', K', es', cs', r', ow', t', ht, hK, hw', rfl⟩, hb'⟩
  · rcases hE with ⟨rfl, hq⟩ | ⟨rfl, s', hR, hc, hb'⟩
    · refine run_sem 1000 ?_
      simp -implicitDefEqProofs (disch := omega) only [go_sem]
      exact hq
    · refine run_sem 1000 ?_
      simp -implicitDefEqProofs (disch := omega) only [go_sem, ↓reduceIte, Nat.reduceEqDiff]
      rw [hR]
      exact ⟨rfl, hc, hb'⟩
end Go.Proofs.Ytpepmhmgfpkdmaa

