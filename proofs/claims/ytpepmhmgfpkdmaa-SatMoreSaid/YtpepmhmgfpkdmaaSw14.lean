/- Contracts: what was learned is added: the literal of a greatest level. -/
import Derived.Test.YtpepmhmgfpkdmaaSw13
namespace Go.Proofs.Ytpepmhmgfpkdmaa
open Go Go.Am Go.Cl Go.Sat
set_option maxRecDepth 100000
variable {P : Program} {G : Nat → Option V}

def farN (s : S) (c : List Int) (n : Nat) : Nat := ((List.range n).map (· + 1)).foldl (fun b k => if s.lev (c.getD b 0) < s.lev (c.getD k 0) then k else b) 1
theorem farN_next (s : S) (c : List Int) (n : Nat) : farN s c (n + 1) = if s.lev (c.getD (farN s c n) 0) < s.lev (c.getD (n + 1) 0) then n + 1 else farN s c n := by
  unfold farN
  rw [List.range_succ, List.map_append, List.foldl_append]; rfl
theorem farN_le (s : S) (c : List Int) : ∀ n, 1 ≤ farN s c n ∧ farN s c n ≤ n + 1
  | 0 => ⟨Nat.le_refl _, Nat.le_refl _⟩
  | n + 1 => by rw [farN_next]; have := farN_le s c n; split <;> omega

abbrev faJ (K : Vs) (s : S) (fu t : Nat) (es : List (Int × V)) (cs ps : List V) (r : List (Option Ob)) (c : List Int) (k wo : Nat) : Nat → Fr → H → Prop := fun i fr σ =>
  fget fr 0 = .ptr 0 K.s 0 ∧ fget fr 1 = .sl (k + 10) wo 0 1 c.length none ∧ fget fr 9 = .int .i64 (farN s c (i - 1) : Int) ∧ fget fr 38 = .int .i64 (c.length : Int) ∧ fget fr 39 = .int .i64 (i : Int) ∧ σ = hp K s fu t es cs ps r
abbrev faE (K : Vs) (s : S) (fu t : Nat) (es : List (Int × V)) (cs ps : List V) (r : List (Option Ob)) (c : List Int) (k wo : Nat) : AE → Fr → H → Prop := fun e fr σ => e = .ex 0 ∧
  fget fr 0 = .ptr 0 K.s 0 ∧ fget fr 1 = .sl (k + 10) wo 0 1 c.length none ∧ fget fr 9 = .int .i64 (s.far c : Int) ∧ σ = hp K s fu t es cs ps r

theorem fa_round (hT : TabOk P tab) {N fu t k wo : Nat} {K : Vs} {s : S} {es : List (Int × V)} {cs ps : List V} {r : List (Option Ob)} {c : List Int} (hlv : s.lv.length = N) (hc : ∀ x ∈ c, x.natAbs < N) (hN : N ≤ 1000) (hr : r[k]? = some (some (.arr wo 3 (ints c)))) (hcl : c.length ≤ 1000) (h2 : 2 ≤ c.length)
    {i : Nat} (hi : i < c.length) {fr : Fr} {σ : H} (hJ : faJ K s fu t es cs ps r c k wo i fr σ) :
    W P G 91 0 (AC.seq (AC.reg sat_solver_teach_r8 [])   (AC.seq (AC.cond (Arg.t 40)   AC.skip   (AC.exit 0))   (AC.seq (AC.block 1 (AC.seq (AC.reg sat_solver_teach_r9 [41])   (AC.seq (AC.reg sat_solver_teach_r10 [42, 43, 44, 45, 46, 47, 48, 49, 50, 51, 52, 53, 54, 55, 56, 57, 58, 59, 60, 61, 62, 63, 64, 65, 66, 67])   (AC.cond (Arg.t 68)   (AC.reg sat_solver_teach_r11 [69])   AC.skip))))   (AC.reg sat_solver_teach_r12 [70])))) fr σ (seqQ (fun fr σ => ∃ fr' σ', Shift G 91 0 fr σ fr' σ' ∧ faJ K s fu t es cs ps r c k wo (i + 1) fr' σ') (faE K s fu t es cs ps r c k wo)) := by
  unfold faJ at hJ
  obtain ⟨f0, f1, f9, f38, f39, rfl⟩ := hJ
  have hfl := farN_le s c (i - 1)
  have hlt : (i : Int) < (c.length : Int) := by omega
  have e2 := wnext hi (by omega)
  rcases Nat.eq_zero_or_pos i with h0 | h0
  · have hnext : farN s c (i + 1 - 1) = farN s c (i - 1) := by rw [h0]
    generalize farN s c (i - 1) = f at *
    have g' : decide (0 < (i : Int)) = false := decide_eq_false (by omega)
    have gp : (0 < (i : Int)) = False := eq_false (by omega)
    refine W_round [(0, .ptr 0 K.s 0), (1, .sl (k + 10) wo 0 1 c.length none), (9, .int .i64 (f : Int)), (38, .int .i64 (c.length : Int)), (39, .int .i64 (i : Int))] ⟨f0, f1, f9, f38, f39, trivial⟩  1000 ?_
    simp -implicitDefEqProofs (disch := omega) only [go_sem, ↓reduceIte, reduceCtorEq, Nat.reduceEqDiff, decide_true, decide_false, gt_iff_lt, sat_solver_teach_r8, sat_solver_teach_r9, sat_solver_teach_r10, sat_solver_teach_r11, sat_solver_teach_r12, hp, sc, hlt, gp, e2]
    exact ⟨_, _, Shift.refl _ _ _ _, rfl, rfl, by rw [hnext]; rfl, rfl, rfl, rfl⟩
  · have hnext := farN_next s c (i - 1)
    rw [show i - 1 + 1 = i by omega] at hnext
    generalize farN s c (i - 1) = f at *
    have hfl2 : f < c.length := by omega
    have hD := ints_getD' hi
    have hDf := ints_getD' hfl2
    have hxN := hc (c.getD i 0) (List.mem_of_getElem? (some_getD hi))
    have hyN := hc (c.getD f 0) (List.mem_of_getElem? (some_getD hfl2))
    unfold S.lev at hnext
    generalize c.getD i 0 = x at *
    generalize c.getD f 0 = y at *
    have hLx := nts_getD (l := s.lv) (i := x.natAbs) (by omega)
    have hLy := nts_getD (l := s.lv) (i := y.natAbs) (by omega)
    have hLx' : x.natAbs < s.lv.length := by omega
    have hLy' : y.natAbs < s.lv.length := by omega
    generalize s.lv.getD x.natAbs 0 = u at *
    generalize s.lv.getD y.natAbs 0 = v at *
    have g' : decide (0 < (i : Int)) = true := decide_eq_true (by omega)
    have gp : (0 < (i : Int)) = True := eq_true (by omega)
    have hax := c_abs (P := P) (G := G) hT (n := x) (by omega)
    have hay := c_abs (P := P) (G := G) hT (n := y) (by omega)
    refine W_round [(0, .ptr 0 K.s 0), (1, .sl (k + 10) wo 0 1 c.length none), (9, .int .i64 (f : Int)), (38, .int .i64 (c.length : Int)), (39, .int .i64 (i : Int))] ⟨f0, f1, f9, f38, f39, trivial⟩  1000 ?_
    simp -implicitDefEqProofs (disch := omega) only [go_sem, need_of, ↓reduceIte, reduceCtorEq, Nat.reduceAdd, Nat.reduceEqDiff, Nat.reduceLeDiff, Nat.zero_add, Nat.mul_one, decide_true, gt_iff_lt, sat_solver_teach_r8, sat_solver_teach_r9, sat_solver_teach_r10, sat_solver_teach_r11, sat_solver_teach_r12, hp, sc, ints_length, Int.toNat_natCast, hr, hlt, gp, hi, hfl2, hD, hDf, true_implies, true_and, and_true]
    refine callPS hT t_sat_abs hax rfl 1000 ?_
    simp -implicitDefEqProofs (disch := omega) only [go_sem, need_of, ↓reduceIte, reduceCtorEq, Nat.reduceAdd, Nat.reduceEqDiff, Nat.zero_add, Nat.mul_one, nts_length, Int.toNat_natCast, hLx, hLx', true_implies, true_and, and_true]
    refine callPS hT t_sat_abs hay rfl 1000 ?_
    by_cases g3 : v < u
    · have g3' : decide ((v : Int) < (u : Int)) = true := decide_eq_true (by omega)
      have g3p : ((v : Int) < (u : Int)) = True := eq_true (by omega)
      rw [if_pos g3] at hnext
      simp -implicitDefEqProofs (disch := omega) only [go_sem, need_of, ↓reduceIte, reduceCtorEq, Nat.reduceAdd, Nat.reduceEqDiff, Nat.zero_add, Nat.mul_one, decide_true, gt_iff_lt, nts_length, Int.toNat_natCast, e2, hLy, hLy', g3p, true_implies, true_and, and_true]
      exact ⟨_, _, Shift.refl _ _ _ _, rfl, rfl, by rw [show i + 1 - 1 = i by omega, hnext]; rfl, rfl, rfl, rfl⟩
    · have g3' : decide ((v : Int) < (u : Int)) = false := decide_eq_false (by omega)
      have g3p : ((v : Int) < (u : Int)) = False := eq_false (by omega)
      rw [if_neg g3] at hnext
      simp -implicitDefEqProofs (disch := omega) only [go_sem, need_of, ↓reduceIte, reduceCtorEq, Nat.reduceAdd, Nat.reduceEqDiff, Nat.zero_add, Nat.mul_one, decide_false, gt_iff_lt, nts_length, Int.toNat_natCast, e2, hLy, hLy', g3p, true_implies, true_and, and_true]
      exact ⟨_, _, Shift.refl _ _ _ _, rfl, rfl, by rw [show i + 1 - 1 = i by omega, hnext]; rfl, rfl, rfl, rfl⟩

theorem CV_heap {base : Nat} {f : V} {args : List V} {σ σ' : H} {Q : V → H → Prop} (e : σ' = σ) (h : CV P G base f args σ' Q) : CV P G base f args σ Q := e ▸ h

/-- The solver's heap, with a proof. -/
def Cap (K : Vs) (fu t : Nat) (s : S) (σ : H) : Prop := ∃ ps, PfOk ps s.pf ∧ Can K fu t ps s σ

def TeachQ (K : Vs) (fu t : Nat) : Option S → V → H → Prop
  | none, v, σ => v = .bool false ∧ ∃ s', Cap K fu t s' σ
  | some s', v, σ => v = .bool true ∧ Cap K fu t s' σ

theorem c_teach (hT : TabOk Try.prog tab) {N fu t k wo level : Nat} {K : Vs} {s : S} {es : List (Int × V)} {cs ps : List V} {r : List (Option Ob)} {ow : Nat → Own} (hi : Inv N s) (hb : Bd fu N s) (hw : RW s es cs r ow) {c : List Int} {he : List Nat} (ht : Taught N s c level he) (hp0 : PfOk ps s.pf) (hpfB : s.pf.length + 1 + s.lf ≤ 8388608) (hclB : s.cl.length + 1 + s.lf ≤ 8388608) (hr : r[k]? = some (some (.arr wo 3 (ints c)))) (ho : ow k = .no) :
    C Try.prog G 0 n_sat_solver_teach [.ptr 0 K.s 0, .sl (k + 10) wo 0 1 c.length none, .int .i64 (level : Int)] (hp K s fu t es cs ps r) fun v σ => TeachQ K fu t (s.teach c level) v σ := by
  obtain ⟨l, out, hc, hl, hll, hout, hlev0, hlevs⟩ := ht.head
  have hok := ht.ok
  have hbn := hb.bn
  have hcl := okc_len hok
  have hlt := ht.lt
  obtain ⟨m, hm⟩ : ∃ m, s.ms[level]? = some m := ⟨_, List.getElem?_eq_getElem hlt⟩
  have hml : m < s.tr.length := by
    obtain ⟨i, hi'⟩ := List.getElem?_of_mem hl
    have h1 := ((hi.mks level m hm).2 i l hi').2 (by omega)
    have := (List.getElem?_eq_some_iff.1 hi').1
    omega
  have hcne : c ≠ [] := by rw [hc]; exact fun e => by cases e
  have hkl := (List.getElem?_eq_some_iff.1 hr).1
  have hclb : ∀ n ∈ c, -9223372036854775808 ≤ n ∧ n ≤ 9223372036854775807 := fun n hn => by have := (hok.1 n hn).2; omega
  have hpl : ps.length ≤ 8388608 := by rw [hp0.1]; have := hb.pf; omega
  refine C_tab hT t_sat_solver_teach (by simp [sat_solver_teach]) (W_run 1000 ?_)
  simp -implicitDefEqProofs (disch := omega) only [go_sem, ↓reduceIte, reduceCtorEq, Nat.reduceAdd, Nat.reduceEqDiff, Nat.zero_add, sat_solver_teach, sat_solver_teach_r0, sat_solver_teach_r1, sat_solver_teach_r2, sat_solver_teach_r3, sat_solver_teach_r4, sat_solver_teach_r5, sat_solver_teach_r6, sat_solver_teach_r7, sat_solver_teach_r8, sat_solver_teach_r9, sat_solver_teach_r10, sat_solver_teach_r11, sat_solver_teach_r12, sat_solver_teach_r13, sat_solver_teach_r14, hp, sc]
  have hclean := c_CleanS (G := G) hT c hcne hclb (by omega) (t := t) (k := k + 10) (w0 := wo) (T := 3) (o := (hp K s fu t es cs ps r).o) (by simp only [hp, List.getElem?_cons_succ]; exact hr)
  refine call hT t_clause_Clean (C.wk (Nat.zero_le _) (Nat.le_refl _) hclean) 1000 fun v σ hv => ?_
  obtain ⟨t1, z, b, ht1, rfl, hz, rfl⟩ := hv
  generalize hrow : (cleanS c).1 = row1 at hz ⊢
  simp -implicitDefEqProofs (disch := omega) only [go_sem, need_of, ↓reduceIte, reduceCtorEq, Nat.reduceAdd, Nat.reduceEqDiff, Nat.reduceLeDiff, Nat.reduceLT, Nat.zero_add, Nat.mul_one, Bool.not_true, Bool.not_false, Nat.le_refl, Nat.zero_le, hp, sc, List.cons_append]
  refine CV_heap (σ' := hp { K with p := t1 } { s with pf := s.pf ++ [row1] } fu (t1 + 1) es cs (ps ++ [.lst z (ints row1) b]) (r ++ [none])) (by simp [hp, sc]) ?_
  have hw1 : RW { s with pf := s.pf ++ [row1] } es cs (r ++ [none]) fun i => if i = r.length then .no else ow i := ⟨(hw.newno none).len, (hw.newno none).cl, (hw.newno none).wt⟩
  refine call hT t_sat_solver_back (c_back (s := { s with pf := s.pf ++ [row1] }) (K := { K with p := t1 }) (N := N) hT (hi.proof _) hb.bn hw1 hm hml) 1000 fun v σ hv => ?_
  subst hv
  have hinv1 := back_inv (s := { s with pf := s.pf ++ [row1] }) (hi.proof _) hm
  have hbk := S.back_of (s := { s with pf := s.pf ++ [row1] }) hm
  have hpf1 : (({ s with pf := s.pf ++ [row1] } : S).back level).pf = s.pf ++ [row1] := by rw [hbk]
  have hcl1 : (({ s with pf := s.pf ++ [row1] } : S).back level).cl = s.cl := by rw [hbk]
  have hwt1 : (({ s with pf := s.pf ++ [row1] } : S).back level).wt = s.wt := by rw [hbk]
  have hlf1 : (({ s with pf := s.pf ++ [row1] } : S).back level).lf = s.lf := by rw [hbk]
  have hhe1 : (({ s with pf := s.pf ++ [row1] } : S).back level).he = s.he := by rw [hbk]
  have hteach : s.teach c level = if c.length = 1 then (({ s with pf := s.pf ++ [row1] } : S).back level).set (c.getD 0 0) (-1) else
      ((({ s with pf := s.pf ++ [row1] } : S).back level).add (swap c 1 ((({ s with pf := s.pf ++ [row1] } : S).back level).far c))).set ((swap c 1 ((({ s with pf := s.pf ++ [row1] } : S).back level).far c)).getD 0 0) (({ s with pf := s.pf ++ [row1] } : S).back level).cl.length := by
    rw [← hrow]; rfl
  generalize ({ s with pf := s.pf ++ [row1] } : S).back level = s1 at *
  rw [hteach]
  have hwb : RW s1 es cs (r ++ [none]) fun i => if i = r.length then .no else ow i := ⟨by rw [hcl1]; exact hw1.len, by rw [hcl1]; exact hw1.cl, by rw [hwt1]; exact hw1.wt⟩
  have hr2 : (r ++ [none])[k]? = some (some (.arr wo 3 (ints c))) := by rw [List.getElem?_append_left hkl]; exact hr
  have ho2 : (fun i => if i = r.length then Own.no else ow i) k = .no := (if_neg (by omega)).trans ho
  have hpf2 : PfOk (ps ++ [.lst z (ints row1) b]) s1.pf := by rw [hpf1]; exact hp0.snoc hz
  generalize ps ++ [.lst z (ints row1) b] = ps1 at *
  generalize (fun i => if i = r.length then Own.no else ow i) = ow1 at *
  generalize r ++ [none] = r1 at *
  have hB : Bd fu N s1 := ⟨hb.bn, hb.bf, by rw [hlf1]; exact hb.lf, by rw [hcl1, hlf1]; exact hb.cl, by rw [hpf1, hlf1, List.length_append]; exact hpfB, by rw [hhe1, hlf1]; exact hb.he⟩
  have hlf0 := hb.lf
  have hc0 : 0 < c.length := List.length_pos_iff.2 hcne
  have hD0 := ints_getD' (l := c) (i := 0) hc0
  have hx0 : c.getD 0 0 = -l := by rw [hc]; rfl
  rw [hx0] at hD0 ⊢
  have hlN := hok.1 (-l) (by rw [hc]; simp)
  have htr1 := okc_len hinv1.tro
  by_cases g1 : c.length = 1
  · have g1' : ((c.length : Int) == 1) = true := beq_iff_eq.2 (by omega)
    rw [if_pos g1]
    simp -implicitDefEqProofs (disch := omega) only [go_sem, need_of, ↓reduceIte, reduceCtorEq, Nat.reduceEqDiff, Int.reduceToNat, Int.reduceLE, Nat.zero_add, Nat.add_zero, Nat.mul_one, hp, sc, ints_length, hr2, g1', hc0, hD0]
    cases hs : s1.set (-l) (-1) with
    | none =>
      have h0 : s1.lf = 0 := by
        unfold S.set at hs
        by_cases q : s1.lf = 0
        · exact q
        · rw [if_neg q] at hs; cases hs
      refine call hT t_sat_solver_set (c_set0 (s := s1) (K := { K with p := t1 }) (fu := fu) (es := es) (cs := cs) (ps := ps1) (rest := r1) hT h0 (-l) (-1)) 1000 fun v σ hv => ?_
      obtain ⟨rfl, rfl⟩ := hv
      simp -implicitDefEqProofs (disch := omega) only [go_sem, ↓reduceIte, reduceCtorEq, Nat.reduceEqDiff]
      exact ⟨rfl, s1, ps1, hpf2, { K with p := t1 }, es, cs, r1, ow1, t1 + 1, by omega, rfl, hwb, rfl⟩
    | some s' =>
      refine call hT t_sat_solver_set (c_set (s := s1) (s' := s') (K := { K with p := t1 }) (fu := fu) (t := t1 + 1) (es := es) (cs := cs) (ps := ps1) (rest := r1) hT hB hs (by rw [hinv1.nva]; exact hlN.2) (by rw [hinv1.nlv]; exact hlN.2) (by rw [hinv1.nre]; exact hlN.2) (by rw [hinv1.nva]; exact hbn.2) (by omega)) 1000 fun v σ hv => ?_
      obtain ⟨rfl, w2, t2, ht2, rfl⟩ := hv
      simp -implicitDefEqProofs (disch := omega) only [go_sem, ↓reduceIte, reduceCtorEq, Nat.reduceEqDiff]
      obtain ⟨_, e'⟩ := S.set_some hs
      refine ⟨rfl, ps1, by rw [e']; exact hpf2, { K with p := t1, t := w2 }, es, cs, r1, ow1, t2, by omega, rfl, by rw [e']; exact ⟨hwb.len, hwb.cl, hwb.wt⟩, rfl⟩
  · have g1' : ((c.length : Int) == 1) = false := beq_eq_false_iff_ne.2 (by omega)
    have h2 : 2 ≤ c.length := by omega
    rw [if_neg g1]
    simp -implicitDefEqProofs (disch := omega) only [go_sem, ↓reduceIte, reduceCtorEq, Nat.reduceEqDiff, hp, sc, g1']
    refine sem_upto c.length (faJ { K with p := t1 } s1 fu (t1 + 1) es cs ps1 r1 c k wo) (faE { K with p := t1 } s1 fu (t1 + 1) es cs ps1 r1 c k wo) ⟨rfl, rfl, rfl, rfl, rfl, rfl⟩
      (fun i hi2 fr σ hJ => fa_round hT hinv1.nlv (fun x hx => (hok.1 x hx).2) hbn.2 hr2 (by omega) h2 hi2 hJ) (fun i hi2 fr σ hJ => ?_) (fun e fr σ hE => ?_)
    · unfold faJ at hJ
      obtain ⟨f0, f1, f9, f38, f39, rfl⟩ := hJ
      have hge : ¬ (i : Int) < (c.length : Int) := by omega
      rw [show farN s1 c (i - 1) = s1.far c by rw [hi2]; rfl] at f9
      refine W_round [(0, .ptr 0 K.s 0), (1, .sl (k + 10) wo 0 1 c.length none), (9, .int .i64 (s1.far c : Int)), (38, .int .i64 (c.length : Int)), (39, .int .i64 (i : Int))] ⟨f0, f1, f9, f38, f39, trivial⟩  1000 ?_
      simp -implicitDefEqProofs (disch := omega) only [go_sem, ↓reduceIte, reduceCtorEq, Nat.reduceEqDiff, decide_false, hge]
      exact ⟨rfl, rfl, rfl, rfl, rfl⟩
    · obtain ⟨rfl, f0, f1, f9, rfl⟩ := hE
      obtain ⟨ff1, ff2⟩ := far_range (s := s1) h2
      generalize hff : s1.far c = f at *
      have hDf := ints_getD' ff2
      have h1l : 1 < c.length := by omega
      have hD1 := ints_getD' h1l
      have hlt2 : f < (c.set 1 (c.getD f 0)).length := by simpa using ff2
      have hkl1 := (List.getElem?_eq_some_iff.1 hr2).1
      have hsw : swap c 1 f = (c.set 1 (c.getD f 0)).set f (c.getD 1 0) := rfl
      have hper := swap_perm c (i := 1) (j := f) (by omega) ff2
      have hs0 : (swap c 1 f)[0]? = some (-l) := by rw [swap_getD _ (by omega) ff2, if_neg (by omega), if_neg (by omega), some_getD (d := 0) hc0, hx0]
      have hs0D : (ints (swap c 1 f)).getD 0 V.any = .int .i64 (-l) := ints_getD hs0
      have hsl : (swap c 1 f).length = c.length := swap_length _ _ _
      rw [show (swap c 1 f).getD 0 0 = -l from getD_some hs0]
      have hset : r1.set k (some (.arr wo 3 (ints (swap c 1 f)))) = r1.set k (some (.arr wo 3 (ints ((c.set 1 (c.getD f 0)).set f (c.getD 1 0))))) := rfl
      refine sem_exit [(0, .ptr 0 K.s 0), (1, .sl (k + 10) wo 0 1 c.length none), (9, .int .i64 (f : Int))] ⟨f0, f1, f9, trivial⟩  1000 ?_
      simp -implicitDefEqProofs (disch := omega) only [go_sem, need_of, ↓reduceIte, reduceCtorEq, Nat.reduceAdd, Nat.reduceEqDiff, Int.reduceToNat, Int.reduceLE, Nat.zero_add, Nat.add_zero, Nat.mul_one, Bool.not_false, Nat.zero_le, hp, sc, ints_length, Int.toNat_natCast, hr2, ff2, hDf, h1l, hD1, ints_put, List.length_set, List.getElem?_set_self, List.set_set, ← hsw, hs0D, hc0, hsl]
      have hwp := hwb.setno ho2 (some (.arr wo 3 (ints (swap c 1 f))))
      have hadd := c_add (P := Try.prog) (G := G) (fu := fu) (t := t1 + 1) (K := { K with p := t1 }) (ps := ps1) hT hinv1 hB hwp (c := swap c 1 f) (j := k) (w := wo) ⟨by omega, hok.perm hper⟩ (List.getElem?_set_self hkl1) ho2
      rw [hsl] at hadd
      have hB2 : Bd fu N (s1.add (swap c 1 f)) := ⟨hb.bn, hb.bf, by show s1.lf ≤ fu; rw [hlf1]; exact hb.lf, by show (s1.cl ++ [swap c 1 f]).length + s1.lf ≤ _; rw [List.length_append, hcl1, hlf1]; exact hclB, by show s1.pf.length + s1.lf ≤ _; rw [hpf1, hlf1, List.length_append]; exact hpfB, by show ∀ v, s1.he.getD v 0 + s1.lf ≤ _; rw [hhe1, hlf1]; exact hb.he⟩
      have hset0 : (s1.add (swap c 1 f)).lf = 0 → ∀ (K2 : Vs) (es2 : List (Int × V)) (cs2 : List V) (r2 : List (Option Ob)) (t2 : Nat), C Try.prog G 0 n_sat_solver_set [.ptr 0 K2.s 0, .int .i64 (-l), .int .i64 (s1.cl.length : Int)] (hp K2 (s1.add (swap c 1 f)) fu t2 es2 cs2 ps1 r2) fun v σ => v = .bool false ∧ σ = hp K2 (s1.add (swap c 1 f)) fu t2 es2 cs2 ps1 r2 :=
        fun h0 K2 es2 cs2 r2 t2 => c_set0 hT h0 _ _
      have hset1 : ∀ s', (s1.add (swap c 1 f)).set (-l) (s1.cl.length : Int) = some s' → ∀ (K2 : Vs) (es2 : List (Int × V)) (cs2 : List V) (r2 : List (Option Ob)) (t2 : Nat), C Try.prog G 0 n_sat_solver_set [.ptr 0 K2.s 0, .int .i64 (-l), .int .i64 (s1.cl.length : Int)] (hp K2 (s1.add (swap c 1 f)) fu t2 es2 cs2 ps1 r2) fun v σ => v = .bool true ∧ ∃ w t', t2 ≤ t' ∧ σ = hp { K2 with t := w } s' fu t' es2 cs2 ps1 r2 :=
        fun s' hs K2 es2 cs2 r2 t2 => c_set hT hB2 hs (by show _ < s1.va.length; rw [hinv1.nva]; exact hlN.2) (by show _ < s1.lv.length; rw [hinv1.nlv]; exact hlN.2) (by show _ < s1.re.length; rw [hinv1.nre]; exact hlN.2) (by show s1.va.length ≤ _; rw [hinv1.nva]; exact hbn.2) (by show s1.tr.length ≤ _; omega)
      have hpf3 : PfOk ps1 (s1.add (swap c 1 f)).pf := hpf2
      refine And.intro ?_ ?_
      · refine call hT t_sat_solver_add hadd 1000 fun v σ hv => ?_
        obtain ⟨rfl, w3, es3, cs3, r3, ow3, t3, ht3, hw3, hr3, rfl⟩ := hv
        simp -implicitDefEqProofs (disch := omega) only [go_sem, ↓reduceIte, reduceCtorEq, Nat.reduceEqDiff]
        cases hs : (s1.add (swap c 1 f)).set (-l) (s1.cl.length : Int) with
        | none =>
          have h0 : (s1.add (swap c 1 f)).lf = 0 := by
            unfold S.set at hs
            by_cases q : (s1.add (swap c 1 f)).lf = 0
            · exact q
            · rw [if_neg q] at hs; cases hs
          refine call hT t_sat_solver_set (hset0 h0 { K with p := t1, c := w3 } es3 cs3 r3 t3) 1000 fun v σ hv => ?_
          obtain ⟨rfl, rfl⟩ := hv
          simp -implicitDefEqProofs (disch := omega) only [go_sem, ↓reduceIte, reduceCtorEq, Nat.reduceEqDiff]
          exact ⟨rfl, _, ps1, hpf3, { K with p := t1, c := w3 }, es3, cs3, r3, ow3, t3, by omega, rfl, hw3, rfl⟩
        | some s' =>
          refine call hT t_sat_solver_set (hset1 s' hs { K with p := t1, c := w3 } es3 cs3 r3 t3) 1000 fun v σ hv => ?_
          obtain ⟨rfl, w2, t2, ht2, rfl⟩ := hv
          simp -implicitDefEqProofs (disch := omega) only [go_sem, ↓reduceIte, reduceCtorEq, Nat.reduceEqDiff]
          obtain ⟨_, e'⟩ := S.set_some hs
          refine ⟨rfl, ps1, by rw [e']; exact hpf3, { K with p := t1, c := w3, t := w2 }, es3, cs3, r3, ow3, t2, by omega, rfl, by rw [e']; exact ⟨hw3.len, hw3.cl, hw3.wt⟩, rfl⟩
      · refine call hT t_sat_solver_add hadd 1000 fun v σ hv => ?_
        obtain ⟨rfl, w3, es3, cs3, r3, ow3, t3, ht3, hw3, hr3, rfl⟩ := hv
        simp -implicitDefEqProofs (disch := omega) only [go_sem, need_of, ↓reduceIte, reduceCtorEq, Nat.reduceEqDiff, Nat.zero_add, hp, sc, hr3, ints_length, hsl, hs0D]
        cases hs : (s1.add (swap c 1 f)).set (-l) (s1.cl.length : Int) with
        | none =>
          have h0 : (s1.add (swap c 1 f)).lf = 0 := by
            unfold S.set at hs
            by_cases q : (s1.add (swap c 1 f)).lf = 0
            · exact q
            · rw [if_neg q] at hs; cases hs
          refine call hT t_sat_solver_set (hset0 h0 { K with p := t1, c := w3 } es3 cs3 r3 t3) 1000 fun v σ hv => ?_
          obtain ⟨rfl, rfl⟩ := hv
          simp -implicitDefEqProofs (disch := omega) only [go_sem, ↓reduceIte, reduceCtorEq, Nat.reduceEqDiff]
          exact ⟨rfl, _, ps1, hpf3, { K with p := t1, c := w3 }, es3, cs3, r3, ow3, t3, by omega, rfl, hw3, rfl⟩
        | some s' =>
          refine call hT t_sat_solver_set (hset1 s' hs { K with p := t1, c := w3 } es3 cs3 r3 t3) 1000 fun v σ hv => ?_
          obtain ⟨rfl, w2, t2, ht2, rfl⟩ := hv
          simp -implicitDefEqProofs (disch := omega) only [go_sem, ↓reduceIte, reduceCtorEq, Nat.reduceEqDiff]
          obtain ⟨_, e'⟩ := S.set_some hs
          refine ⟨rfl, ps1, by rw [e']; exact hpf3, { K with p := t1, c := w3, t := w2 }, es3, cs3, r3, ow3, t2, by omega, rfl, by rw [e']; exact ⟨hw3.len, hw3.cl, hw3.wt⟩, rfl⟩
end Go.Proofs.Ytpepmhmgfpkdmaa

