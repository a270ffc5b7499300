/- Contracts: what a conflict teaches. -/
import Derived.Test.YtpepmhmgfpkdmaaSw11
namespace Go.Proofs.Ytpepmhmgfpkdmaa
open Go Go.Am Go.Cl Go.Sat
set_option maxRecDepth 100000
variable {P : Program} {G : Nat → Option V}

abbrev l0J (K : Vs) (N : Nat) (s : S) (fu t : Nat) (ps : List V) (es : List (Int × V)) (cs : List V) (k0 k1 vm : Nat) (R : Option (Int × L)) : Nat → Fr → H → Prop := fun m fr σ =>
  ∃ st c cells jc wc wo t' r ow, Te K s fu t ps es cs k0 k1 vm wo t' st r ow σ ∧ r[jc]? = some (some (.arr wc 3 (ints c ++ cells))) ∧ jc ≠ k0 ∧ jc ≠ k1 ∧ c.length ≤ 1000 ∧ (∀ x ∈ c, ∃ i, i < m ∧ s.tr[i]? = some (-x)) ∧ LInv N s m st ∧
    1 ≤ (L.mark s.lv s.ms.length st c).op ∧ s.walk (s.tr.take m).reverse (L.mark s.lv s.ms.length st c) = R ∧
    fget fr 0 = .ptr 0 K.s 0 ∧ fget fr 6 = .mp (k0 + 10) vm ∧ fget fr 7 = .sl (k1 + 10) wo 0 1 (st.out.length + 1) none ∧ fget fr 8 = .int .i64 (st.op : Int) ∧ fget fr 9 = .int .i64 (st.level : Int) ∧ fget fr 10 = .int .i64 ((m : Int) - 1) ∧ fget fr 11 = .sl (jc + 10) wc 0 1 c.length none
def Lq (K : Vs) (s : S) (fu t : Nat) (ps : List V) (es : List (Int × V)) (cs : List V) (k1 : Nat) (l : Int) (st : L) (σ : H) (wo : Nat) : Prop :=
  ∃ t' r ow, t ≤ t' ∧ RW s es cs r ow ∧ r[k1]? = some (some (.arr wo 3 (ints (-l :: st.out)))) ∧ ow k1 = .no ∧ σ = hp K { s with he := st.he } fu t' es cs ps r
abbrev l0E (K : Vs) (s : S) (fu t : Nat) (ps : List V) (es : List (Int × V)) (cs : List V) (k1 : Nat) (R : Option (Int × L)) : AE → Fr → H → Prop := fun e fr σ =>
  e = .ret ∧ ∃ l st wo, R = some (l, st) ∧ fget fr 4 = .sl (k1 + 10) wo 0 1 (st.out.length + 1) none ∧ fget fr 5 = .int .i64 (st.level : Int) ∧ Lq K s fu t ps es cs k1 l st σ wo

theorem walk_at {s : S} {p : Nat} {st : L} {l : Int} (hl : s.tr[p]? = some l) (h : l.natAbs ∈ st.seen) : s.walk (s.tr.take (p + 1)).reverse st = if st.op = 1 then some (l, st) else s.walk (s.tr.take p).reverse (L.mark s.lv s.ms.length { st with op := st.op - 1 } (s.reason l)) := by
  have htake : s.tr.take (p + 1) = s.tr.take p ++ [l] := by rw [List.take_add_one, hl]; rfl
  rw [htake, List.reverse_append, List.reverse_singleton, List.singleton_append]
  conv => lhs; unfold S.walk
  rw [if_pos h]

theorem l0_round (hT : TabOk P tab) {N fu t k0 k1 vm : Nat} {K : Vs} {s : S} {ps : List V} {es : List (Int × V)} {cs : List V} {R : Option (Int × L)} (hi : Inv N s) (hb : Bd fu N s) (hDp : 0 < s.ms.length) {m : Nat} {fr : Fr} {σ : H} (hJ : l0J K N s fu t ps es cs k0 k1 vm R m fr σ) :
    W P G 142 0 (AC.block 1 (AC.seq (AC.seq (AC.reg sat_solver_learn_r6 [])   (AC.block 2 (AC.loop (AC.seq (AC.reg sat_solver_learn_r7 [])   (AC.seq (AC.cond (Arg.t 34)   AC.skip   (AC.exit 2))   (AC.seq (AC.block 3 (AC.seq (AC.reg sat_solver_learn_r8 [35, 36])   (AC.seq (AC.reg sat_solver_learn_r9 [37, 38])   (AC.seq (AC.seq (AC.reg sat_solver_learn_r10 [39, 40, 41, 42, 43, 44, 45, 46, 47, 48, 49, 50, 51])   (AC.cond (Arg.t 52)   (AC.exit 3)   AC.skip))   (AC.seq (AC.reg sat_solver_learn_r11 [53, 54])   (AC.seq (AC.reg sat_solver_learn_r12 [55, 56, 57, 58, 59, 60, 61, 62, 63])   (AC.seq (AC.seq (AC.reg sat_solver_learn_r13 [64, 65, 66, 67, 68, 69, 70, 71, 72, 73, 74, 75])   (AC.cond (Arg.t 76)   (AC.seq (AC.reg sat_solver_learn_r14 [77, 78])   (AC.exit 3))   AC.skip))   (AC.seq (AC.reg sat_solver_learn_r15 [79, 80, 81, 82])   (AC.reg sat_solver_learn_r16 [83, 84, 85, 86, 87, 88, 89, 90, 91])))))))))   (AC.reg sat_solver_learn_r17 [92])))))))   (AC.seq (AC.block 4 (AC.loop (AC.seq (AC.seq (AC.reg sat_solver_learn_r18 [93, 94, 95, 96, 97, 98, 99, 100, 101, 102])   (AC.cond (Arg.t 103)   AC.skip   (AC.exit 4)))   (AC.block 5 (AC.reg sat_solver_learn_r19 [104, 105])))))   (AC.seq (AC.reg sat_solver_learn_r20 [106, 107, 108, 109, 110, 111, 112])   (AC.seq (AC.reg sat_solver_learn_r21 [113, 114])   (AC.seq (AC.seq (AC.reg sat_solver_learn_r22 [115, 116])   (AC.seq (AC.reg sat_solver_learn_r23 [117])   (AC.cond (Arg.t 118)   (AC.seq (AC.reg sat_solver_learn_r24 [119, 120, 121, 122])   (AC.seq (AC.reg sat_solver_learn_r25 [123, 124])   AC.ret))   AC.skip)))   (AC.reg sat_solver_learn_r26 [125, 126, 127, 128, 129, 130, 131, 132, 133, 134, 135, 136, 137, 138, 139, 140, 141]))))))) fr σ (seqQ (fun fr σ => ∃ m' fr' σ', m' < m ∧ Shift G 142 0 fr σ fr' σ' ∧ l0J K N s fu t ps es cs k0 k1 vm R m' fr' σ') (l0E K s fu t ps es cs k1 R)) := by
  obtain ⟨st, c, cells, jc, wc, wo, t', r, ow, hte, hrow, hj0, hj1, hcl, hc, hs, hop, hR, f0, f6, f7, f8, f9, f10, f11⟩ := hJ
  have hbn := hb.bn
  have htl := okc_len hi.tro
  refine W_round [(0, .ptr 0 K.s 0), (6, .mp (k0 + 10) vm), (7, .sl (k1 + 10) wo 0 1 (st.out.length + 1) none), (8, .int .i64 (st.op : Int)), (9, .int .i64 (st.level : Int)), (10, .int .i64 ((m : Int) - 1)), (11, .sl (jc + 10) wc 0 1 c.length none)] ⟨f0, f6, f7, f8, f9, f10, f11, trivial⟩  1000 ?_
  simp -implicitDefEqProofs (disch := omega) only [go_sem, ↓reduceIte, reduceCtorEq, Nat.reduceEqDiff, sat_solver_learn_r6, sat_solver_learn_r7, sat_solver_learn_r8, sat_solver_learn_r9, sat_solver_learn_r10, sat_solver_learn_r11, sat_solver_learn_r12, sat_solver_learn_r13, sat_solver_learn_r14, sat_solver_learn_r15, sat_solver_learn_r16, sat_solver_learn_r17, sat_solver_learn_r18, sat_solver_learn_r19, sat_solver_learn_r20, sat_solver_learn_r21, sat_solver_learn_r22, sat_solver_learn_r23, sat_solver_learn_r24, sat_solver_learn_r25, sat_solver_learn_r26]
  refine sem_for c (l1J K s fu t ps es cs k0 k1 vm jc wc ((m : Int) - 1) c cells st) (l1E K s fu t ps es cs k0 k1 vm ((m : Int) - 1) c st) ?_ (fun i x hx fr σ hJ => l1_round hT hi hb hs hc hj0 hj1 hcl hx hJ) (fun i hii fr σ hJ => l1_done hT hii hJ) (fun e fr σ hE => ?_)
  · exact ⟨wo, t', r, ow, hte, hrow, rfl, rfl, rfl, rfl, rfl, rfl, rfl, rfl, rfl⟩
  obtain ⟨rfl, wo1, t1, r1, ow1, hte1, f0, f6, f7, f8, f9, f10⟩ := hE
  have hst1 := (mark_inv hi hs hc).1
  generalize hmk : L.mark s.lv s.ms.length st c = st1 at *
  obtain ⟨ht1, hrw1, hm1, hm01, ho1, ho01, hne1, rfl⟩ := hte1
  refine sem_exit [(0, .ptr 0 K.s 0), (6, .mp (k0 + 10) vm), (7, .sl (k1 + 10) wo1 0 1 (st1.out.length + 1) none), (8, .int .i64 (st1.op : Int)), (9, .int .i64 (st1.level : Int)), (10, .int .i64 ((m : Int) - 1))] ⟨f0, f6, f7, f8, f9, f10, trivial⟩  6 ?_
  simp -implicitDefEqProofs (disch := omega) only [go_sem]
  refine sem_invE (l2J K s k0 k1 vm wo1 st1 (hp K { s with he := st1.he } fu t1 es cs ps r1) R N m) (l2E K s k0 k1 vm wo1 st1 (hp K { s with he := st1.he } fu t1 es cs ps r1) R N m) (m0 := m) ⟨Nat.le_refl _, hst1, hR, hop, rfl, rfl, rfl, rfl, rfl, rfl, rfl⟩ (fun m fr σ hJ => l2_round hT hi hbn.2 hm1 hJ) (fun e fr σ hE => ?_)
  obtain ⟨rfl, p, l, hpm, hl, hsn, hs2, hR2, f0, f6, f7, f8, f9, f10, rfl⟩ := hE
  have hpl := (List.getElem?_eq_some_iff.1 hl).1
  have hlN := (hi.tro.1 l (List.mem_of_getElem? hl)).2
  have hD : (ints s.tr).getD p V.any = .int .i64 l := ints_getD hl
  have habs := c_abs (P := P) (G := G) hT (n := l) (by omega)
  have hw1 : IntKind.i64.wrap ((p : Int) - 1) = (p : Int) - 1 := by
    rw [wrap_id] <;> (try omega)
    all_goals (first | (simp [IntKind.min, IntKind.signed, IntKind.bits]; omega) | (simp [IntKind.max, IntKind.signed, IntKind.bits]; omega))
  have hw2 : IntKind.i64.wrap ((st1.op : Int) - 1) = ((st1.op - 1 : Nat) : Int) := by
    have hopb : st1.op ≤ 1000 := by
      rw [hst1.opn]
      have := List.countP_le_length (p := cnt s st1.seen) (l := s.tr.take m)
      rw [List.length_take] at this; omega
    rw [wrap_id] <;> (try omega)
    all_goals (first | (simp [IntKind.min, IntKind.signed, IntKind.bits]; omega) | (simp [IntKind.max, IntKind.signed, IntKind.bits]; omega))
  have hneg : IntKind.i64.wrap (0 - l) = -l := by
    rw [wneg64 (by omega)]; unfold neg; rw [if_neg (by omega)]
  have hk1l := (List.getElem?_eq_some_iff.1 ho1).1
  have ho2 : (r1 ++ [some (.arr t1 3 [.int .i64 l])])[k1]? = some (some (.arr wo1 3 (ints (0 :: st1.out)))) := by rw [List.getElem?_append_left hk1l]; exact ho1
  rw [walk_at hl hsn] at hR2
  by_cases g1 : st1.op = 1
  · have g1' : (((st1.op - 1 : Nat) : Int) == 0) = true := beq_iff_eq.2 (by omega)
    rw [if_pos g1] at hR2
    have hput : .int .i64 (-l) :: (ints (0 :: st1.out)).drop 1 = ints (-l :: st1.out) := ints_put0 (c := 0 :: st1.out) (x := -l) (by simp)
    refine sem_exit [(0, .ptr 0 K.s 0), (6, .mp (k0 + 10) vm), (7, .sl (k1 + 10) wo1 0 1 (st1.out.length + 1) none), (8, .int .i64 (st1.op : Int)), (9, .int .i64 (st1.level : Int)), (10, .int .i64 (p : Int))] ⟨f0, f6, f7, f8, f9, f10, trivial⟩  1000 ?_
    simp -implicitDefEqProofs (disch := omega) only [go_sem, need_of, ↓reduceIte, reduceCtorEq, Nat.reduceAdd, Nat.reduceEqDiff, Nat.reduceLeDiff, Int.reduceToNat, Int.reduceLE, Nat.zero_add, Nat.add_zero, Nat.mul_one, Bool.not_false, Nat.le_refl, Nat.zero_le, hp, sc, ints_length, Int.toNat_natCast, hpl, hD, hw1, hw2, List.getElem?_concat_length, set_snoc, g1', hneg, ho2, List.length_cons, hput]
    have hown : (if k1 = r1.length then Own.no else ow1 k1) = .no := (if_neg (by omega)).trans ho01
    exact ⟨rfl, l, st1, wo1, hR2.symm, rfl, rfl, t1 + 1, _, _, by omega, (hrw1.newno (some (.arr t1 3 [.int .i64 l]))).setno hown _, List.getElem?_set_self (by rw [List.length_append]; omega), hown, by simp [hp, sc]⟩
  · have g1' : (((st1.op - 1 : Nat) : Int) == 0) = false := beq_eq_false_iff_ne.2 (by omega)
    rw [if_neg g1] at hR2
    obtain ⟨n2, c2, hre, hcl2, hreas, hlc, _, hfal, hst2, hst3, hop3⟩ := walk_next hi hDp hs2 hop hl hsn g1
    refine sem_exit [(0, .ptr 0 K.s 0), (6, .mp (k0 + 10) vm), (7, .sl (k1 + 10) wo1 0 1 (st1.out.length + 1) none), (8, .int .i64 (st1.op : Int)), (9, .int .i64 (st1.level : Int)), (10, .int .i64 (p : Int))] ⟨f0, f6, f7, f8, f9, f10, trivial⟩  1000 ?_
    obtain ⟨j2, w2, hrow2, hcell2, hown2⟩ := hrw1.cl n2 c2 hcl2
    have hj2l := (List.getElem?_eq_some_iff.1 hcell2).1
    have hln : l.natAbs < s.re.length := by rw [hi.nre]; exact hlN
    have hRe : (ints s.re).getD l.natAbs V.any = .int .i64 (n2 : Int) := by rw [ints_getD' hln, hre]
    have hn2 : n2 < cs.length := (List.getElem?_eq_some_iff.1 hrow2).1
    have hrD : cs.getD n2 V.any = .sl (j2 + 10) w2 0 1 c2.length none := getD_some hrow2
    simp -implicitDefEqProofs (disch := omega) only [go_sem, need_of, ↓reduceIte, reduceCtorEq, Nat.reduceAdd, Nat.reduceEqDiff, Nat.reduceLeDiff, Nat.zero_add, Nat.add_zero, Nat.mul_one, Bool.not_false, Nat.le_refl, Nat.zero_le, hp, sc, ints_length, Int.toNat_natCast, hpl, hD, hw1, hw2, List.getElem?_concat_length, set_snoc, g1']
    refine callPS hT t_sat_abs habs rfl 1000 ?_
    simp -implicitDefEqProofs (disch := omega) only [go_sem, need_of, ↓reduceIte, reduceCtorEq, Nat.reduceEqDiff, Nat.zero_add, Nat.mul_one, ints_length, Int.toNat_natCast, hln, hRe, hn2, hrD]
    have hc2ok := hi.cls c2 (List.mem_of_getElem? hcl2)
    have hc2len := okc_len hc2ok.2
    refine call hT t_slices_Clone_int_int (c_CloneS (c := c2) (cells := []) (k := j2 + 10) (w := w2) (T := 3) hT ?_ ?_ ?_) 1000 fun v σ hv => ?_
    · intro e; rw [e] at hc2ok; have := hc2ok.1; simp at this
    · omega
    · simp only [List.getElem?_cons_succ, List.append_nil]
      rw [List.getElem?_append_left hj2l]; exact hcell2
    obtain ⟨rfl, rfl⟩ := hv
    simp -implicitDefEqProofs (disch := omega) only [go_sem, ↓reduceIte, reduceCtorEq, Nat.reduceEqDiff, Nat.zero_add, List.length_append, List.length_cons]
    have hbox : ∀ ex, ((hp K { s with he := st1.he } fu t1 es cs ps (r1 ++ [some (.arr t1 3 [.int .i64 l])])).o ++ ex)[r1.length + 10]? = some (some (.arr t1 3 [.int .i64 l])) := fun ex => by
      simp only [hp, List.cons_append, List.getElem?_cons_succ, List.append_assoc]
      rw [List.getElem?_append_right (Nat.le_refl _)]; simp
    have hDel := c_DeleteFunc (P := P) (G := G) hT (base := 0) (t := t1 + 1 + 1) (g := n_sat_solver_learn_S1) (w := t1 + 1) (o := (hp K { s with he := st1.he } fu t1 es cs ps (r1 ++ [some (.arr t1 3 [.int .i64 l])])).o) (cap := [.ptr (r1.length + 10) t1 0]) (p := fun n => n == l) (c := c2) (Nat.zero_le _) (fun w' cells => k_learn_S1 hT (hbox _)) (by omega)
    have hol : (hp K { s with he := st1.he } fu t1 es cs ps (r1 ++ [some (.arr t1 3 [.int .i64 l])])).o.length = r1.length + 11 := by simp [hp]
    rw [hol] at hDel
    refine call hT t_slices_DeleteFunc_int_int hDel 1000 fun v σ hv => ?_
    obtain ⟨t3, cells3, ht3, _, rfl, rfl⟩ := hv
    simp -implicitDefEqProofs (disch := omega) only [go_sem, ↓reduceIte, reduceCtorEq, Nat.reduceEqDiff]
    have hfe : (c2.filter fun n => !(n == l)) = s.reason l := hreas.symm
    rw [hfe]
    have hk0l := (List.getElem?_eq_some_iff.1 hm1).1
    have hown : ∀ k, k < r1.length → ow1 k = .no → (if k = (r1 ++ [some (Ob.arr t1 3 [.int .i64 l])]).length then Own.no else if k = r1.length then Own.no else ow1 k) = .no := fun k hk h => by
      rw [if_neg (by rw [List.length_append]; omega), if_neg (by omega)]; exact h
    refine ⟨p, _, _, by omega, Shift.refl _ _ _ _, { st1 with op := st1.op - 1 }, s.reason l, cells3, r1.length + 1, t1 + 1, wo1, t3, r1 ++ [some (.arr t1 3 [.int .i64 l])] ++ [some (.arr (t1 + 1) 3 (ints (s.reason l) ++ cells3))], _,
      ⟨by omega, (hrw1.newno (some (.arr t1 3 [.int .i64 l]))).newno (some (.arr (t1 + 1) 3 (ints (s.reason l) ++ cells3))), ?_, hown k0 hk0l hm01, ?_, hown k1 hk1l ho01, hne1, ?_⟩, ?_, by omega, by omega, ?_, hfal, hst2, hop3, hR2, rfl, rfl, rfl, rfl, rfl, rfl, rfl⟩
    · rw [List.append_assoc, List.getElem?_append_left hk0l]; exact hm1
    · rw [List.append_assoc, List.getElem?_append_left hk1l]; exact ho1
    · simp [hp, sc]
    · rw [List.getElem?_append_right (by rw [List.length_append]; exact Nat.le_refl _)]; simp
    · have := List.length_filter_le (fun x => x != l) c2
      rw [hreas]; omega

theorem c_learn (hT : TabOk P tab) {N fu t n : Nat} {K : Vs} {s : S} {es : List (Int × V)} {cs ps : List V} {rest : List (Option Ob)} {ow : Nat → Own} (hi : Inv N s) (hb : Bd fu N s) (hw : RW s es cs rest ow) (hDp : 0 < s.ms.length) {c : List Int} (hc : s.cl[n]? = some c) (hf : ∀ x ∈ c, -x ∈ s.tr) {y : Int} (hy : y ∈ c) (hyl : s.lev y = s.ms.length) {d : List Int} {level : Nat} {he : List Nat} (e : s.learn n = some (d, level, { s with he := he })) :
    C P G 0 n_sat_solver_learn [.ptr 0 K.s 0, .int .i64 (n : Int)] (hp K s fu t es cs ps rest) fun v σ => ∃ k wo t' r ow', t ≤ t' ∧ v = .tup [.sl (k + 10) wo 0 1 d.length none, .int .i64 (level : Int)] ∧ RW s es cs r ow' ∧ r[k]? = some (some (.arr wo 3 (ints d))) ∧ ow' k = .no ∧ σ = hp K { s with he := he } fu t' es cs ps r := by
  obtain ⟨j, w, hrow, hcell, hown⟩ := hw.cl n c hc
  have hjl := (List.getElem?_eq_some_iff.1 hcell).1
  have hn2 : n < cs.length := (List.getElem?_eq_some_iff.1 hrow).1
  have hrD : cs.getD n V.any = .sl (j + 10) w 0 1 c.length none := getD_some hrow
  have hbn := hb.bn
  have htl := okc_len hi.tro
  refine C_tab hT t_sat_solver_learn (by simp [sat_solver_learn]) (W_run 1000 ?_)
  have htpos : 0 < s.tr.length := List.length_pos_iff.2 (fun e => by have := hf y hy; rw [e] at this; cases this)
  have hw1 : IntKind.i64.wrap ((s.tr.length : Int) - 1) = (s.tr.length : Int) - 1 := by
    rw [wrap_id] <;> (try omega)
    all_goals (first | (simp [IntKind.min, IntKind.signed, IntKind.bits]; omega) | (simp [IntKind.max, IntKind.signed, IntKind.bits]; omega))
  have hz : 0 = (s.tr.take s.tr.length).countP (cnt s []) := by
    rw [eq_comm, List.countP_eq_zero]
    intro x hx; simp [cnt]
  have hs0 : LInv N s s.tr.length ⟨[], [], 0, 0, s.he⟩ := ⟨Nat.le_refl _, hi.nhe, (fun v => by simp), hz, (fun v hv => by cases hv), (fun x hx => by cases hx), (by simp), .inl ⟨rfl, rfl⟩⟩
  have hff : ∀ x ∈ c, ∃ j, j < s.tr.length ∧ s.tr[j]? = some (-x) := fun x hx => by
    obtain ⟨i, hi⟩ := List.getElem?_of_mem (hf x hx)
    exact ⟨i, (List.getElem?_eq_some_iff.1 hi).1, hi⟩
  have hm := mark_inv hi hs0 (c := c) hff
  have hop : 1 ≤ (L.mark s.lv s.ms.length ⟨[], [], 0, 0, s.he⟩ c).op := by
    rw [hm.1.opn, List.take_length]
    refine List.countP_pos_iff.2 ⟨-y, hf y hy, ?_⟩
    simp only [cnt, Bool.and_eq_true, decide_eq_true_eq, lev_neg, Int.natAbs_neg]
    exact ⟨hm.2.2 y hy (by omega), hyl⟩
  unfold S.learn at e
  rw [getD_some hc, Option.map_eq_some_iff] at e
  obtain ⟨⟨l, st⟩, e1, e2⟩ := e
  have hd : d = -l :: st.out := (Prod.mk.inj e2).1.symm
  have hlevel : level = st.level := (Prod.mk.inj (Prod.mk.inj e2).2).1.symm
  have hhe : he = st.he := by
    have := (Prod.mk.inj (Prod.mk.inj e2).2).2
    exact (congrArg S.he this).symm
  have hcok := hi.cls c (List.mem_of_getElem? hc)
  have hclen := okc_len hcok.2
  simp -implicitDefEqProofs (disch := omega) only [go_sem, need_of, ↓reduceIte, reduceCtorEq, Nat.reduceAdd, Nat.reduceEqDiff, Nat.reduceLeDiff, Nat.zero_add, Nat.add_zero, Nat.mul_one, Nat.le_refl, sat_solver_learn, sat_solver_learn_r0, sat_solver_learn_r1, sat_solver_learn_r2, sat_solver_learn_r3, sat_solver_learn_r4, sat_solver_learn_r5, sat_solver_learn_r6, sat_solver_learn_r7, sat_solver_learn_r8, sat_solver_learn_r9, sat_solver_learn_r10, sat_solver_learn_r11, sat_solver_learn_r12, sat_solver_learn_r13, sat_solver_learn_r14, sat_solver_learn_r15, sat_solver_learn_r16, sat_solver_learn_r17, sat_solver_learn_r18, sat_solver_learn_r19, sat_solver_learn_r20, sat_solver_learn_r21, sat_solver_learn_r22, sat_solver_learn_r23, sat_solver_learn_r24, sat_solver_learn_r25, sat_solver_learn_r26, hp, sc, Int.toNat_natCast, hn2, hrD, hw1]
  refine sem_invE (l0J K N s fu t ps es cs rest.length (rest.length + 1) t (some (l, st))) (l0E K s fu t ps es cs (rest.length + 1) (some (l, st))) (m0 := s.tr.length) ?_ (fun m fr σ hJ => l0_round hT hi hb hDp hJ) (fun e fr σ hE => ?_)
  · refine ⟨⟨[], [], 0, 0, s.he⟩, c, [], j, w, t + 1, t + 2, rest ++ [some (.map t [])] ++ [some (.arr (t + 1) 3 [.int .i64 0])], _, ⟨by omega, (hw.newno (some (.map t []))).newno (some (.arr (t + 1) 3 [.int .i64 0])), ?_, ?_, ?_, ?_, by omega, ?_⟩, ?_, by omega, by omega, by omega, hff, hs0, hop, by rw [List.take_length]; exact e1, rfl, rfl, by simp [fget], rfl, rfl, rfl, rfl⟩
    · rw [List.append_assoc, List.getElem?_append_right (Nat.le_refl _)]; simp [sn, kn, im]
    · simp
    · rw [List.getElem?_append_right (by simp)]; simp [ints]
    · simp
    · simp [hp, sc]
    · rw [List.append_assoc, List.getElem?_append_left hjl, List.append_nil]; exact hcell
  · obtain ⟨rfl, l2, st2, wo, hR, f4, f5, t', r, ow', ht', hrw, hrow', hown', rfl⟩ := hE
    cases hR
    refine run_sem 1000 ?_
    simp -implicitDefEqProofs (disch := omega) only [go_sem, f4, f5]
    rw [hd, hlevel, hhe]
    exact ⟨rest.length + 1, wo, t', r, ow', ht', rfl, hrw, hrow', hown', rfl⟩
end Go.Proofs.Ytpepmhmgfpkdmaa

