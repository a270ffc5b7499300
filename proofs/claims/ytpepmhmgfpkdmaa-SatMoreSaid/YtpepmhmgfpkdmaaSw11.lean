/- Contracts: what a conflict teaches: a clause is marked. -/
import Derived.Test.YtpepmhmgfpkdmaaSw10
namespace Go.Proofs.Ytpepmhmgfpkdmaa
open Go Go.Am Go.Cl Go.Sat
set_option maxRecDepth 100000
variable {P : Program} {G : Nat → Option V}

def sn (l : List Nat) : List Int := l.map fun (v : Nat) => (v : Int)
theorem mem_sn {l : List Nat} {v : Nat} : (v : Int) ∈ sn l ↔ v ∈ l := by
  unfold sn
  rw [List.mem_map]
  exact ⟨fun ⟨w, h, e⟩ => by have : w = v := by omega
                             exact this ▸ h, fun h => ⟨v, h, rfl⟩⟩
theorem sn_snoc (l : List Nat) (v : Nat) : sn (l ++ [v]) = sn l ++ [(v : Int)] := by simp [sn]
theorem kn_look1 {l : List Nat} {v : Nat} (h : v ∈ l) : (mget [Kd.i] (V.int .i64 (v : Int)) (kn (sn l))).getD (V.int .i64 0) = .int .i64 1 := by
  rw [show kn (sn l) = im .i64 (fun _ => V.int .i64 1) (sn l) from rfl, kn_get, if_pos (mem_sn.2 h)]
theorem kn_look0 {l : List Nat} {v : Nat} (h : v ∉ l) : (mget [Kd.i] (V.int .i64 (v : Int)) (kn (sn l))).getD (V.int .i64 0) = .int .i64 0 := by
  rw [show kn (sn l) = im .i64 (fun _ => V.int .i64 1) (sn l) from rfl, kn_get, if_neg fun q => h (mem_sn.1 q)]
theorem kn_put {l : List Nat} {v : Nat} (h : v ∉ l) : mput [Kd.i] (V.int .i64 (v : Int)) (V.int .i64 1) (kn (sn l)) = kn (sn (l ++ [v])) := by
  rw [sn_snoc]
  exact mput_im .i64 (fun _ => V.int .i64 1) v (.int .i64 1) rfl (sn l) fun q => h (mem_sn.1 q)
theorem keysOk_kn (x : Int) (l : List Nat) : keysOk false [Kd.i] (.int .i64 x) (kn (sn l)) := keysOk_im .i64 _ _ _

/-- The heap, while a conflict teaches: the map of what was met, the row of what is told. -/
structure Te (K : Vs) (s : S) (fu t : Nat) (ps : List V) (es : List (Int × V)) (cs : List V) (k0 k1 vm wo t' : Nat) (st : L) (r : List (Option Ob)) (ow : Nat → Own) (σ : H) : Prop where
  ht : t ≤ t'
  rw : RW s es cs r ow
  m : r[k0]? = some (some (.map vm (kn (sn st.seen))))
  m0 : ow k0 = .no
  o : r[k1]? = some (some (.arr wo 3 (ints (0 :: st.out))))
  o0 : ow k1 = .no
  ne : k0 ≠ k1
  eq : σ = hp K { s with he := st.he } fu t' es cs ps r

abbrev l1J (K : Vs) (s : S) (fu t : Nat) (ps : List V) (es : List (Int × V)) (cs : List V) (k0 k1 vm jc wc : Nat) (p : Int) (c : List Int) (cells : List V) (st0 : L) : Nat → Fr → H → Prop := fun i fr σ =>
  ∃ wo t' r ow, Te K s fu t ps es cs k0 k1 vm wo t' (L.mark s.lv s.ms.length st0 (c.take i)) r ow σ ∧ r[jc]? = some (some (.arr wc 3 (ints c ++ cells))) ∧
    fget fr 0 = .ptr 0 K.s 0 ∧ fget fr 6 = .mp (k0 + 10) vm ∧ fget fr 7 = .sl (k1 + 10) wo 0 1 ((L.mark s.lv s.ms.length st0 (c.take i)).out.length + 1) none ∧ fget fr 8 = .int .i64 ((L.mark s.lv s.ms.length st0 (c.take i)).op : Int) ∧
    fget fr 9 = .int .i64 ((L.mark s.lv s.ms.length st0 (c.take i)).level : Int) ∧ fget fr 10 = .int .i64 p ∧ fget fr 31 = .sl (jc + 10) wc 0 1 c.length none ∧ fget fr 32 = .int .i64 (c.length : Int) ∧ fget fr 33 = .int .i64 (i : Int)
abbrev l1E (K : Vs) (s : S) (fu t : Nat) (ps : List V) (es : List (Int × V)) (cs : List V) (k0 k1 vm : Nat) (p : Int) (c : List Int) (st0 : L) : AE → Fr → H → Prop := fun e fr σ => e = .ex 2 ∧ 
  ∃ wo t' r ow, Te K s fu t ps es cs k0 k1 vm wo t' (L.mark s.lv s.ms.length st0 c) r ow σ ∧ fget fr 0 = .ptr 0 K.s 0 ∧ fget fr 6 = .mp (k0 + 10) vm ∧ fget fr 7 = .sl (k1 + 10) wo 0 1 ((L.mark s.lv s.ms.length st0 c).out.length + 1) none ∧ fget fr 8 = .int .i64 ((L.mark s.lv s.ms.length st0 c).op : Int) ∧
    fget fr 9 = .int .i64 ((L.mark s.lv s.ms.length st0 c).level : Int) ∧ fget fr 10 = .int .i64 p

theorem mark_snoc (lv : List Nat) (D : Nat) (st : L) (c : List Int) (x : Int) : L.mark lv D st (c ++ [x]) = L.mark1 lv D (L.mark lv D st c) x := by simp [L.mark]

theorem l1_round (hT : TabOk P tab) {N fu t k0 k1 vm jc wc q : Nat} {p : Int} {K : Vs} {s : S} {ps : List V} {es : List (Int × V)} {cs : List V} {c : List Int} {cells : List V} {st0 : L} (hi : Inv N s) (hb : Bd fu N s) (hs0 : LInv N s q st0) (hc : ∀ x ∈ c, ∃ i, i < q ∧ s.tr[i]? = some (-x)) (hj0 : jc ≠ k0) (hj1 : jc ≠ k1) (hcl : c.length ≤ 1000)
    {i : Nat} {x : Int} (hx : c[i]? = some x) {fr : Fr} {σ : H} (hJ : l1J K s fu t ps es cs k0 k1 vm jc wc p c cells st0 i fr σ) :
    W P G 142 0 (AC.seq (AC.reg sat_solver_learn_r7 [])   (AC.seq (AC.cond (Arg.t 34)   AC.skip   (AC.exit 2))   (AC.seq (AC.block 3 (AC.seq (AC.reg sat_solver_learn_r8 [35, 36])   (AC.seq (AC.reg sat_solver_learn_r9 [37, 38])   (AC.seq (AC.seq (AC.reg sat_solver_learn_r10 [39, 40, 41, 42, 43, 44, 45, 46, 47, 48, 49, 50, 51])   (AC.cond (Arg.t 52)   (AC.exit 3)   AC.skip))   (AC.seq (AC.reg sat_solver_learn_r11 [53, 54])   (AC.seq (AC.reg sat_solver_learn_r12 [55, 56, 57, 58, 59, 60, 61, 62, 63])   (AC.seq (AC.seq (AC.reg sat_solver_learn_r13 [64, 65, 66, 67, 68, 69, 70, 71, 72, 73, 74, 75])   (AC.cond (Arg.t 76)   (AC.seq (AC.reg sat_solver_learn_r14 [77, 78])   (AC.exit 3))   AC.skip))   (AC.seq (AC.reg sat_solver_learn_r15 [79, 80, 81, 82])   (AC.reg sat_solver_learn_r16 [83, 84, 85, 86, 87, 88, 89, 90, 91])))))))))   (AC.reg sat_solver_learn_r17 [92])))) fr σ (seqQ (fun fr σ => ∃ fr' σ', Shift G 142 0 fr σ fr' σ' ∧ l1J K s fu t ps es cs k0 k1 vm jc wc p c cells st0 (i + 1) fr' σ') (l1E K s fu t ps es cs k0 k1 vm p c st0)) := by
  obtain ⟨wo, t', r, ow, hte, hrow, f0, f6, f7, f8, f9, f10, f31, f32, f33⟩ := hJ
  have hil := (List.getElem?_eq_some_iff.1 hx).1
  have hnext : L.mark s.lv s.ms.length st0 (c.take (i + 1)) = L.mark1 s.lv s.ms.length (L.mark s.lv s.ms.length st0 (c.take i)) x := by rw [take_snoc hx, mark_snoc]
  have hst := (mark_inv hi hs0 (c := c.take i) fun y hy => hc y (List.mem_of_mem_take hy)).1
  obtain ⟨a, ha, hxa⟩ := hc x (List.mem_of_getElem? hx)
  have hxN : x.natAbs < N := by have := (hi.tro.1 _ (List.mem_of_getElem? hxa)).2; simpa using this
  unfold l1J
  rw [hnext]
  generalize L.mark s.lv s.ms.length st0 (c.take i) = st at *
  have hbn := hb.bn
  have htl := okc_len hi.tro
  have hlt : (i : Int) < (c.length : Int) := by omega
  have hD := ints_getDA (c := c) cells hx
  have e2 := wnext hil (by omega)
  have hlv : x.natAbs < s.lv.length := by rw [hi.nlv]; exact hxN
  have hhe : x.natAbs < st.he.length := by rw [hst.hlen]; exact hxN
  have hLv := nts_getD hlv
  have hHe := nts_getD hhe
  have hopb : st.op ≤ 1000 := by
    rw [hst.opn]
    have := List.countP_le_length (p := cnt s st.seen) (l := s.tr.take q)
    rw [List.length_take] at this; omega
  have hop2 := wnext (i := st.op) (n := 1001) (by omega) (by omega)
  have hheb : st.he.getD x.natAbs 0 ≤ 8388609 := by
    have h1 := hb.he x.natAbs
    rw [hst.heat]; split <;> omega
  have hhe2 := wnext (i := st.he.getD x.natAbs 0) (n := 8388610) (by omega) (by omega)
  obtain ⟨ht, hrw, hm, hm0, ho, ho0, hne, rfl⟩ := hte
  have hk0l := (List.getElem?_eq_some_iff.1 hm).1
  have hk1l := (List.getElem?_eq_some_iff.1 ho).1
  have habs := c_abs (P := P) (G := G) hT (n := x) (by omega)
  unfold L.mark1
  by_cases g1 : x.natAbs ∈ st.seen
  · have hlk := kn_look1 g1
    rw [if_pos (.inl g1)]
    refine W_round [(0, .ptr 0 K.s 0), (6, .mp (k0 + 10) vm), (7, .sl (k1 + 10) wo 0 1 (st.out.length + 1) none), (8, .int .i64 (st.op : Int)), (9, .int .i64 (st.level : Int)), (10, .int .i64 p), (31, .sl (jc + 10) wc 0 1 c.length none), (32, .int .i64 (c.length : Int)), (33, .int .i64 (i : Int))] ⟨f0, f6, f7, f8, f9, f10, f31, f32, f33, trivial⟩  1000 ?_
    simp -implicitDefEqProofs (disch := omega) only [go_sem, need_of, ↓reduceIte, reduceCtorEq, Nat.reduceEqDiff, Nat.zero_add, Nat.mul_one, decide_true, sat_solver_learn_r7, sat_solver_learn_r8, sat_solver_learn_r9, sat_solver_learn_r10, sat_solver_learn_r11, sat_solver_learn_r12, sat_solver_learn_r13, sat_solver_learn_r14, sat_solver_learn_r15, sat_solver_learn_r16, sat_solver_learn_r17, hp, sc, ints_length, List.length_append, Int.toNat_natCast, hlt, hil, hD, hrow]
    refine callPS hT t_sat_abs habs rfl 1000 ?_
    simp -implicitDefEqProofs (disch := omega) only [go_sem, ↓reduceIte, reduceCtorEq, Nat.reduceEqDiff, decide_true, gt_iff_lt, hm, keysOk_kn, e2, hlk, Int.zero_lt_one, and_true]
    exact ⟨_, _, Shift.refl _ _ _ _, wo, t', r, ow, ⟨ht, hrw, hm, hm0, ho, ho0, hne, rfl⟩, hrow, rfl, rfl, rfl, rfl, rfl, rfl, rfl, rfl, rfl⟩
  have hlk := kn_look0 g1
  have hkp := kn_put g1
  generalize hvl : s.lv.getD x.natAbs 0 = y at *
  by_cases g2 : y = 0
  · have g2' : ((y : Int) == 0) = true := beq_iff_eq.2 (by omega)
    have g2p : ((y : Int) = 0) = True := eq_true (by omega)
    rw [if_pos (.inr g2)]
    refine W_round [(0, .ptr 0 K.s 0), (6, .mp (k0 + 10) vm), (7, .sl (k1 + 10) wo 0 1 (st.out.length + 1) none), (8, .int .i64 (st.op : Int)), (9, .int .i64 (st.level : Int)), (10, .int .i64 p), (31, .sl (jc + 10) wc 0 1 c.length none), (32, .int .i64 (c.length : Int)), (33, .int .i64 (i : Int))] ⟨f0, f6, f7, f8, f9, f10, f31, f32, f33, trivial⟩  1000 ?_
    simp -implicitDefEqProofs (disch := omega) only [go_sem, need_of, ↓reduceIte, reduceCtorEq, Nat.reduceEqDiff, Nat.zero_add, Nat.mul_one, decide_true, sat_solver_learn_r7, sat_solver_learn_r8, sat_solver_learn_r9, sat_solver_learn_r10, sat_solver_learn_r11, sat_solver_learn_r12, sat_solver_learn_r13, sat_solver_learn_r14, sat_solver_learn_r15, sat_solver_learn_r16, sat_solver_learn_r17, hp, sc, ints_length, List.length_append, Int.toNat_natCast, hlt, hil, hD, hrow]
    refine callPS hT t_sat_abs habs rfl 1000 ?_
    simp -implicitDefEqProofs (disch := omega) only [go_sem, need_of, ↓reduceIte, reduceCtorEq, Nat.reduceAdd, Nat.reduceEqDiff, Nat.reduceLeDiff, Nat.zero_add, Nat.mul_one, decide_false, gt_iff_lt, nts_length, Int.toNat_natCast, hm, keysOk_kn, e2, hlk, Int.lt_irrefl, hlv, hLv, g2', true_implies, true_and, and_true]
    exact ⟨_, _, Shift.refl _ _ _ _, wo, t', r, ow, ⟨ht, hrw, hm, hm0, ho, ho0, hne, rfl⟩, hrow, rfl, rfl, rfl, rfl, rfl, rfl, rfl, rfl, rfl⟩
  have g2' : ((y : Int) == 0) = false := beq_eq_false_iff_ne.2 (by omega)
  have g2p : ((y : Int) = 0) = False := eq_false (by omega)
  rw [if_neg fun q => q.elim g1 g2]
  have hsetm := hrw.setno hm0 (some (.map vm (kn (sn (st.seen ++ [x.natAbs])))))
  have hr1 : (r.set k0 (some (.map vm (kn (sn (st.seen ++ [x.natAbs]))))))[k1]? = some (some (.arr wo 3 (ints (0 :: st.out)))) := by rw [List.getElem?_set_ne hne]; exact ho
  have hrj : (r.set k0 (some (.map vm (kn (sn (st.seen ++ [x.natAbs]))))))[jc]? = some (some (.arr wc 3 (ints c ++ cells))) := by rw [List.getElem?_set_ne (Ne.symm hj0)]; exact hrow
  have hr0 : (r.set k0 (some (.map vm (kn (sn (st.seen ++ [x.natAbs]))))))[k0]? = some (some (.map vm (kn (sn (st.seen ++ [x.natAbs]))))) := List.getElem?_set_self hk0l
  obtain ⟨r1, hr1e⟩ : ∃ r1, r.set k0 (some (.map vm (kn (sn (st.seen ++ [x.natAbs]))))) = r1 := ⟨_, rfl⟩
  rw [hr1e] at hsetm hr1 hrj hr0
  have hkll : k1 < r1.length := by rw [← hr1e, List.length_set]; exact hk1l
  by_cases g3 : y = s.ms.length
  · have g3' : ((y : Int) == (s.ms.length : Int)) = true := beq_iff_eq.2 (by omega)
    rw [if_pos g3]
    refine W_round [(0, .ptr 0 K.s 0), (6, .mp (k0 + 10) vm), (7, .sl (k1 + 10) wo 0 1 (st.out.length + 1) none), (8, .int .i64 (st.op : Int)), (9, .int .i64 (st.level : Int)), (10, .int .i64 p), (31, .sl (jc + 10) wc 0 1 c.length none), (32, .int .i64 (c.length : Int)), (33, .int .i64 (i : Int))] ⟨f0, f6, f7, f8, f9, f10, f31, f32, f33, trivial⟩  1000 ?_
    simp -implicitDefEqProofs (disch := omega) only [go_sem, need_of, ↓reduceIte, reduceCtorEq, Nat.reduceEqDiff, Nat.zero_add, Nat.mul_one, decide_true, sat_solver_learn_r7, sat_solver_learn_r8, sat_solver_learn_r9, sat_solver_learn_r10, sat_solver_learn_r11, sat_solver_learn_r12, sat_solver_learn_r13, sat_solver_learn_r14, sat_solver_learn_r15, sat_solver_learn_r16, sat_solver_learn_r17, hp, sc, ints_length, List.length_append, Int.toNat_natCast, hlt, hil, hD, hrow]
    refine callPS hT t_sat_abs habs rfl 1000 ?_
    simp -implicitDefEqProofs (disch := omega) only [go_sem, need_of, ↓reduceIte, reduceCtorEq, Nat.reduceAdd, Nat.reduceEqDiff, Nat.reduceLeDiff, Nat.zero_add, Nat.mul_one, decide_false, Bool.not_false, Nat.zero_le, gt_iff_lt, nts_length, Int.toNat_natCast, hm, keysOk_kn, e2, hlk, Int.lt_irrefl, hlv, hLv, g2', g3', hkp, hr1e, hhe, hHe, hhe2, nts_put, hop2, true_implies, true_and, and_true]
    exact ⟨_, _, Shift.refl _ _ _ _, wo, t', r1, ow, ⟨ht, hsetm, hr0, hm0, hr1, ho0, hne, by simp [hp, sc]⟩, hrj, rfl, rfl, rfl, rfl, rfl, rfl, rfl, rfl, rfl⟩
  · have g3' : ((y : Int) == (s.ms.length : Int)) = false := beq_eq_false_iff_ne.2 (by omega)
    rw [if_neg g3]
    have hmax : (if st.level < y then (y : Int) else (st.level : Int)) = ((max st.level y : Nat) : Int) := by split <;> omega
    have hol : st.out.length ≤ 1000 := by
      have h1 := nodup_lt (n := N) hst.outn fun v hv => by
        obtain ⟨z, hz, rfl⟩ := List.mem_map.1 hv
        exact hst.sn _ (hst.out z hz).2.2.2.2
      rw [List.length_map] at h1; omega
    have hsnoc : ints (0 :: st.out) ++ [.int .i64 x] = ints (0 :: (st.out ++ [x])) := ints_snoc _ _
    refine W_round [(0, .ptr 0 K.s 0), (6, .mp (k0 + 10) vm), (7, .sl (k1 + 10) wo 0 1 (st.out.length + 1) none), (8, .int .i64 (st.op : Int)), (9, .int .i64 (st.level : Int)), (10, .int .i64 p), (31, .sl (jc + 10) wc 0 1 c.length none), (32, .int .i64 (c.length : Int)), (33, .int .i64 (i : Int))] ⟨f0, f6, f7, f8, f9, f10, f31, f32, f33, trivial⟩  1000 ?_
    simp -implicitDefEqProofs (disch := omega) only [go_sem, need_of, ↓reduceIte, reduceCtorEq, Nat.reduceEqDiff, Nat.zero_add, Nat.mul_one, decide_true, sat_solver_learn_r7, sat_solver_learn_r8, sat_solver_learn_r9, sat_solver_learn_r10, sat_solver_learn_r11, sat_solver_learn_r12, sat_solver_learn_r13, sat_solver_learn_r14, sat_solver_learn_r15, sat_solver_learn_r16, sat_solver_learn_r17, hp, sc, ints_length, List.length_append, Int.toNat_natCast, hlt, hil, hD, hrow]
    refine callPS hT t_sat_abs habs rfl 1000 ?_
    simp -implicitDefEqProofs (disch := omega) only [go_sem, need_of, ↓reduceIte, reduceCtorEq, Nat.reduceAdd, Nat.reduceEqDiff, Nat.reduceLeDiff, Nat.zero_add, Nat.mul_one, decide_false, Bool.not_true, Bool.not_false, Nat.le_refl, Nat.zero_le, gt_iff_lt, nts_length, ints_length, Int.toNat_natCast, hm, keysOk_kn, e2, hlk, Int.lt_irrefl, hlv, hLv, g2', g3', hkp, hr1e, hhe, hHe, hhe2, nts_put, hr1, hsnoc, List.length_cons, hmax, true_implies, true_and, and_true]
    refine ⟨_, _, Shift.refl _ _ _ _, t', t' + 1, _, ow, ⟨by omega, hsetm.setno ho0 _, by rw [List.getElem?_set_ne (Ne.symm hne)]; exact hr0, hm0, List.getElem?_set_self hkll, ho0, hne, by simp [hp, sc]⟩, by rw [List.getElem?_set_ne (Ne.symm hj1)]; exact hrj, rfl, rfl, rfl, rfl, rfl, rfl, rfl, rfl, rfl⟩

theorem l1_done (hT : TabOk P tab) {fu t k0 k1 vm jc wc : Nat} {p : Int} {K : Vs} {s : S} {ps : List V} {es : List (Int × V)} {cs : List V} {c : List Int} {cells : List V} {st0 : L} {i : Nat} (hii : i = c.length) {fr : Fr} {σ : H} (hJ : l1J K s fu t ps es cs k0 k1 vm jc wc p c cells st0 i fr σ) :
    W P G 142 0 (AC.seq (AC.reg sat_solver_learn_r7 [])   (AC.seq (AC.cond (Arg.t 34)   AC.skip   (AC.exit 2))   (AC.seq (AC.block 3 (AC.seq (AC.reg sat_solver_learn_r8 [35, 36])   (AC.seq (AC.reg sat_solver_learn_r9 [37, 38])   (AC.seq (AC.seq (AC.reg sat_solver_learn_r10 [39, 40, 41, 42, 43, 44, 45, 46, 47, 48, 49, 50, 51])   (AC.cond (Arg.t 52)   (AC.exit 3)   AC.skip))   (AC.seq (AC.reg sat_solver_learn_r11 [53, 54])   (AC.seq (AC.reg sat_solver_learn_r12 [55, 56, 57, 58, 59, 60, 61, 62, 63])   (AC.seq (AC.seq (AC.reg sat_solver_learn_r13 [64, 65, 66, 67, 68, 69, 70, 71, 72, 73, 74, 75])   (AC.cond (Arg.t 76)   (AC.seq (AC.reg sat_solver_learn_r14 [77, 78])   (AC.exit 3))   AC.skip))   (AC.seq (AC.reg sat_solver_learn_r15 [79, 80, 81, 82])   (AC.reg sat_solver_learn_r16 [83, 84, 85, 86, 87, 88, 89, 90, 91])))))))))   (AC.reg sat_solver_learn_r17 [92])))) fr σ (seqQ (fun _ _ => False) (l1E K s fu t ps es cs k0 k1 vm p c st0)) := by
  obtain ⟨wo, t', r, ow, hte, hrow, f0, f6, f7, f8, f9, f10, f31, f32, f33⟩ := hJ
  have hge : ¬ (i : Int) < (c.length : Int) := by omega
  rw [hii, List.take_length] at hte f7 f8 f9
  generalize hst : L.mark s.lv s.ms.length st0 c = st at *
  refine W_round [(0, .ptr 0 K.s 0), (6, .mp (k0 + 10) vm), (7, .sl (k1 + 10) wo 0 1 (st.out.length + 1) none), (8, .int .i64 (st.op : Int)), (9, .int .i64 (st.level : Int)), (10, .int .i64 p), (31, .sl (jc + 10) wc 0 1 c.length none), (32, .int .i64 (c.length : Int)), (33, .int .i64 (i : Int))] ⟨f0, f6, f7, f8, f9, f10, f31, f32, f33, trivial⟩  1000 ?_
  simp -implicitDefEqProofs (disch := omega) only [go_sem, ↓reduceIte, reduceCtorEq, Nat.reduceEqDiff, decide_false, sat_solver_learn_r7, sat_solver_learn_r8, sat_solver_learn_r9, sat_solver_learn_r10, sat_solver_learn_r11, sat_solver_learn_r12, sat_solver_learn_r13, sat_solver_learn_r14, sat_solver_learn_r15, sat_solver_learn_r16, sat_solver_learn_r17, hge]
  unfold l1E
  rw [hst]
  exact ⟨rfl, wo, t', r, ow, hte, rfl, rfl, rfl, rfl, rfl, rfl⟩

/-- The trail is gone down to what was met. -/
abbrev l2J (K : Vs) (s : S) (k0 k1 vm wo : Nat) (st : L) (σ0 : H) (R : Option (Int × L)) (N M : Nat) : Nat → Fr → H → Prop := fun p fr σ => p ≤ M ∧ LInv N s p st ∧ s.walk (s.tr.take p).reverse st = R ∧ 1 ≤ st.op ∧
  fget fr 0 = .ptr 0 K.s 0 ∧ fget fr 6 = .mp (k0 + 10) vm ∧ fget fr 7 = .sl (k1 + 10) wo 0 1 (st.out.length + 1) none ∧ fget fr 8 = .int .i64 (st.op : Int) ∧ fget fr 9 = .int .i64 (st.level : Int) ∧ fget fr 10 = .int .i64 ((p : Int) - 1) ∧ σ = σ0
abbrev l2E (K : Vs) (s : S) (k0 k1 vm wo : Nat) (st : L) (σ0 : H) (R : Option (Int × L)) (N M : Nat) : AE → Fr → H → Prop := fun e fr σ => e = .ex 4 ∧ ∃ p l, p + 1 ≤ M ∧ s.tr[p]? = some l ∧ l.natAbs ∈ st.seen ∧ LInv N s (p + 1) st ∧ s.walk (s.tr.take (p + 1)).reverse st = R ∧
  fget fr 0 = .ptr 0 K.s 0 ∧ fget fr 6 = .mp (k0 + 10) vm ∧ fget fr 7 = .sl (k1 + 10) wo 0 1 (st.out.length + 1) none ∧ fget fr 8 = .int .i64 (st.op : Int) ∧ fget fr 9 = .int .i64 (st.level : Int) ∧ fget fr 10 = .int .i64 (p : Int) ∧ σ = σ0

theorem walk_down {s : S} {p : Nat} {st : L} {l : Int} (hl : s.tr[p]? = some l) (h : l.natAbs ∉ st.seen) : s.walk (s.tr.take (p + 1)).reverse st = s.walk (s.tr.take p).reverse st := by
  have htake : s.tr.take (p + 1) = s.tr.take p ++ [l] := by rw [List.take_add_one, hl]; rfl
  rw [htake, List.reverse_append, List.reverse_singleton, List.singleton_append]
  conv => lhs; unfold S.walk
  rw [if_neg h]

theorem l2_round (hT : TabOk P tab) {N M fu k0 k1 vm wo t' : Nat} {K : Vs} {s : S} {ps : List V} {es : List (Int × V)} {cs : List V} {r : List (Option Ob)} {st : L} {R : Option (Int × L)} (hi : Inv N s) (hN : N ≤ 1000) (hm : r[k0]? = some (some (.map vm (kn (sn st.seen)))))
    {m : Nat} {fr : Fr} {σ : H} (hJ : l2J K s k0 k1 vm wo st (hp K { s with he := st.he } fu t' es cs ps r) R N M m fr σ) :
    W P G 142 0 (AC.seq (AC.seq (AC.reg sat_solver_learn_r18 [93, 94, 95, 96, 97, 98, 99, 100, 101, 102])   (AC.cond (Arg.t 103)   AC.skip   (AC.exit 4)))   (AC.block 5 (AC.reg sat_solver_learn_r19 [104, 105]))) fr σ (seqQ (fun fr σ => ∃ m' fr' σ', m' < m ∧ Shift G 142 0 fr σ fr' σ' ∧ l2J K s k0 k1 vm wo st (hp K { s with he := st.he } fu t' es cs ps r) R N M m' fr' σ') (l2E K s k0 k1 vm wo st (hp K { s with he := st.he } fu t' es cs ps r) R N M)) := by
  obtain ⟨hM, hs, hR, hop, f0, f6, f7, f8, f9, f10, rfl⟩ := hJ
  have hple := hs.ple
  cases m with
  | zero => have := hs.opn; simp at this; omega
  | succ p =>
    have htl := okc_len hi.tro
    have hpl : p < s.tr.length := by omega
    obtain ⟨l, hl⟩ : ∃ l, s.tr[p]? = some l := ⟨_, List.getElem?_eq_getElem hpl⟩
    have hlN := (hi.tro.1 l (List.mem_of_getElem? hl)).2
    have f10 : fget fr 10 = .int .i64 (p : Int) := by rw [f10]; congr 1; omega
    have hD : (ints s.tr).getD p V.any = .int .i64 l := ints_getD hl
    have habs := c_abs (P := P) (G := G) hT (n := l) (by omega)
    have hopn := hs.opn
    have htake : s.tr.take (p + 1) = s.tr.take p ++ [l] := by rw [List.take_add_one, hl]; rfl
    by_cases g1 : l.natAbs ∈ st.seen
    · have hlk := kn_look1 g1
      refine W_round [(0, .ptr 0 K.s 0), (6, .mp (k0 + 10) vm), (7, .sl (k1 + 10) wo 0 1 (st.out.length + 1) none), (8, .int .i64 (st.op : Int)), (9, .int .i64 (st.level : Int)), (10, .int .i64 (p : Int))] ⟨f0, f6, f7, f8, f9, f10, trivial⟩  1000 ?_
      simp -implicitDefEqProofs (disch := omega) only [go_sem, need_of, ↓reduceIte, reduceCtorEq, Nat.reduceAdd, Nat.reduceEqDiff, Nat.reduceLeDiff, Nat.zero_add, Nat.mul_one, sat_solver_learn_r18, sat_solver_learn_r19, hp, sc, ints_length, Int.toNat_natCast, hpl, hD]
      refine callPS hT t_sat_abs habs rfl 1000 ?_
      simp -implicitDefEqProofs (disch := omega) only [go_sem, ↓reduceIte, reduceCtorEq, Nat.reduceEqDiff, hm, keysOk_kn, hlk, Int.reduceBEq]
      exact ⟨rfl, p, l, hM, hl, g1, hs, hR, rfl, rfl, rfl, rfl, rfl, rfl, rfl⟩
    · have hlk := kn_look0 g1
      have hw : IntKind.i64.wrap ((p : Int) - 1) = (p : Int) - 1 := by
        rw [wrap_id] <;> (try omega)
        all_goals (first | (simp [IntKind.min, IntKind.signed, IntKind.bits]; omega) | (simp [IntKind.max, IntKind.signed, IntKind.bits]; omega))
      refine W_round [(0, .ptr 0 K.s 0), (6, .mp (k0 + 10) vm), (7, .sl (k1 + 10) wo 0 1 (st.out.length + 1) none), (8, .int .i64 (st.op : Int)), (9, .int .i64 (st.level : Int)), (10, .int .i64 (p : Int))] ⟨f0, f6, f7, f8, f9, f10, trivial⟩  1000 ?_
      simp -implicitDefEqProofs (disch := omega) only [go_sem, need_of, ↓reduceIte, reduceCtorEq, Nat.reduceAdd, Nat.reduceEqDiff, Nat.reduceLeDiff, Nat.zero_add, Nat.mul_one, sat_solver_learn_r18, sat_solver_learn_r19, hp, sc, ints_length, Int.toNat_natCast, hpl, hD]
      refine callPS hT t_sat_abs habs rfl 1000 ?_
      simp -implicitDefEqProofs (disch := omega) only [go_sem, ↓reduceIte, reduceCtorEq, Nat.reduceEqDiff, beq_self_eq_true, hm, keysOk_kn, hlk, hw]
      refine ⟨p, _, _, Nat.lt_succ_self _, Shift.refl _ _ _ _, by omega, ⟨by omega, hs.hlen, hs.heat, ?_, hs.sn, hs.out, hs.outn, hs.lvl⟩, by rw [← walk_down hl g1]; exact hR, hop, rfl, rfl, rfl, rfl, rfl, rfl, rfl⟩
      rw [hopn, htake, List.countP_append]
      simp [cnt, g1]
end Go.Proofs.Ytpepmhmgfpkdmaa

