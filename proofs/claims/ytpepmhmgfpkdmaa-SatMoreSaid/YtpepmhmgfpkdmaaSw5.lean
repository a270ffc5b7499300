/- Contracts: a clause is visited. -/
import Derived.Test.YtpepmhmgfpkdmaaSw4
namespace Go.Proofs.Ytpepmhmgfpkdmaa
open Go Go.Am Go.Cl Go.Sat
set_option maxRecDepth 100000
variable {P : Program} {G : Nat → Option V}

theorem cut {n base : Nat} {c : AC} {s : List KI} {Q : AE → Fr → H → Prop} {fr : Fr} {σ : H} (J : Fr → H → Prop) (h1 : W P G n base c fr σ fun e fr σ => e = .nrm ∧ J fr σ) (h2 : ∀ fr σ, J fr σ → sem P G n base Q s .nrm fr σ) : sem P G n base Q (.ac c :: s) .nrm fr σ :=
  h1.conseq fun e fr σ ⟨he, hJ⟩ => by subst he; exact h2 fr σ hJ
theorem set_self {α : Type} {l : List α} {k : Nat} {x : α} (h : l[k]? = some x) : l.set k x = l := by
  obtain ⟨h1, h2⟩ := List.getElem?_eq_some_iff.1 h
  rw [← h2, List.set_getElem_self]
theorem ints_put0 {c : List Int} {x : Int} (h : 0 < c.length) : .int .i64 x :: (ints c).drop 1 = ints (c.set 0 x) := by
  cases c with
  | nil => simp at h
  | cons a c => simp [ints]
theorem Left.of {K : Vs} {fu t : Nat} {ps : List V} {l : Int} {rest rest' : List (Option Ob)} {ow : Nat → Own} {s' : S} {es : List (Int × V)} {cs : List V} (h : RW s' es cs rest' ow) (hf : Fm l rest rest' ow ow) : Left K fu t ps l rest ow s' (hp K s' fu t es cs ps rest') := ⟨K.t, es, cs, rest', ow, t, Nat.le_refl _, h, hf, rfl⟩

theorem Fm.set {l : Int} {r0 r : List (Option Ob)} {ow ow' : Nat → Own} (h : Fm l r0 r ow ow') {j : Nat} {x : Option Ob} (h1 : ow' j ≠ .wt l) (h2 : ow' j ≠ .no) : Fm l r0 (r.set j x) ow ow' :=
  ⟨fun i hi e => ⟨by rw [List.getElem?_set_ne (fun q => h1 (by rw [q]; exact (h.wt i hi e).2))]; exact (h.wt i hi e).1, (h.wt i hi e).2⟩, fun i hi e => ⟨by rw [List.getElem?_set_ne (fun q => h2 (by rw [q]; exact (h.no i hi e).2))]; exact (h.no i hi e).1, (h.no i hi e).2⟩⟩
theorem Fm.own {l x : Int} {r0 r : List (Option Ob)} {ow ow' : Nat → Own} (h : Fm l r0 r ow ow') {j : Nat} (hx : x ≠ l) (hj : ow' j = .wt x) : Fm l r0 r ow fun i => if i = j then .wt x else ow' i := by
  have key : ∀ i, ow' i = .wt l ∨ ow' i = .no → i ≠ j := fun i hi q => by
    subst q; rw [hj] at hi
    rcases hi with e | e
    · cases e; exact hx rfl
    · cases e
  exact ⟨fun i hi e => ⟨(h.wt i hi e).1, by show (if i = j then _ else _) = _; rw [if_neg (key i (.inl (h.wt i hi e).2))]; exact (h.wt i hi e).2⟩, fun i hi e => ⟨(h.no i hi e).1, by show (if i = j then _ else _) = _; rw [if_neg (key i (.inr (h.no i hi e).2))]; exact (h.no i hi e).2⟩⟩
theorem Fm.new {l x : Int} {r0 r : List (Option Ob)} {ow ow' : Nat → Own} (h : Fm l r0 r ow ow') (hl : r0.length ≤ r.length) {y : Option Ob} : Fm l r0 (r ++ [y]) ow fun i => if i = r.length then .wt x else ow' i := by
  exact ⟨fun i hi e => ⟨by rw [List.getElem?_append_left (by omega)]; exact (h.wt i hi e).1, by show (if i = _ then _ else _) = _; rw [if_neg (by omega)]; exact (h.wt i hi e).2⟩, fun i hi e => ⟨by rw [List.getElem?_append_left (by omega)]; exact (h.no i hi e).1, by show (if i = _ then _ else _) = _; rw [if_neg (by omega)]; exact (h.no i hi e).2⟩⟩

/-- The clause that is visited, and where it lies. -/
structure At (N n : Nat) (l : Int) (s : S) (d : List Int) (cs : List V) (rest : List (Option Ob)) (ow : Nat → Own) (j w : Nat) : Prop where
  va : s.va.length = N
  lv : s.lv.length = N
  re : s.re.length = N
  tri : ∀ v, Tri (s.va.getD v 0)
  ok : Okc N d
  len : 2 ≤ d.length
  bl : d.length ≤ 1000
  one : d[1]? = some l
  lt : n < s.cl.length
  row : cs[n]? = some (.sl (j + 10) w 0 1 d.length none)
  cell : rest[j]? = some (some (.arr w 3 (ints d)))
  own : ow j = .cl n
  wl : ∀ x, x ≠ l → (s.wt x).length ≤ 8388608

abbrev viJ (K : Vs) (fu t n j w : Nat) (ps : List V) (s : S) (d : List Int) (es : List (Int × V)) (cs : List V) (rest : List (Option Ob)) : Nat → Fr → H → Prop := fun m fr σ => ∃ k : Nat, 2 ≤ k ∧ k ≤ d.length ∧ m = d.length - k ∧ (∀ i y, 2 ≤ i → i < k → d[i]? = some y → s.is y = -1) ∧
  fget fr 0 = .ptr 0 K.s 0 ∧ fget fr 1 = .int .i64 (n : Int) ∧ fget fr 9 = .sl (j + 10) w 0 1 d.length none ∧ fget fr 10 = .int .i64 (k : Int) ∧ σ = hp K s fu t es cs ps rest
abbrev viE (K : Vs) (fu t n j w : Nat) (ps : List V) (l : Int) (s : S) (d : List Int) (es : List (Int × V)) (cs : List V) (rest0 rest : List (Option Ob)) (ow : Nat → Own) : AE → Fr → H → Prop := fun e fr σ =>
  (e = .ret ∧ fget fr 6 = .bool true ∧ fget fr 7 = .bool false ∧ fget fr 8 = .bool false ∧ ∃ k, s.find d 2 = some k ∧ Left K fu t ps l rest0 ow ((s.put n (swap d 1 k)).push (d.getD k 0) n) σ) ∨
  (e = .ex 0 ∧ s.find d 2 = none ∧ fget fr 0 = .ptr 0 K.s 0 ∧ fget fr 1 = .int .i64 (n : Int) ∧ fget fr 9 = .sl (j + 10) w 0 1 d.length none ∧ σ = hp K s fu t es cs ps rest)

theorem vis_round (hT : TabOk P tab) {N fu t n j w : Nat} {K : Vs} {ps : List V} {s : S} {l : Int} {d : List Int} {es : List (Int × V)} {cs : List V} {rest0 rest : List (Option Ob)} {ow : Nat → Own} (hN : N ≤ 1000) (ha : At N n l s d cs rest ow j w) (hw : RW s es cs rest ow) (hd : s.cl[n]? = some d) (hf : Fm l rest0 rest ow ow) (hr0 : rest0.length = rest.length) (hn : n ≤ 8388608)
    {m : Nat} {fr : Fr} {σ : H} (hJ : viJ K fu t n j w ps s d es cs rest m fr σ) :
    W P G 95 0 (AC.seq (AC.seq (AC.reg sat_solver_visit_r7 [39, 40, 41])   (AC.cond (Arg.t 42)   AC.skip   (AC.exit 0)))   (AC.seq (AC.block 1 (AC.seq (AC.reg sat_solver_visit_r8 [45, 46, 47, 48, 49, 50])   (AC.cond (Arg.t 51)   (AC.seq (AC.reg sat_solver_visit_r9 [52, 53, 54, 55, 56, 57, 58, 59, 60, 61, 62, 63])   (AC.seq (AC.reg sat_solver_visit_r10 [64, 65, 66, 67, 68, 69, 70, 71, 72, 73, 74, 75, 76, 77, 78, 79, 80, 81])   (AC.seq (AC.reg sat_solver_visit_r11 [])   AC.ret)))   AC.skip)))   (AC.reg sat_solver_visit_r12 [43, 44]))) fr σ (seqQ (fun fr σ => ∃ m' fr' σ', m' < m ∧ Shift G 95 0 fr σ fr' σ' ∧ viJ K fu t n j w ps s d es cs rest m' fr' σ') (viE K fu t n j w ps l s d es cs rest0 rest ow)) := by
  have hcell := ha.cell
  obtain ⟨k, hk2, hkl, rfl, hno, f0, f1, f9, f10, rfl⟩ := hJ
  have hdN := ha.ok
  rcases Nat.lt_or_ge k d.length with hlt | hge
  · have hdk : d[k]? = some (d.getD k 0) := some_getD hlt
    have hD := ints_getD' hlt
    have hdkN := (hdN.1 _ (List.mem_of_getElem? hdk)).2
    have hlt' : (k : Int) < (d.length : Int) := by omega
    refine W_round [(0, .ptr 0 K.s 0), (1, .int .i64 (n : Int)), (9, .sl (j + 10) w 0 1 d.length none), (10, .int .i64 (k : Int))] ⟨f0, f1, f9, f10, trivial⟩  1000 ?_
    simp -implicitDefEqProofs (disch := omega) only [go_sem, need_of, ↓reduceIte, reduceCtorEq, Nat.reduceEqDiff, Nat.zero_add, Nat.mul_one, decide_true, sat_solver_visit_r7, sat_solver_visit_r8, sat_solver_visit_r9, sat_solver_visit_r10, sat_solver_visit_r11, sat_solver_visit_r12, hp, sc, ints_length, Int.toNat_natCast, hcell, hlt', hlt, hD]
    refine call hT t_sat_solver_is (c_is (s := s) hT (by rw [ha.va]; exact hdkN) (by rw [ha.va]; omega) (ha.tri _)) 1000 fun v σ hv => ?_
    obtain ⟨rfl, rfl⟩ := hv
    have hk1 : d[1]? = some (d.getD 1 0) := some_getD (by omega)
    have hbl := ha.bl
    generalize hdx : d.getD k 0 = x at *
    by_cases hx : s.is (x) = -1
    · have hx' : (s.is (x) != -1) = false := by simp [hx]
      have e2 := wnext hlt (by omega)
      simp -implicitDefEqProofs (disch := omega) only [go_sem, ↓reduceIte, reduceCtorEq, Nat.reduceEqDiff, hp, sc, hx', e2]
      refine ⟨d.length - (k + 1), _, _, by omega, Shift.refl _ _ _ _, k + 1, by omega, by omega, rfl, fun i y h1 h2 h3 => ?_, rfl, rfl, rfl, rfl, rfl⟩
      rcases Nat.lt_or_ge i k with q | q
      · exact hno i y h1 q h3
      · have : i = k := by omega
        subst this
        rw [hdk] at h3; cases h3; exact hx
    · have hx' : (s.is (x) != -1) = true := by simp [hx]
      have hfind : s.find d 2 = some k := find_of hk2 hdk hx hno
      have hD1 := ints_getD' (l := d) (i := 1) (by omega)
      have hdne : x ≠ l := fun e => by have := nodup_at hdN.nodup (e ▸ hdk) ha.one; omega
      have hlt2 : k < (d.set 1 (x)).length := by simpa using hlt
      have hjl := (List.getElem?_eq_some_iff.1 hcell).1
      have hswd : swap d 1 k = (d.set 1 x).set k (d.getD 1 0) := by unfold swap; rw [hdx]
      have hsw : (swap d 1 k).getD 1 0 = x := by
        refine getD_some ?_
        rw [swap_getD d (by omega) hlt, if_neg (by omega), if_pos rfl]; exact hdk
      have hD2 : (ints ((d.set 1 (x)).set k (d.getD 1 0))).getD 1 V.any = .int .i64 (x) := by
        have := ints_getD' (l := swap d 1 k) (i := 1) (by rw [swap_length]; omega)
        rw [hsw, hswd] at this; exact this
      have hlen1 : 1 < d.length := by omega
      have hput := hw.putc (d := swap d 1 k) hd (swap_length d 1 k) ha.row hcell ha.own
      have hfp : Fm l rest0 (rest.set j (some (.arr w 3 (ints (swap d 1 k))))) ow ow := hf.set (by rw [ha.own]; exact fun e => by cases e) (by rw [ha.own]; exact fun e => by cases e)
      have hwl := ha.wl (x)
      rcases hput.wt (x) with ⟨hw0, hv⟩ | ⟨j', w', hv, hj', ho'⟩
      · simp -implicitDefEqProofs (disch := omega) only [go_sem, need_of, ↓reduceIte, reduceCtorEq, Nat.reduceAdd, Nat.reduceEqDiff, Nat.reduceLeDiff, Nat.reduceLT, Int.reduceToNat, Int.reduceLE, Nat.zero_add, Nat.mul_one, Nat.one_mul, Bool.not_false, Nat.le_refl, Nat.zero_le, hp, sc, ints_length, Int.toNat_natCast, hcell, hx', hlt, hD, hD1, hlen1, ints_put, List.length_set, List.getElem?_set_self, List.set_set, hD2, mget_kv, mput_kv, keysOk_kv, hv]
        have hnew := hput.neww (l := x) (w := t) (x := [n])
        rw [show (s.put n (swap d 1 k)).sub x [n] = (s.put n (swap d 1 k)).push x n by unfold S.push; rw [hw0]; rfl] at hnew
        have hfn := hfp.new (x := x) (y := some (.arr t 3 (nts [n]))) (by rw [List.length_set]; omega)
        rw [List.length_set] at hnew hfn
        rw [hswd] at hnew hfn
        exact .inl ⟨rfl, rfl, rfl, rfl, k, hfind, K.t, _, _, _, _, t + 1, by omega, by rw [hdx, hswd]; exact hnew, hfn, rfl⟩
      · rw [hswd] at hput hfp hj'
        have hjl' := (List.getElem?_eq_some_iff.1 hj').1
        replace hv : vAt es x = .sl (j' + 10) w' 0 1 (s.wt x).length none := hv
        replace hj' : (rest.set j (some (.arr w 3 (ints ((d.set 1 x).set k (d.getD 1 0))))))[j']? = some (some (.arr w' 3 (nts (s.wt x)))) := hj'
        simp -implicitDefEqProofs (disch := omega) only [go_sem, need_of, ↓reduceIte, reduceCtorEq, Nat.reduceAdd, Nat.reduceEqDiff, Nat.reduceLeDiff, Int.reduceToNat, Int.reduceLE, Nat.zero_add, Nat.mul_one, Bool.not_true, Bool.not_false, Nat.le_refl, Nat.zero_le, hp, sc, ints_length, Int.toNat_natCast, hcell, hx', hlt, hD, hD1, hlen1, ints_put, List.length_set, List.getElem?_set_self, List.set_set, hD2, mget_kv, mput_kv, keysOk_kv, hv, hj', nts_length, nts_snoc]
        have hnew := hput.setw (l := x) (j := j') (w := t) (x := s.wt x ++ [n]) hjl' (.inl ho')
        have hfn := (hfp.set (j := j') (x := some (.arr t 3 (nts (s.wt x ++ [n])))) (by rw [ho']; exact fun e => by cases e; exact hdne rfl) (by rw [ho']; exact fun e => by cases e)).own hdne ho'
        rw [List.length_append] at hnew
        exact .inl ⟨rfl, rfl, rfl, rfl, k, hfind, K.t, _, _, _, _, t + 1, by omega, by rw [hdx, hswd]; exact hnew, hfn, rfl⟩
  · have hk : k = d.length := by omega
    have hge' : ¬ (k : Int) < (d.length : Int) := by omega
    refine W_round [(0, .ptr 0 K.s 0), (1, .int .i64 (n : Int)), (9, .sl (j + 10) w 0 1 d.length none), (10, .int .i64 (k : Int))] ⟨f0, f1, f9, f10, trivial⟩  1000 ?_
    simp -implicitDefEqProofs (disch := omega) only [go_sem, ↓reduceIte, reduceCtorEq, Nat.reduceEqDiff, decide_false, sat_solver_visit_r7, sat_solver_visit_r8, sat_solver_visit_r9, sat_solver_visit_r10, sat_solver_visit_r11, sat_solver_visit_r12, hp, sc, hge']
    exact .inr ⟨rfl, find_no fun j y h2 hj => hno j y h2 (by have := (List.getElem?_eq_some_iff.1 hj).1; omega) hj, rfl, rfl, rfl, rfl⟩
end Go.Proofs.Ytpepmhmgfpkdmaa

