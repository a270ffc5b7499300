/- Contracts: what follows is looked at: the clauses of a literal. -/
import Derived.Test.YtpepmhmgfpkdmaaSw6
namespace Go.Am
open Go
variable {G : Nat → Option V}
/-- A slot, seen in another way. -/
theorem Shift.slot {n base : Nat} {fr : Fr} {σ : H} {s : Nat} {u : V} (h : ∀ I ρ x, VR I ρ (fget fr s) x → VR I ρ u x) : Shift G n base fr σ (fset fr s u) σ := fun I ρ w a hR hF hb =>
  ⟨I, ρ, hR, ⟨hF.defers, hF.size, fun t => by
    rw [fget_fset]
    split
    · rename_i e; subst e; exact h I ρ _ (hF.vals s)
    · exact hF.vals t⟩, Step.refl _ _ _ _ _, hb⟩
theorem VR.tight {I : Imm} {ρ : Names} {n v off sz : Nat} {x : Value} (h : VR I ρ (.sl n v off sz 0 (some 0)) x) : VR I ρ (.lst 0 [] true) x := by
  cases h with
  | sl _ _ _ _ _ _ _ b o e cap h1 h2 h3 h4 => exact .lstN _ _ _ _ _ fun _ => (h3 0 rfl).1
  | slN _ _ _ _ _ a h1 h2 => exact .lstN _ _ _ _ _ fun _ => rfl
end Go.Am
namespace Go.Proofs.Ytpepmhmgfpkdmaa
open Go Go.Am Go.Cl Go.Sat
set_option maxRecDepth 100000
variable {P : Program} {G : Nat → Option V}

theorem RW.newno {s : S} {es : List (Int × V)} {cs : List V} {rest : List (Option Ob)} {ow : Nat → Own} (h : RW s es cs rest ow) (x : Option Ob) : RW s es cs (rest ++ [x]) fun i => if i = rest.length then .no else ow i := by
  have hg : ∀ {j : Nat} {y : Option Ob}, rest[j]? = some y → (rest ++ [x])[j]? = some y ∧ (if j = rest.length then Own.no else ow j) = ow j := fun {j y} hj => by
    have := (List.getElem?_eq_some_iff.1 hj).1
    exact ⟨by rw [List.getElem?_append_left this]; exact hj, if_neg (by omega)⟩
  refine ⟨h.len, fun m c hc => ?_, fun l => (h.wt l).imp id fun ⟨j, w, h1, h2, h3⟩ => ⟨j, w, h1, (hg h2).1, (hg h2).2.trans h3⟩⟩
  obtain ⟨j, w, h1, h2, h3⟩ := h.cl m c hc
  exact ⟨j, w, h1, (hg h2).1, (hg h2).2.trans h3⟩
theorem RW.setno {s : S} {es : List (Int × V)} {cs : List V} {rest : List (Option Ob)} {ow : Nat → Own} (h : RW s es cs rest ow) {j : Nat} (hj : ow j = .no) (x : Option Ob) : RW s es cs (rest.set j x) ow := by
  have hg : ∀ {i : Nat} {y : Option Ob}, ow i ≠ .no → rest[i]? = some y → (rest.set j x)[i]? = some y := fun {i y} hi hy => by
    rw [List.getElem?_set_ne (fun e => hi (by rw [← e]; exact hj))]; exact hy
  refine ⟨h.len, fun m c hc => ?_, fun l => (h.wt l).imp id fun ⟨i, w, h1, h2, h3⟩ => ⟨i, w, h1, hg (by rw [h3]; exact fun e => by cases e) h2, h3⟩⟩
  obtain ⟨i, w, h1, h2, h3⟩ := h.cl m c hc
  exact ⟨i, w, h1, hg (by rw [h3]; exact fun e => by cases e) h2, h3⟩

theorem Bd.ext {fu N : Nat} {s s' : S} (h : Bd fu N s) (e : Ext s s') : Bd fu N s' :=
  ⟨h.bn, h.bf, Nat.le_trans e.le h.lf, by have := h.cl; have := e.len; have := e.le; omega, by have := h.pf; rw [e.pf]; have := e.le; omega, fun v => by have := h.he v; rw [e.he]; have := e.le; omega⟩

/-- The solver's heap at some versions. -/
def Can (K : Vs) (fu t : Nat) (ps : List V) (s : S) (σ : H) : Prop := ∃ K' es cs rest ow t', t ≤ t' ∧ K'.s = K.s ∧ RW s es cs rest ow ∧ σ = hp K' s fu t' es cs ps rest

/-- A row that a slot holds. -/
def Row (rest : List (Option Ob)) (ow : Nat → Own) (o : Own) (l : List Nat) (v : V) : Prop := (l = [] ∧ v = .lst 0 [] true) ∨ ∃ j w, v = .sl (j + 10) w 0 1 l.length none ∧ rest[j]? = some (some (.arr w 3 (nts l))) ∧ ow j = o

theorem Row.fm {l0 : Int} {rest rest' : List (Option Ob)} {ow ow' : Nat → Own} (h : Fm l0 rest rest' ow ow') {o : Own} (ho : o = .wt l0 ∨ o = .no) {l : List Nat} {v : V} (hr : Row rest ow o l v) : Row rest' ow' o l v := by
  rcases hr with h1 | ⟨j, w, h1, h2, h3⟩
  · exact .inl h1
  · have hl := (List.getElem?_eq_some_iff.1 h2).1
    rcases ho with rfl | rfl
    · obtain ⟨a, b⟩ := h.wt j hl h3
      exact .inr ⟨j, w, h1, a.trans h2, b⟩
    · obtain ⟨a, b⟩ := h.no j hl h3
      exact .inr ⟨j, w, h1, a.trans h2, b⟩

abbrev spJ (K : Vs) (N fu t : Nat) (ps : List V) (l : Int) (old : List Nat) (R : Option (S × Option Nat)) : Nat → Fr → H → Prop := fun i fr σ =>
  ∃ s kp K' es cs rest ow t', t ≤ t' ∧ K'.s = K.s ∧ S.pass l kp (old.drop i) s = R ∧ Inv N (s.sub l (kp ++ old.drop i)) ∧ -l ∈ s.tr ∧ Bd fu N s ∧ RW s es cs rest ow ∧
    fget fr 0 = .ptr 0 K.s 0 ∧ fget fr 4 = .int .i64 l ∧ Row rest ow (.wt l) old (fget fr 5) ∧ Row rest ow .no kp (fget fr 6) ∧ fget fr 48 = fget fr 5 ∧ fget fr 49 = .int .i64 (old.length : Int) ∧ fget fr 50 = .int .i64 (i : Int) ∧ σ = hp K' s fu t' es cs ps rest
abbrev spE (K : Vs) (N fu t : Nat) (ps : List V) (l : Int) (R : Option (S × Option Nat)) : AE → Fr → H → Prop := fun e fr σ =>
  (e = .ret ∧ ((R = none ∧ (∃ n, fget fr 2 = .int .i64 n) ∧ fget fr 3 = .bool true ∧ ∃ s, Can K fu t ps s σ) ∨ ∃ (s : S) (n : Nat), R = some (s, some n) ∧ fget fr 2 = .int .i64 (n : Int) ∧ fget fr 3 = .bool false ∧ Can K fu t ps s σ)) ∨
  (e = .ex 2 ∧ ∃ s kp K' es cs rest ow t', t ≤ t' ∧ K'.s = K.s ∧ R = some (s.sub l kp, none) ∧ Inv N (s.sub l kp) ∧ Bd fu N s ∧ RW s es cs rest ow ∧ fget fr 0 = .ptr 0 K.s 0 ∧ fget fr 4 = .int .i64 l ∧ Row rest ow .no kp (fget fr 6) ∧ σ = hp K' s fu t' es cs ps rest)

theorem Row.newno {rest : List (Option Ob)} {ow : Nat → Own} {o : Own} {l : List Nat} {v : V} (hr : Row rest ow o l v) (x : Option Ob) : Row (rest ++ [x]) (fun i => if i = rest.length then .no else ow i) o l v := by
  rcases hr with h1 | ⟨j, w, h1, h2, h3⟩
  · exact .inl h1
  · have hl := (List.getElem?_eq_some_iff.1 h2).1
    exact .inr ⟨j, w, h1, by rw [List.getElem?_append_left hl]; exact h2, (if_neg (by omega)).trans h3⟩
theorem Row.setno {rest : List (Option Ob)} {ow : Nat → Own} {o : Own} {l : List Nat} {v : V} (hr : Row rest ow o l v) {j : Nat} (hj : ow j = .no) (ho : o ≠ .no) (x : Option Ob) : Row (rest.set j x) ow o l v := by
  rcases hr with h1 | ⟨i, w, h1, h2, h3⟩
  · exact .inl h1
  · exact .inr ⟨i, w, h1, by rw [List.getElem?_set_ne (fun e => ho (by rw [← h3, ← e, hj]))]; exact h2, h3⟩

theorem nts_rest (l : List Nat) (i : Nat) : List.take (l.length - i) (List.drop i (nts l)) = nts (l.drop i) := by
  rw [List.take_of_length_le (by rw [List.length_drop, nts_length]; omega)]
  simp [nts]
theorem nts_app (l m : List Nat) : nts l ++ nts m = nts (l ++ m) := by simp [nts]

theorem drop_at {old : List Nat} {i n : Nat} (h : old[i]? = some n) : old.drop i = n :: old.drop (i + 1) := by
  obtain ⟨h1, h2⟩ := List.getElem?_eq_some_iff.1 h
  rw [List.drop_eq_getElem_cons h1, h2]

theorem sp_round (hT : TabOk P tab) {N fu t : Nat} {K : Vs} {ps : List V} {l : Int} {old : List Nat} {R : Option (S × Option Nat)} {i : Nat} (hold : old.length ≤ 8388608) {n : Nat} (hn : old[i]? = some n) {fr : Fr} {σ : H} (hJ : spJ K N fu t ps l old R i fr σ) :
    W P G 93 0 (AC.seq (AC.reg sat_solver_spread_r7 [])   (AC.seq (AC.cond (Arg.t 51)   AC.skip   (AC.exit 2))   (AC.seq (AC.block 3 (AC.seq (AC.reg sat_solver_spread_r8 [52, 53, 54])   (AC.seq (AC.reg sat_solver_spread_r9 [56, 57, 58, 59, 55, 60, 61, 62])   (AC.seq (AC.block 4 (AC.seq (AC.reg sat_solver_spread_r10 [64])   (AC.cond (Arg.t 63)   (AC.exit 3)   (AC.seq (AC.reg sat_solver_spread_r11 [66, 67, 68, 69])   (AC.cond (Arg.t 65)   (AC.seq (AC.reg sat_solver_spread_r12 [70, 71, 72, 73, 74, 75, 76, 77, 78, 79])   (AC.seq (AC.reg sat_solver_spread_r13 [80, 81])   AC.ret))   AC.skip)))))   (AC.reg sat_solver_spread_r14 [82, 83, 84, 85])))))   (AC.reg sat_solver_spread_r15 [86])))) fr σ (seqQ (fun fr σ => ∃ fr' σ', Shift G 93 0 fr σ fr' σ' ∧ spJ K N fu t ps l old R (i + 1) fr' σ') (spE K N fu t ps l R)) := by
  obtain ⟨s, kp, K', es, cs, rest, ow, t', ht, hK, hR, hi, hl, hb, hw, f0, f4, f5, f6, f48, f49, f50, rfl⟩ := hJ
  have hil := (List.getElem?_eq_some_iff.1 hn).1
  rw [drop_at hn] at hR hi
  have hlt : (i : Int) < (old.length : Int) := by omega
  rcases f5 with ⟨h0, _⟩ | ⟨jo, wo, f5, hjo, hoo⟩
  · rw [h0] at hil; simp at hil
  rw [f5] at f48
  have hD := nts_getD hil
  have hnD : old.getD i 0 = n := getD_some hn
  rw [hnD] at hD
  have hwl : ∀ x, x ≠ l → (s.wt x).length ≤ 8388608 := fun x hx => by
    have := wt_len hi x
    rw [sub_wt, if_neg hx] at this
    have h2 := hb.cl
    have : (s.wt x).length ≤ s.cl.length := this
    omega
  have hvis := visit_inv hi hl
  have hkl : kp.length ≤ 8388608 := by
    have h2 := wt_len hi l
    rw [sub_wt, if_pos rfl] at h2
    simp only [List.length_append] at h2
    have h3 := hb.cl
    have h4 : (s.sub l (kp ++ n :: old.drop (i + 1))).cl = s.cl := rfl
    rw [h4] at h2
    omega
  have e2 := wnext hil (by omega)
  generalize hkv : fget fr 6 = kv6 at f6
  have f6e := hkv
  have f6' := f6
  have f6 := hkv
  rw [← hK] at f0
  refine W_round [(0, .ptr 0 K'.s 0), (4, .int .i64 l), (5, .sl (jo + 10) wo 0 1 old.length none), (48, .sl (jo + 10) wo 0 1 old.length none), (49, .int .i64 (old.length : Int)), (50, .int .i64 (i : Int)), (6, kv6)] ⟨f0, f4, f5, f48, f49, f50, f6, trivial⟩  1000 ?_
  simp -implicitDefEqProofs (disch := omega) only [go_sem, need_of, ↓reduceIte, reduceCtorEq, Nat.reduceEqDiff, Nat.zero_add, Nat.mul_one, decide_true, sat_solver_spread_r7, sat_solver_spread_r8, sat_solver_spread_r9, sat_solver_spread_r10, sat_solver_spread_r11, sat_solver_spread_r12, sat_solver_spread_r13, sat_solver_spread_r14, sat_solver_spread_r15, hp, sc, nts_length, Int.toNat_natCast, hlt, hil, hjo, hD]
  refine call hT t_sat_solver_visit (c_visit (K := K') (W0 := kp ++ n :: old.drop (i + 1)) hT hi (by simp) hb hw hwl) 1000 fun v σ hv => ?_
  unfold S.pass at hR
  generalize s.visit n l = vis at hv hvis hR
  cases vis with
  | moved s' =>
    obtain ⟨rfl, w2, es2, cs2, rest2, ow2, t2, ht2, hw2, hfm, rfl⟩ := hv
    simp -implicitDefEqProofs (disch := omega) only [go_sem, ↓reduceIte, reduceCtorEq, Nat.reduceAdd, Nat.reduceEqDiff, Nat.reduceLT, Nat.zero_add, hp, sc, e2]
    refine ⟨_, _, Shift.refl _ _ _ _, s', kp, { K' with t := w2 }, es2, cs2, rest2, ow2, t2, by omega, hK, hR, hvis.1, hvis.2.mem hl, hb.ext hvis.2, hw2, ?_, rfl, ?_, ?_, rfl, rfl, rfl, rfl⟩
    · rw [← hK]; rfl
    · exact Row.fm hfm (.inl rfl) (.inr ⟨jo, wo, rfl, hjo, hoo⟩)
    · exact Row.fm hfm (.inr rfl) f6'
  | kept s' =>
    obtain ⟨rfl, w2, es2, cs2, rest2, ow2, t2, ht2, hw2, hfm, rfl⟩ := hv
    have hrow5 : Row rest2 ow2 (.wt l) old (.sl (jo + 10) wo 0 1 old.length none) := Row.fm hfm (.inl rfl) (.inr ⟨jo, wo, rfl, hjo, hoo⟩)
    have hrow6 := Row.fm hfm (.inr rfl) f6'
    have hinv : Inv N (s'.sub l ((kp ++ [n]) ++ old.drop (i + 1))) := hvis.1
    rcases hrow6 with ⟨rfl, rfl⟩ | ⟨jk, wk, rfl, hjk, hok⟩
    · simp -implicitDefEqProofs (disch := omega) only [go_sem, ↓reduceIte, reduceCtorEq, Nat.reduceAdd, Nat.reduceEqDiff, Nat.reduceLeDiff, Nat.reduceLT, Nat.zero_add, Nat.one_mul, Nat.le_refl, hp, sc, e2]
      refine ⟨_, _, Shift.refl _ _ _ _, s', [n], { K' with t := w2 }, es2, cs2, _, _, t2 + 1, by omega, hK, hR, hinv, hvis.2.mem hl, hb.ext hvis.2, hw2.newno (some (.arr t2 3 (nts [n]))), ?_, rfl, hrow5.newno _, ?_, rfl, rfl, rfl, rfl⟩
      · rw [← hK]; rfl
      · exact .inr ⟨rest2.length, t2, rfl, by simp, if_pos rfl⟩
    · have hjkl := (List.getElem?_eq_some_iff.1 hjk).1
      simp -implicitDefEqProofs (disch := omega) only [go_sem, need_of, ↓reduceIte, reduceCtorEq, Nat.reduceAdd, Nat.reduceEqDiff, Nat.reduceLeDiff, Nat.reduceLT, Nat.zero_add, Nat.mul_one, Bool.not_true, Nat.le_refl, Nat.zero_le, hp, sc, nts_length, e2, hjk, nts_snoc]
      refine ⟨_, _, Shift.refl _ _ _ _, s', kp ++ [n], { K' with t := w2 }, es2, cs2, _, _, t2 + 1, by omega, hK, hR, hinv, hvis.2.mem hl, hb.ext hvis.2, hw2.setno hok (some (.arr t2 3 (nts (kp ++ [n])))), ?_, rfl, hrow5.setno hok (fun e => by cases e) _, ?_, rfl, rfl, rfl, rfl⟩
      · rw [← hK]; rfl
      · exact .inr ⟨jk, t2, by rw [List.length_append]; rfl, by rw [List.getElem?_set_self hjkl], hok⟩
  | bad s' =>
    obtain ⟨rfl, w2, es2, cs2, rest2, ow2, t2, ht2, hw2, hfm, rfl⟩ := hv
    have hrow6 := Row.fm hfm (.inr rfl) f6'
    have hjol := (List.getElem?_eq_some_iff.1 hjo).1
    obtain ⟨hjo2', hoo2⟩ := hfm.wt jo hjol hoo
    have hjo2 := hjo2'.trans hjo
    have hile : i ≤ old.length := by omega
    have hdl : (old.drop i).length = old.length - i := List.length_drop
    rcases hrow6 with ⟨rfl, rfl⟩ | ⟨jk, wk, rfl, hjk, hok⟩
    · simp -implicitDefEqProofs (disch := omega) only [go_sem, need_of, ↓reduceIte, reduceCtorEq, Nat.reduceAdd, Nat.reduceEqDiff, Nat.reduceLeDiff, Nat.reduceLT, Nat.zero_add, Nat.mul_one, Bool.not_false, Nat.zero_le, hp, sc, nts_length, Int.toNat_natCast, hjo2, mput_kv, keysOk_kv, hile, nts_rest]
      have hnew := hw2.neww (l := l) (w := t2) (x := old.drop i)
      rw [hdl] at hnew
      have hcan : Can K fu t ps (s'.sub l (old.drop i)) (hp { K' with t := w2 } s' fu (t2 + 1) (vPut l (.sl (rest2.length + 10) t2 0 1 (old.length - i) none) es2) cs2 ps (rest2 ++ [some (.arr t2 3 (nts (old.drop i)))])) := ⟨{ K' with t := w2 }, _, _, _, _, t2 + 1, by omega, hK, hnew, rfl⟩
      exact .inl ⟨rfl, .inr ⟨s'.sub l (old.drop i), n, by rw [← hR, drop_at hn]; rfl, rfl, rfl, hcan⟩⟩
    · have hjkl := (List.getElem?_eq_some_iff.1 hjk).1
      simp -implicitDefEqProofs (disch := omega) only [go_sem, need_of, ↓reduceIte, reduceCtorEq, Nat.reduceAdd, Nat.reduceEqDiff, Nat.reduceLeDiff, Nat.reduceLT, Nat.zero_add, Nat.mul_one, Bool.not_true, Bool.not_false, Nat.zero_le, hp, sc, nts_length, Int.toNat_natCast, hjo2, hjk, mput_kv, keysOk_kv, hile, nts_rest, nts_app]
      have hnew := hw2.setw (l := l) (j := jk) (w := t2) (x := kp ++ old.drop i) hjkl (.inr hok)
      rw [List.length_append, hdl] at hnew
      have hcan : Can K fu t ps (s'.sub l (kp ++ old.drop i)) (hp { K' with t := w2 } s' fu (t2 + 1) (vPut l (.sl (jk + 10) t2 0 1 (kp.length + (old.length - i)) none) es2) cs2 ps (rest2.set jk (some (.arr t2 3 (nts (kp ++ old.drop i)))))) := ⟨{ K' with t := w2 }, _, _, _, _, t2 + 1, by omega, hK, hnew, rfl⟩
      exact .inl ⟨rfl, .inr ⟨s'.sub l (kp ++ old.drop i), n, by rw [← hR, drop_at hn], rfl, rfl, hcan⟩⟩
  | out =>
    obtain ⟨rfl, s', w2, es2, cs2, rest2, ow2, t2, ht2, hw2, hfm, rfl⟩ := hv
    have hrow6 := Row.fm hfm (.inr rfl) f6'
    have hjol := (List.getElem?_eq_some_iff.1 hjo).1
    obtain ⟨hjo2', hoo2⟩ := hfm.wt jo hjol hoo
    have hjo2 := hjo2'.trans hjo
    have hile : i ≤ old.length := by omega
    have hdl : (old.drop i).length = old.length - i := List.length_drop
    rcases hrow6 with ⟨rfl, rfl⟩ | ⟨jk, wk, rfl, hjk, hok⟩
    · simp -implicitDefEqProofs (disch := omega) only [go_sem, need_of, ↓reduceIte, reduceCtorEq, Nat.reduceAdd, Nat.reduceEqDiff, Nat.reduceLeDiff, Nat.reduceLT, Nat.zero_add, Nat.mul_one, Bool.not_false, Nat.zero_le, hp, sc, nts_length, Int.toNat_natCast, hjo2, mput_kv, keysOk_kv, hile, nts_rest]
      have hnew := hw2.neww (l := l) (w := t2) (x := old.drop i)
      rw [hdl] at hnew
      have hcan : Can K fu t ps (s'.sub l (old.drop i)) (hp { K' with t := w2 } s' fu (t2 + 1) (vPut l (.sl (rest2.length + 10) t2 0 1 (old.length - i) none) es2) cs2 ps (rest2 ++ [some (.arr t2 3 (nts (old.drop i)))])) := ⟨{ K' with t := w2 }, _, _, _, _, t2 + 1, by omega, hK, hnew, rfl⟩
      exact .inl ⟨rfl, .inl ⟨hR.symm, ⟨_, rfl⟩, rfl, _, hcan⟩⟩
    · have hjkl := (List.getElem?_eq_some_iff.1 hjk).1
      simp -implicitDefEqProofs (disch := omega) only [go_sem, need_of, ↓reduceIte, reduceCtorEq, Nat.reduceAdd, Nat.reduceEqDiff, Nat.reduceLeDiff, Nat.reduceLT, Nat.zero_add, Nat.mul_one, Bool.not_true, Bool.not_false, Nat.zero_le, hp, sc, nts_length, Int.toNat_natCast, hjo2, hjk, mput_kv, keysOk_kv, hile, nts_rest, nts_app]
      have hnew := hw2.setw (l := l) (j := jk) (w := t2) (x := kp ++ old.drop i) hjkl (.inr hok)
      rw [List.length_append, hdl] at hnew
      have hcan : Can K fu t ps (s'.sub l (kp ++ old.drop i)) (hp { K' with t := w2 } s' fu (t2 + 1) (vPut l (.sl (jk + 10) t2 0 1 (kp.length + (old.length - i)) none) es2) cs2 ps (rest2.set jk (some (.arr t2 3 (nts (kp ++ old.drop i)))))) := ⟨{ K' with t := w2 }, _, _, _, _, t2 + 1, by omega, hK, hnew, rfl⟩
      exact .inl ⟨rfl, .inl ⟨hR.symm, ⟨_, rfl⟩, rfl, _, hcan⟩⟩

end Go.Proofs.Ytpepmhmgfpkdmaa

