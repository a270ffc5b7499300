/- Contracts: Solve: what is answered. -/
import Derived.Test.YtpepmhmgfpkdmaaSw17
namespace Go.Proofs.Ytpepmhmgfpkdmaa
open Go Go.Am Go.Cl Go.Sat
set_option maxRecDepth 100000
variable {P : Program} {G : Nat → Option V}

/-- The solver's heap behind two objects. -/
def hp2 (K : Vs) (s : S) (fu t : Nat) (x y : Option Ob) (es : List (V × V)) (cs ps : List V) (r : List (Option Ob)) : H :=
  ⟨t, x :: y :: some (.arr K.s 46 [.sl 10 K.c 0 1 cs.length none, .mp 3 K.m, .sl 4 K.v 0 1 s.va.length none, .sl 5 K.l 0 1 s.lv.length none, .sl 6 K.r 0 1 s.re.length none, .sl 7 K.h 0 1 s.he.length none, .sl 8 K.t 0 1 s.tr.length none, .int .i64 (s.dn : Int), .sl 9 K.k 0 1 s.ms.length none, .sl 11 K.p 0 1 ps.length none, .int .i64 (fu : Int), .int .i64 (fu - s.lf : Nat)]) ::
    some (.map K.m es) :: some (.arr K.v 50 (i8s s.va)) :: some (.arr K.l 3 (nts s.lv)) :: some (.arr K.r 3 (ints s.re)) :: some (.arr K.h 3 (nts s.he)) ::
    some (.arr K.t 3 (ints s.tr)) :: some (.arr K.k 3 (nts s.ms)) :: some (.arr K.c 37 cs) :: some (.arr K.p 37 ps) :: r⟩

theorem wkL_of : ∀ {l m : List V}, l.length = m.length → (∀ (j : Nat) (v' : V), m[j]? = some v' → ∃ v, l[j]? = some v ∧ Wk v v') → WkL l m
  | [], [], _, _ => .nil
  | a :: l, b :: m, h, k => .cons _ _ _ _ (by obtain ⟨v, e, w⟩ := k 0 b rfl; cases e; exact w) (wkL_of (by simpa using h) fun j v' e => by
      obtain ⟨v, e1, w⟩ := k (j + 1) v' (by simpa using e)
      exact ⟨v, by simpa using e1, w⟩)
theorem PfOk.nameless {ps : List V} {pf : List (List Int)} (h : PfOk ps pf) : namelessL ps = true := by
  refine namelessL_of fun u hu => ?_
  obtain ⟨i, hi⟩ := List.getElem?_of_mem hu
  have hlt := (List.getElem?_eq_some_iff.1 hi).1
  obtain ⟨p, hp⟩ : ∃ p, pf[i]? = some p := ⟨_, List.getElem?_eq_getElem (by rw [← h.1]; exact hlt)⟩
  obtain ⟨z, b, e, _⟩ := h.2 i p hp
  rw [hi] at e
  cases e
  rfl
theorem PfOk.wk {ps : List V} {pf : List (List Int)} (h : PfOk ps pf) : Wk (.lst 1 ps false) (rows pf) := by
  refine .lst 1 1 _ _ false (wkL_of (by simpa using h.1) fun j v hv => ?_) (.inr rfl)
  simp only [List.getElem?_map, Option.map_eq_some_iff] at hv
  obtain ⟨p, hp, rfl⟩ := hv
  obtain ⟨z, b, e, hz⟩ := h.2 j p hp
  refine ⟨_, e, .lst z 1 _ _ b (WkL.refl _) ?_⟩
  rcases hz with rfl | rfl
  · exact .inl rfl
  · exact .inr rfl

theorem renL_i8s {r : Nat → Nat} (l : List Int) : renL r (i8s l) = i8s l := by simp [renL_map, i8s, V.ren]
theorem renL_nts {r : Nat → Nat} (l : List Nat) : renL r (nts l) = nts l := by simp [renL_map, nts, V.ren]
theorem renL_ints {r : Nat → Nat} (l : List Int) : renL r (ints l) = ints l := by simp [renL_map, ints, V.ren]
theorem behind_hp {K : Vs} {s : S} {fu t : Nat} {es : List (Int × V)} {cs ps : List V} {rest x y} (hn : namelessL ps = true) :
    (⟨t, behind [x, y] (hp K s fu t es cs ps rest).o⟩ : H) = hp2 K s fu t x y ((kv es).map fun p => (p.1, V.ren (· + 2) p.2)) (renL (· + 2) cs) ps (rest.map (Option.map (Ob.ren (· + 2)))) := by
  have h : renL (· + 2) ps = ps := renL_nameless ps hn
  have h2 : (renL (· + 2) cs).length = cs.length := by rw [renL_map, List.length_map]
  simp only [behind, hp, hp2, sc, List.map_cons, Option.map_some, Ob.ren, renL, V.ren, renL_i8s, renL_nts, renL_ints, List.length_cons, List.length_nil, List.cons_append, List.nil_append, Nat.reduceAdd, Nat.zero_add, h, h2]
theorem Cap.two {K : Vs} {fu t : Nat} {s : S} {σ : H} {x y : Option Ob} (h : Cap K fu t s σ) : ∃ ps K' es2 cs2 r2 t', PfOk ps s.pf ∧ t ≤ t' ∧ K'.s = K.s ∧ (⟨σ.t, behind [x, y] σ.o⟩ : H) = hp2 K' s fu t' x y es2 cs2 ps r2 := by
  obtain ⟨ps, hp0, K', es, cs, rest, ow, t', ht, hK, hw, rfl⟩ := h
  exact ⟨ps, K', _, _, _, t', hp0, ht, hK, behind_hp hp0.nameless⟩

def bls (l : List Bool) : List V := l.map V.bool
theorem bls_length (l : List Bool) : (bls l).length = l.length := by simp [bls]
theorem bls_put {l : List Bool} {i : Nat} {b : Bool} (h : i < l.length) : (bls l).take i ++ [.bool b] ++ (bls l).drop (i + 1) = bls (l.set i b) := by
  simp only [bls, List.set_eq_take_append_cons_drop, if_pos h, List.map_append, List.map_cons, List.map_take, List.map_drop, List.append_assoc, List.singleton_append]
theorem bls_nameless (l : List Bool) : namelessL (bls l) = true := by
  refine namelessL_of fun u hu => ?_
  obtain ⟨b, _, rfl⟩ := List.mem_map.1 hu
  rfl
/-- The model that is told. -/
def model (vars : Nat) (s : S) : List Bool := (List.range vars).map fun k => decide (s.va.getD (k + 1) 0 = 1)

def ansV (vars fu : Nat) : Option (S × Bool) → V
  | none => .agg [.int .u8 0, .lst 0 [] true, .lst 0 [] true, .int .i64 (fu : Int)]
  | some (s, true) => .agg [.int .u8 1, .lst 1 (bls (model vars s)) false, .lst 0 [] true, .int .i64 (fu - s.lf : Nat)]
  | some (s, false) => .agg [.int .u8 2, .lst 0 [] true, rows s.pf, .int .i64 (fu - s.lf : Nat)]
def kindOf : Option (S × Bool) → Int
  | none => 0
  | some (_, true) => 1
  | some (_, false) => 2

def SolQ (X : V) (u : V) (σ : H) : Prop := (nameless u = true ∧ Wk u X) ∨ ∃ k v' T cs, σ.o[k]? = some (some (.arr v' T cs)) ∧ namelessL cs = true ∧ nameless (frzV k v' cs u) = true ∧ Wk (frzV k v' cs u) X

theorem frz_self {k w : Nat} {l : List V} : frzV k w l (.sl k w 0 1 l.length none) = .lst 1 l false := by
  simp [frzV, rowsV]

abbrev mdJ (K : Vs) (vars fu t wa wb wm : Nat) (s : S) (x y : Option Ob) (es : List (V × V)) (cs ps : List V) (j : Nat) : Nat → Fr → H → Prop := fun i fr σ =>
  ∃ R l, l.length = vars ∧ (∀ k, k < i → l.getD k false = decide (s.va.getD (k + 1) 0 = 1)) ∧ R[j]? = some (some (.arr wb 32 [.int .u8 1, .sl (j + 13) wm 0 1 vars none, .lst 0 [] true, .int .i64 (fu - s.lf : Nat)])) ∧ R[j + 1]? = some (some (.arr wm 4 (bls l))) ∧
    fget fr 4 = .ptr 1 wa 0 ∧ fget fr 7 = .ptr 2 K.s 0 ∧ fget fr 10 = .ptr (j + 12) wb 0 ∧ fget fr 60 = .int .i64 (vars : Int) ∧ fget fr 61 = .int .i64 (i : Int) ∧ σ = hp2 K s fu t x y es cs ps R
abbrev mdE (K : Vs) (vars fu t wa wb wm : Nat) (s : S) (x y : Option Ob) (es : List (V × V)) (cs ps : List V) (j : Nat) : AE → Fr → H → Prop := fun e fr σ => e = .ex 1 ∧
  ∃ R, R[j]? = some (some (.arr wb 32 [.int .u8 1, .sl (j + 13) wm 0 1 vars none, .lst 0 [] true, .int .i64 (fu - s.lf : Nat)])) ∧ R[j + 1]? = some (some (.arr wm 4 (bls (model vars s)))) ∧ fget fr 4 = .ptr 1 wa 0 ∧ fget fr 10 = .ptr (j + 12) wb 0 ∧ σ = hp2 K s fu t x y es cs ps R

theorem md_round (hT : TabOk P tab) {K : Vs} {vars fu t wa wb wm : Nat} {s : S} {x y : Option Ob} {es : List (V × V)} {cs ps : List V} {j : Nat} (hv : vars ≤ 1000) (hva : s.va.length = vars + 1) {i : Nat} (hi : i < vars) {fr : Fr} {σ : H} (hJ : mdJ K vars fu t wa wb wm s x y es cs ps j i fr σ) :
    W P G 90 0 (AC.seq (AC.reg sat_Solve_r13 [])   (AC.seq (AC.cond (Arg.t 62)   AC.skip   (AC.exit 1))   (AC.seq (AC.block 2 (AC.seq (AC.reg sat_Solve_r14 [63])   (AC.reg sat_Solve_r15 [64, 65, 66, 67, 68, 69, 70, 71, 72, 73, 74, 75, 76])))   (AC.reg sat_Solve_r16 [77])))) fr σ (seqQ (fun fr σ => ∃ fr' σ', Shift G 90 0 fr σ fr' σ' ∧ mdJ K vars fu t wa wb wm s x y es cs ps j (i + 1) fr' σ') (mdE K vars fu t wa wb wm s x y es cs ps j)) := by
  obtain ⟨R, l, hl, hm, hj, hj1, f4, f7, f10, f60, f61, rfl⟩ := hJ
  have hlt : (i : Int) < (vars : Int) := by omega
  have e2 := wnext hi (by omega)
  have hil : i < l.length := by omega
  have hiv : i + 1 < s.va.length := by omega
  have hD := i8s_getD hiv
  have hb : (V.int .i8 (s.va.getD (i + 1) 0) : V) = .int .i8 (s.va.getD (i + 1) 0) := rfl
  generalize hz : s.va.getD (i + 1) 0 = z at *
  have hjl := (List.getElem?_eq_some_iff.1 hj1).1
  have g : (z == 1) = decide (z = 1) := by rw [Bool.eq_iff_iff]; simp
  refine W_round [(4, .ptr 1 wa 0), (7, .ptr 2 K.s 0), (10, .ptr (j + 12) wb 0), (60, .int .i64 (vars : Int)), (61, .int .i64 (i : Int))] ⟨f4, f7, f10, f60, f61, trivial⟩  1000 ?_
  simp -implicitDefEqProofs (disch := omega) only [go_sem, need_of, ↓reduceIte, Nat.reduceAdd, Nat.reduceEqDiff, Nat.reduceLeDiff, Nat.zero_add, Nat.mul_one, decide_true, Bool.not_false, Nat.zero_le, sat_Solve_r13, sat_Solve_r14, sat_Solve_r15, sat_Solve_r16, hp2, i8s_length, bls_length, Int.toNat_natCast, hlt, e2, hj, hj1, hl, hi, hiv, hD, bls_put, g]
  refine ⟨_, _, Shift.refl _ _ _ _, R.set (j + 1) (some (.arr wm 4 (bls (l.set i (decide (z = 1)))))), l.set i (decide (z = 1)), by simp [hl], fun k hk => ?_, by rw [List.getElem?_set_ne (by omega)]; exact hj, List.getElem?_set_self hjl, rfl, rfl, rfl, rfl, rfl, rfl⟩
  by_cases hki : k = i
  · subst hki
    rw [hz]
    simp [List.getD_eq_getElem?_getD, hil]
  · have := hm k (by omega)
    rw [← this]
    simp [List.getD_eq_getElem?_getD, List.getElem?_set_ne (Ne.symm hki)]

theorem snoc2_get {α : Type} (r : List α) (a b : α) : (r ++ [a] ++ [b])[r.length]? = some a := by simp
theorem snoc2_get1 {α : Type} (r : List α) (a b : α) : (r ++ [a] ++ [b])[r.length + 1]? = some b := by simp
theorem snoc2_set {α : Type} (r : List α) (a b c : α) : (r ++ [a] ++ [b]).set r.length c = r ++ [c] ++ [b] := by simp

abbrev solveTail : AC := (AC.seq (AC.reg sat_Solve_r8 [45, 46, 47, 48, 49, 50])
  (AC.seq (AC.seq (AC.reg sat_Solve_r9 [])
  (AC.block 0 (AC.seq (AC.reg sat_Solve_r10 [53])
  (AC.cond (Arg.t 52)
  (AC.seq (AC.reg sat_Solve_r11 [54, 55, 56, 57])
  (AC.seq (AC.reg sat_Solve_r12 [58, 59])
  (AC.block 1 (AC.loop (AC.seq (AC.reg sat_Solve_r13 [])
  (AC.seq (AC.cond (Arg.t 62)
  AC.skip
  (AC.exit 1))
  (AC.seq (AC.block 2 (AC.seq (AC.reg sat_Solve_r14 [63])
  (AC.reg sat_Solve_r15 [64, 65, 66, 67, 68, 69, 70, 71, 72, 73, 74, 75, 76])))
  (AC.reg sat_Solve_r16 [77]))))))))
  (AC.seq (AC.reg sat_Solve_r17 [79])
  (AC.cond (Arg.t 78)
  (AC.reg sat_Solve_r18 [80, 81, 82, 83, 84])
  (AC.seq (AC.reg sat_Solve_r19 [86])
  (AC.cond (Arg.t 85)
  (AC.reg sat_Solve_r20 [87, 88])
  AC.skip))))))))
  (AC.seq (AC.reg sat_Solve_r21 [89])
  AC.ret)))

theorem so_fin (hT : TabOk P tab) {vars fu t wf wa : Nat} {F : List (List Int)} {K : Vs} {s : S} {es : List (V × V)} {cs ps : List V} {r2 : List (Option Ob)} {r : Option (S × Bool)} (hv : vars ≤ 1000) (hva : ∀ b, r = some (s, b) → s.va.length = vars + 1) (hps : PfOk ps s.pf) (hr : r = none ∨ ∃ b, r = some (s, b))
    {fr : Fr} (f1 : fget fr 1 = .int .i64 (fu : Int)) (f2 : fget fr 2 = .ptr 0 wf 0) (f4 : fget fr 4 = .ptr 1 wa 0) (f7 : fget fr 7 = .ptr 2 K.s 0) (f8 : fget fr 8 = .int .u8 (kindOf r)) :
    W P G 90 0 solveTail fr (hp2 K s fu t (some (.arr wf 24 [.int .i64 (vars : Int), .lst 1 (F.map row) false])) (some (.arr wa 32 [.int .u8 0, .lst 0 [] true, .lst 0 [] true, .int .i64 0])) es cs ps r2)
      (endK G [RV.cell 4 true 4, RV.tmp 5] (SolQ (.tup [ansV vars fu r, .int .i64 0]))) := by
  rcases hr with rfl | ⟨b, rfl⟩
  · replace f8 : fget fr 8 = .int .u8 0 := f8
    refine W_round [(1, .int .i64 (fu : Int)), (2, .ptr 0 wf 0), (4, .ptr 1 wa 0), (7, .ptr 2 K.s 0), (8, .int .u8 0)] ⟨f1, f2, f4, f7, f8, trivial⟩  1000 ?_
    simp -implicitDefEqProofs (disch := omega) only [go_sem, ↓reduceIte, reduceCtorEq, Nat.reduceAdd, Nat.reduceEqDiff, Nat.reduceLeDiff, Nat.zero_add, Bool.not_false, Nat.le_refl, Nat.zero_le, beq_self_eq_true, sat_Solve_r8, sat_Solve_r9, sat_Solve_r10, sat_Solve_r11, sat_Solve_r12, sat_Solve_r13, sat_Solve_r14, sat_Solve_r15, sat_Solve_r16, sat_Solve_r17, sat_Solve_r18, sat_Solve_r19, sat_Solve_r20, sat_Solve_r21, hp2, set_snoc, List.getElem?_concat_length, List.length_singleton, false_implies, true_implies, and_true, Int.reduceBEq]
    exact .inl ⟨rfl, .refl _⟩
  · cases b with
    | false =>
      have hn := hps.nameless
      have hw := hps.wk
      replace f8 : fget fr 8 = .int .u8 2 := f8
      refine W_round [(1, .int .i64 (fu : Int)), (2, .ptr 0 wf 0), (4, .ptr 1 wa 0), (7, .ptr 2 K.s 0), (8, .int .u8 2)] ⟨f1, f2, f4, f7, f8, trivial⟩  1000 ?_
      simp -implicitDefEqProofs (disch := omega) only [go_sem, ↓reduceIte, reduceCtorEq, Nat.reduceAdd, Nat.reduceEqDiff, Nat.reduceLeDiff, Nat.zero_add, Bool.not_false, Nat.le_refl, Nat.zero_le, beq_self_eq_true, sat_Solve_r8, sat_Solve_r9, sat_Solve_r10, sat_Solve_r11, sat_Solve_r12, sat_Solve_r13, sat_Solve_r14, sat_Solve_r15, sat_Solve_r16, sat_Solve_r17, sat_Solve_r18, sat_Solve_r19, sat_Solve_r20, sat_Solve_r21, hp2, set_snoc, List.getElem?_concat_length, List.length_singleton, false_implies, true_implies, and_true, Int.reduceBEq]
      refine .inr ⟨11, K.p, 37, ps, rfl, hn, ?_, ?_⟩
      · simp [frzV, frzL, rowsV, nameless, namelessL]
      · have e : frzV 11 K.p ps (.tup [.agg [.int .u8 2, .lst 0 [] true, .sl 11 K.p 0 1 ps.length none, .int .i64 (fu - s.lf : Nat)], .int .i64 0]) = .tup [.agg [.int .u8 2, .lst 0 [] true, .lst 1 ps false, .int .i64 (fu - s.lf : Nat)], .int .i64 0] := by simp [frzV, frzL, rowsV]
        rw [e]
        exact .tup _ _ (.cons _ _ _ _ (.agg _ _ (.cons _ _ _ _ (.refl _) (.cons _ _ _ _ (.refl _) (.cons _ _ _ _ hw (.cons _ _ _ _ (.refl _) .nil))))) (.cons _ _ _ _ (.refl _) .nil))
    | true =>
      have hva' := hva true rfl
      have n0 : ¬ (vars : Int) < 0 := by omega
      have n1 : vars ≤ 140737488355328 := by omega
      have n2 : vars ≤ 9223372036854775807 := by omega
      have hbl : List.replicate vars (V.bool false) = bls (List.replicate vars false) := by simp [bls]
      replace f8 : fget fr 8 = .int .u8 1 := f8
      refine W_round [(1, .int .i64 (fu : Int)), (2, .ptr 0 wf 0), (4, .ptr 1 wa 0), (7, .ptr 2 K.s 0), (8, .int .u8 1)] ⟨f1, f2, f4, f7, f8, trivial⟩  1000 ?_
      simp -implicitDefEqProofs (disch := omega) only [go_sem, need_of, ↓reduceIte, Nat.reduceAdd, Nat.reduceEqDiff, Nat.reduceLeDiff, Nat.zero_add, Nat.add_zero, Bool.not_false, Nat.le_refl, Nat.zero_le, beq_self_eq_true, sat_Solve_r8, sat_Solve_r9, sat_Solve_r10, sat_Solve_r11, sat_Solve_r12, sat_Solve_r13, sat_Solve_r14, sat_Solve_r15, sat_Solve_r16, sat_Solve_r17, sat_Solve_r18, sat_Solve_r19, sat_Solve_r20, sat_Solve_r21, hp2, set_snoc, List.getElem?_concat_length, snoc2_get, snoc2_set, Int.toNat_natCast, List.length_append, List.length_singleton, true_implies, true_and, and_true, flat_one, hbl]
      refine sem_upto vars (mdJ K vars fu (t + 1 + 1) wa t (t + 1) s (some (.arr wf 24 [.int .i64 (vars : Int), .lst 1 (F.map row) false])) (some (.arr wa 32 [.int .u8 0, .lst 0 [] true, .lst 0 [] true, .int .i64 0])) es cs ps r2.length) (mdE K vars fu (t + 1 + 1) wa t (t + 1) s (some (.arr wf 24 [.int .i64 (vars : Int), .lst 1 (F.map row) false])) (some (.arr wa 32 [.int .u8 0, .lst 0 [] true, .lst 0 [] true, .int .i64 0])) es cs ps r2.length)
        ⟨_, List.replicate vars false, List.length_replicate .., fun k hk => absurd hk (Nat.not_lt_zero _), snoc2_get _ _ _, snoc2_get1 _ _ _, rfl, rfl, rfl, rfl, rfl, rfl⟩ (fun i hi fr σ hJ => md_round hT hv hva' hi hJ) (fun i hi fr σ hJ => ?_) (fun e fr σ hE => ?_)
      · obtain ⟨R, l, hl, hm, hj, hj1, f4, f7, f10, f60, f61, rfl⟩ := hJ
        have hge : ¬ (i : Int) < (vars : Int) := by omega
        have hmod : l = model vars s := by
          refine List.ext_getElem (by simp [model, hl]) fun k h1 h2 => ?_
          have := hm k (by omega)
          simp only [List.getD_eq_getElem?_getD, List.getElem?_eq_getElem h1, Option.getD_some] at this
          simp [model, this]
        rw [hmod] at hj1
        refine W_round [(4, .ptr 1 wa 0), (7, .ptr 2 K.s 0), (10, .ptr (r2.length + 12) t 0), (60, .int .i64 (vars : Int)), (61, .int .i64 (i : Int))] ⟨f4, f7, f10, f60, f61, trivial⟩  1000 ?_
        simp -implicitDefEqProofs (disch := omega) only [go_sem, ↓reduceIte, Nat.reduceEqDiff, decide_false, hp2, hge]
        exact ⟨rfl, R, hj, hj1, rfl, rfl, rfl⟩
      · obtain ⟨rfl, R, hj, hj1, f4, f10, rfl⟩ := hE
        refine sem_exit [(4, .ptr 1 wa 0), (10, .ptr (r2.length + 12) t 0)] ⟨f4, f10, trivial⟩  1000 ?_
        simp -implicitDefEqProofs (disch := omega) only [go_sem, ↓reduceIte, reduceCtorEq, Nat.reduceAdd, Nat.reduceEqDiff, Nat.zero_add, Bool.not_false, Nat.le_refl, Nat.zero_le, hp2, List.length_singleton, false_implies, and_true, hj]
        have hml : (bls (model vars s)).length = vars := by simp [bls, model]
        have hn := bls_nameless (model vars s)
        refine .inr ⟨r2.length + 13, t + 1, 4, bls (model vars s), ?_, hn, ?_, ?_⟩
        · simpa using hj1
        · simp [frzV, frzL, rowsV, nameless, namelessL, hml]
        · have e : frzV (r2.length + 13) (t + 1) (bls (model vars s)) (.tup [.agg [.int .u8 1, .sl (r2.length + 13) (t + 1) 0 1 vars none, .lst 0 [] true, .int .i64 (fu - s.lf : Nat)], .int .i64 0]) = .tup [.agg [.int .u8 1, .lst 1 (bls (model vars s)) false, .lst 0 [] true, .int .i64 (fu - s.lf : Nat)], .int .i64 0] := by
            have := frz_self (k := r2.length + 13) (w := t + 1) (l := bls (model vars s))
            rw [hml] at this
            simp only [frzV, frzL] at this ⊢
            rw [this]
          rw [e]
          exact .refl _
end Go.Proofs.Ytpepmhmgfpkdmaa

