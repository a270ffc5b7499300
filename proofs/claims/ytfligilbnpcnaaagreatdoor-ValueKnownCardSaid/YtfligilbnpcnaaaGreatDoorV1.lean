/- What terms need: the program's. -/
import Derived.Test.YtfligilbnpcnaaaGreatDoorTerm21
import Derived.Test.YtfligilbnpcnaaaGreatDoorAmD
namespace Go.Proofs.YtfligilbnpcnaaaGreatDoor
open Go Go.Am
set_option maxRecDepth 100000
variable {P : Program} {G : Nat → Option V}

/-- What is asked of the library's sort, at a function. -/
structure SortF (P : Program) (f : FuncId) : Prop where
  some : ∀ (blk off cap : Nat) (zs : List Int) (w : World), Go.Sort.Holds (Value.int .i64) w blk off zs.toArray → blk < w.heap.size → zs.length < 4611686018427387904 →
    Calls P f #[.slice (some ⟨blk, off, none⟩) zs.length cap] w fun e w' => e = .returned (.tuple #[]) ∧ ∃ n os, w' = Go.Sort.grow (Go.Sort.putRow (Value.int .i64) (Go.Sort.ahead w n) blk off (zs.mergeSort fun x y => decide (x ≤ y)).toArray) os
  none : ∀ (p : Option Addr) (cap : Nat) (w : World), Calls P f #[.slice p 0 cap] w fun e w' => e = .returned (.tuple #[]) ∧ w' = w
theorem c_SortF {f : FuncId} (S : SortF P f) {base k v T t : Nat} {o : List (Option Ob)} {zs : List Int} {n : Nat} {lim : Option Nat} (hk : base ≤ k) (ho : o[k]? = some (some (.arr v T (zs.map (V.int .i64))))) (hn : n = zs.length) (hl : zs.length < 4611686018427387904) :
    C P G base f [.sl k v 0 1 n lim] ⟨t, o⟩ fun r σ' => r = .tup [] ∧ σ' = ⟨t, o.set k (some (.arr v T ((zs.mergeSort fun x y => decide (x ≤ y)).map (V.int .i64))))⟩ := by
  subst hn
  cases zs with
  | nil =>
    refine (C_sort0 (fun p cap w => S.none p cap w)).conseq fun r σ' ⟨h1, h2⟩ => ⟨h1, ?_⟩
    rw [h2]
    congr 1
    have hk' := (List.getElem?_eq_some_iff.1 ho).1
    apply List.ext_getElem?
    intro m
    by_cases hm : m = k
    · subst hm; rw [ho]; simp [hk']
    · simp [List.getElem?_set_ne (Ne.symm hm)]
  | cons z zs => exact C_sort hk ho (by simp) (by simp) fun blk off cap w hH hb => S.some blk off cap _ w hH hb hl

def nd (L : List Nd) (x : Int) : Nd := L.getD x.toNat zeroNd
def symOf (L : List Nd) (x : Int) : Option Int := if (nd L x).kind = 2 then some (nd L x).n else none
def rawS (L : List Nd) (U : List Int) : List Int := U.filterMap (symOf L)
def cellS (L : List Nd) (U : List Int) : List Int := U.filter fun x => decide ((nd L x).kind = 3)
def symS (L : List Nd) (U : List Int) : List Int := (rawS L U).mergeSort fun x y => decide (x ≤ y)
def nints (l : List Int) : List V := l.map (V.int .i64)
theorem nints_length (l : List Int) : (nints l).length = l.length := by simp [nints]
theorem rawS_snoc {L : List Nd} {U : List Int} {x : Int} : rawS L (U ++ [x]) = rawS L U ++ (if (nd L x).kind = 2 then [(nd L x).n] else []) := by
  simp only [rawS, List.filterMap_append, List.filterMap_cons, List.filterMap_nil, symOf]
  split <;> simp_all
theorem cellS_snoc {L : List Nd} {U : List Int} {x : Int} : cellS L (U ++ [x]) = cellS L U ++ (if (nd L x).kind = 3 then [x] else []) := by
  simp only [cellS, List.filter_append, List.filter_cons, List.filter_nil]
  split <;> simp_all
theorem rawS_len (L : List Nd) (U : List Int) : (rawS L U).length ≤ U.length := List.length_filterMap_le _ _
theorem cellS_len (L : List Nd) (U : List Int) : (cellS L U).length ≤ U.length := List.length_filter_le _ _
theorem w_nx {i n : Nat} (h : i < n) (hn : n ≤ 9223372036854775807) : IntKind.i64.wrap ((i : Int) + 1) = ((i + 1 : Nat) : Int) := by rw [wrap_i64 (by omega) (by omega)]; rfl

def nH (ws wc : Nat) (ss cs : List Int) : List (Option Ob) := [some (.arr ws 2 (nints ss)), some (.arr wc 44 (nints cs))]
abbrev neJ (fmt : Int → List UInt8) (v0 v1 v2 v3 v4 t0 : Nat) (L : List Nd) (U : List Int) : Nat → Fr → H → Prop := fun i fr σ => ∃ t ws wc ss cs, t0 ≤ t ∧ ss = rawS L (U.take i) ∧ cs = cellS L (U.take i) ∧ fget fr 0 = .ptr 1 v0 0 ∧ fget fr 4 = .sl 5 ws 0 1 ss.length none ∧ fget fr 5 = .sl 6 wc 0 1 cs.length none ∧ fget fr 12 = .lst 1 (nints U) false ∧ fget fr 13 = .int .i64 U.length ∧ fget fr 14 = .int .i64 ((i : Nat) : Int) ∧ σ = ⟨t, kG fmt v0 v1 v2 v3 v4 L ++ nH ws wc ss cs⟩
abbrev neE (fmt : Int → List UInt8) (v0 v1 v2 v3 v4 t0 : Nat) (L : List Nd) (U : List Int) : AE → Fr → H → Prop := fun e fr σ => e = .ex 0 ∧ ∃ t ws wc, t0 ≤ t ∧ fget fr 4 = .sl 5 ws 0 1 (rawS L U).length none ∧ fget fr 5 = .sl 6 wc 0 1 (cellS L U).length none ∧ σ = ⟨t, kG fmt v0 v1 v2 v3 v4 L ++ nH ws wc (rawS L U) (cellS L U)⟩
theorem ne_round (hT : TabOk P tab) {fmt : Int → List UInt8} {v0 v1 v2 v3 v4 t0 : Nat} {L : List Nd} {U : List Int} (hU : ∀ x ∈ U, 0 ≤ x ∧ x < L.length) (hUl : U.length ≤ 1000000) {i : Nat} {x : Int} (hx : U[i]? = some x) {fr : Fr} {σ : H} (hJ : neJ fmt v0 v1 v2 v3 v4 t0 L U i fr σ) :
    W P G 44 5 (AC.seq (AC.reg zqg_2 [])   (AC.seq (AC.cond (Arg.t 15)   AC.skip   (AC.exit 0))   (AC.seq (AC.block 1 (AC.seq (AC.reg zqg_3 [16, 17])   (AC.seq (AC.reg zqg_4 [19, 20, 21, 18, 22, 23, 9])   (AC.seq (AC.reg zqg_5 [24])   (AC.block 2 (AC.seq (AC.reg zqg_6 [27])   (AC.cond (Arg.t 26)   (AC.reg zqg_7 [28, 29, 30, 31, 32])   (AC.seq (AC.reg zqg_8 [34])   (AC.cond (Arg.t 33)   (AC.reg zqg_9 [35, 36, 37, 38])   AC.skip)))))))))   (AC.reg zqg_10 [39])))) fr σ (seqQ (fun fr σ => ∃ fr' σ', Shift G 44 5 fr σ fr' σ' ∧ neJ fmt v0 v1 v2 v3 v4 t0 L U (i + 1) fr' σ') (neE fmt v0 v1 v2 v3 v4 t0 L U)) := by
  obtain ⟨t, ws, wc, ss, cs, ht, hss, hcs, f0, f4, f5, f12, f13, f14, rfl⟩ := hJ
  have hlt := (List.getElem?_eq_some_iff.1 hx).1
  have hD : (nints U).getD i V.any = .int .i64 x := by simp [nints, List.getD_eq_getElem?_getD, hx]
  have e2 := w_nx hlt (by omega)
  obtain ⟨h0, h1⟩ := hU x (List.mem_of_getElem? hx)
  have hN := fun t ex => k_Node (P := P) (G := G) hT (base := 5) (fmt := fmt) (v0 := v0) (v1 := v1) (v2 := v2) (v3 := v3) (v4 := v4) (t := t) (L := L) (ex := ex) (id := x)
  have hts := take_snoc2 hx
  have s1 : rawS L (U.take (i + 1)) = ss ++ (if (nd L x).kind = 2 then [(nd L x).n] else []) := by rw [hts, rawS_snoc, hss]
  have s2 : cellS L (U.take (i + 1)) = cs ++ (if (nd L x).kind = 3 then [x] else []) := by rw [hts, cellS_snoc, hcs]
  have hsl : ss.length ≤ 1000000 := by have := rawS_len L (U.take i); rw [hss]; rw [List.length_take] at this; omega
  have hcl : cs.length ≤ 1000000 := by have := cellS_len L (U.take i); rw [hcs]; rw [List.length_take] at this; omega
  simp only [if_pos (show 0 ≤ x ∧ x < L.length from ⟨h0, h1⟩)] at hN
  simp only [show L.getD x.toNat zeroNd = nd L x from rfl] at hN
  generalize nd L x = d at *
  simp only [Nd.cells] at hN
  refine W_round [(0, .ptr 1 v0 0), (4, .sl 5 ws 0 1 ss.length none), (5, .sl 6 wc 0 1 cs.length none), (12, .lst 1 (nints U) false), (13, .int .i64 U.length), (14, .int .i64 ((i : Nat) : Int))] ⟨f0, f4, f5, f12, f13, f14, trivial⟩  1000 ?_
  simp -implicitDefEqProofs (disch := omega) only [go_sem, need_of, ↓reduceIte, reduceCtorEq, Nat.reduceEqDiff, Nat.zero_add, decide_true, Nat.le_refl, zqg_2, zqg_3, zqg_4, zqg_5, zqg_6, zqg_7, zqg_8, zqg_9, zqg_10, nints_length, List.length_cons, List.length_nil, true_implies, and_true, hlt, hD]
  refine call hT t_term_Graph_Node (hN _ _) 12 fun u σ hu => ?_
  obtain ⟨rfl, t2, ht2, rfl⟩ := hu
  have hap : ∀ (l : List Int) (y : Int), nints l ++ [V.int .i64 y] = nints (l ++ [y]) := fun l y => by simp [nints]
  have hsub : ∀ (ws wc : Nat) (ss cs : List Int) (y : Option Ob), subObs (kG fmt v0 v1 v2 v3 v4 L ++ nH ws wc ss cs) (kG fmt v0 v1 v2 v3 v4 L ++ [some (.arr ws 2 (nints ss)), some (.arr wc 44 (nints cs)), y]) := fun ws wc ss cs y => by
    have := subObs_take 7 (kG fmt v0 v1 v2 v3 v4 L ++ [some (.arr ws 2 (nints ss)), some (.arr wc 44 (nints cs)), y])
    exact this
  by_cases k2 : d.kind = 2
  · have k3 : ¬ d.kind = 3 := by omega
    rw [if_pos k2] at s1
    rw [if_neg k3, List.append_nil] at s2
    have k2' : (d.kind == 2) = true := by simp [k2]
    have k2'' : (d.kind = 2) = True := eq_true k2
    simp -implicitDefEqProofs (disch := omega) only [go_sem, ↓reduceIte, reduceCtorEq, Nat.reduceAdd, Nat.reduceEqDiff, Nat.reduceLeDiff, Nat.reduceLT, Nat.zero_add, Nat.add_zero, Bool.not_false, Nat.le_refl, kG_len, kG_7, kGs_7, List.length_cons, List.length_nil, true_implies, and_true, List.cons_append, List.nil_append, kG_app, nH]
    iterate 9 (try (refine run_sem 9 ?_; simp -implicitDefEqProofs (disch := omega) only [go_sem, need_of, ↓reduceIte, reduceCtorEq, Nat.reduceAdd, Nat.reduceEqDiff, Nat.reduceLeDiff, Nat.zero_add, Nat.mul_one, Bool.not_true, Nat.le_refl, kG_5, kGs_5, kG_7, nints_length, List.length_cons, List.length_nil, true_implies, true_and, and_true, List.cons_append, List.nil_append, k2', hap]))
    have hln : ss.length + 1 = (ss ++ [d.n]).length := by simp
    refine ⟨_, _, Shift.drop (o' := kG fmt v0 v1 v2 v3 v4 L ++ nH (t2 + 1) wc (ss ++ [d.n]) cs) (t' := t2 + 1 + 1) (hsub _ _ _ _ _) (Nat.le_refl _) (by rw [kG_len]; omega), t2 + 1 + 1, t2 + 1, wc, ss ++ [d.n], cs, by omega, s1.symm, s2.symm, ?_⟩
    simp -implicitDefEqProofs (disch := omega) only [go_sem, ↓reduceIte, reduceCtorEq, Nat.reduceEqDiff, and_true, nH, e2, hln]
    try simp
  by_cases k3 : d.kind = 3
  · rw [if_neg k2, List.append_nil] at s1
    rw [if_pos k3] at s2
    have k2' : (d.kind == 2) = false := by simpa using k2
    have k3' : (d.kind == 3) = true := by simp [k3]
    have k2'' : (d.kind = 2) = False := eq_false k2
    have k3'' : (d.kind = 3) = True := eq_true k3
    simp -implicitDefEqProofs (disch := omega) only [go_sem, ↓reduceIte, reduceCtorEq, Nat.reduceAdd, Nat.reduceEqDiff, Nat.reduceLeDiff, Nat.reduceLT, Nat.zero_add, Nat.add_zero, Bool.not_false, Nat.le_refl, kG_len, kG_7, kGs_7, List.length_cons, List.length_nil, true_implies, and_true, List.cons_append, List.nil_append, kG_app, nH]
    iterate 9 (try (refine run_sem 9 ?_; simp -implicitDefEqProofs (disch := omega) only [go_sem, need_of, ↓reduceIte, reduceCtorEq, Nat.reduceEqDiff, Nat.reduceLeDiff, Nat.zero_add, Nat.mul_one, Bool.not_true, Nat.le_refl, kG_6, kGs_6, nints_length, List.length_cons, List.length_nil, true_and, and_true, List.cons_append, List.nil_append, k2', k3', hap]))
    have hln : cs.length + 1 = (cs ++ [x]).length := by simp
    refine ⟨_, _, Shift.drop (o' := kG fmt v0 v1 v2 v3 v4 L ++ nH ws (t2 + 1) ss (cs ++ [x])) (t' := t2 + 1 + 1) (hsub _ _ _ _ _) (Nat.le_refl _) (by rw [kG_len]; omega), t2 + 1 + 1, ws, t2 + 1, ss, cs ++ [x], by omega, s1.symm, s2.symm, ?_⟩
    simp -implicitDefEqProofs (disch := omega) only [go_sem, ↓reduceIte, reduceCtorEq, Nat.reduceEqDiff, and_true, nH, e2, hln]
    try simp
  · rw [if_neg k2, List.append_nil] at s1
    rw [if_neg k3, List.append_nil] at s2
    have k2' : (d.kind == 2) = false := by simpa using k2
    have k3' : (d.kind == 3) = false := by simpa using k3
    have k2'' : (d.kind = 2) = False := eq_false k2
    have k3'' : (d.kind = 3) = False := eq_false k3
    simp -implicitDefEqProofs (disch := omega) only [go_sem, ↓reduceIte, reduceCtorEq, Nat.reduceAdd, Nat.reduceEqDiff, Nat.reduceLeDiff, Nat.reduceLT, Nat.zero_add, Nat.add_zero, Bool.not_false, Nat.le_refl, kG_len, kG_7, kGs_7, List.length_cons, List.length_nil, true_implies, and_true, List.cons_append, List.nil_append, kG_app, nH]
    iterate 9 (try (refine run_sem 9 ?_; simp -implicitDefEqProofs (disch := omega) only [go_sem, ↓reduceIte, reduceCtorEq, Nat.reduceEqDiff, k2', k3']))
    refine ⟨_, _, Shift.drop (o' := kG fmt v0 v1 v2 v3 v4 L ++ nH ws wc ss cs) (t' := t2 + 1) (hsub _ _ _ _ _) (Nat.le_refl _) (by rw [kG_len]; omega), t2 + 1, ws, wc, ss, cs, by omega, s1.symm, s2.symm, ?_⟩
    simp -implicitDefEqProofs (disch := omega) only [go_sem, ↓reduceIte, reduceCtorEq, Nat.reduceEqDiff, and_true, nH, e2]
    try simp
theorem nints_nameless (l : List Int) : namelessL (nints l) = true := by
  induction l with
  | nil => rfl
  | cons a l ih =>
    show (nameless (V.int .i64 a) && namelessL (nints l)) = true
    rw [ih]; rfl
theorem frz_n {k w : Nat} (l : List Int) : frzV k w (nints l) (.sl k w 0 1 l.length none) = .lst 1 (nints l) false := by
  have := frz_sl (k := k) (w := w) (sz := 1) (cs := nints l) (fun u hu => by
    obtain ⟨a, _, rfl⟩ := List.mem_map.1 hu
    rfl)
  rwa [nints_length] at this
theorem frz_nints {k w : Nat} {cs : List V} (l : List Int) : (nints l).map (frzV k w cs) = nints l := by
  simp [nints, frzV]
theorem symS_len (L : List Nd) (U : List Int) : (symS L U).length = (rawS L U).length := by simp [symS]
set_option maxHeartbeats 1000000 in
theorem c_Needs (hT : TabOk P tab) (SO : SortOk P) (SI : SortF P n_slices_Sort_int64_int64) {fmt : Int → List UInt8} {v0 v1 v2 v3 v4 t : Nat} {L : List Nd} (hL : L.length ≤ 1000000) (hwf : gwf L) (ids : List Int) (z : Nat) (tight : Bool) (hz : z = 1 ∨ ids = []) (hrl : ids.length ≤ 1000000) :
    C P G 5 n_value_Needs [.ptr 1 v0 0, .lst z (ids.map (V.int .i64)) tight] ⟨t, kG fmt v0 v1 v2 v3 v4 L⟩ fun v σ => v = .tup [.lst 1 (nints (symS L (usesL L ids))) false, .lst 1 (nints (cellS L (usesL L ids))) false] ∧ ∃ t', t ≤ t' ∧ σ = ⟨t', kG fmt v0 v1 v2 v3 v4 L⟩ := by
  refine C_keep 5 (Nat.le_refl _) (C_freezeO (Q := fun v σ => ∃ t' wc, t ≤ t' ∧ v = .tup [.lst 1 (nints (symS L (usesL L ids))) false, .sl 6 wc 0 1 (cellS L (usesL L ids)).length none] ∧ σ = ⟨t', kG fmt v0 v1 v2 v3 v4 L ++ [none, some (.arr wc 44 (nints (cellS L (usesL L ids))))]⟩)
    (C_freezeO (Q := fun v σ => ∃ t' ws wc, t ≤ t' ∧ v = .tup [.sl 5 ws 0 1 (symS L (usesL L ids)).length none, .sl 6 wc 0 1 (cellS L (usesL L ids)).length none] ∧ σ = ⟨t', kG fmt v0 v1 v2 v3 v4 L ++ nH ws wc (symS L (usesL L ids)) (cellS L (usesL L ids))⟩) ?_ fun v σ hv => ?_) fun v σ hv => ?_)
  · have hU := k_Uses (P := P) (G := G) hT SO (base := 5) (fmt := fmt) (v0 := v0) (v1 := v1) (v2 := v2) (v3 := v3) (v4 := v4) (t := t) (ex := []) hL hwf ids z tight hz (by omega)
    have hUb : ∀ x ∈ usesL L ids, 0 ≤ x ∧ x < L.length := uses_ok
    have hUl : (usesL L ids).length ≤ 1000000 := by have := nodup_len L.length (usesL L ids) uses_nodup uses_ok; omega
    simp only [List.append_nil] at hU
    generalize usesL L ids = U at *
    refine C_tab hT t_value_Needs (by simp [value_Needs]) (W_run 1000 ?_)
    simp -implicitDefEqProofs (disch := omega) only [go_sem, ↓reduceIte, reduceCtorEq, Nat.reduceEqDiff, Nat.zero_add, value_Needs, zqg_0, zqg_1, zqg_2, zqg_3, zqg_4, zqg_5, zqg_6, zqg_7, zqg_8, zqg_9, zqg_10, zqg_11, zqg_12]
    refine call hT t_term_Graph_Uses hU 1000 fun v σ hv => ?_
    obtain ⟨rfl, t1, ht1, rfl⟩ := hv
    simp -implicitDefEqProofs (disch := omega) only [go_sem, ↓reduceIte, reduceCtorEq, Nat.reduceEqDiff, List.length_map]
    refine sem_shift (Shift.own (s := 4) (z := 0) (sz := 1) (T := 2) (by simp -implicitDefEqProofs (disch := omega) only [go_sem, ↓reduceIte, reduceCtorEq, Nat.reduceEqDiff]) (by decide)) ?_
    simp -implicitDefEqProofs (disch := omega) only [go_sem, ↓reduceIte, reduceCtorEq, Nat.reduceEqDiff, H.push, kG_len0]
    refine sem_shift (Shift.own (s := 5) (z := 0) (sz := 1) (T := 44) (by simp -implicitDefEqProofs (disch := omega) only [go_sem, ↓reduceIte, reduceCtorEq, Nat.reduceEqDiff]) (by decide)) ?_
    simp -implicitDefEqProofs (disch := omega) only [go_sem, ↓reduceIte, reduceCtorEq, Nat.reduceAdd, Nat.reduceEqDiff, Nat.zero_add, H.push, kG_len, kG_app, List.length_cons, List.length_nil, List.cons_append, List.nil_append]
    refine sem_for U (neJ fmt v0 v1 v2 v3 v4 t L U) (neE fmt v0 v1 v2 v3 v4 t L U) ⟨t1 + 1 + 1, t1, t1 + 1, [], [], by omega, rfl, rfl, ?_⟩ (fun i x hx fr σ hJ => ne_round hT hUb hUl hx hJ) (fun i hi fr σ hJ => ?_) (fun e fr σ hE => ?_)
    · simp -implicitDefEqProofs (disch := omega) only [go_sem, ↓reduceIte, reduceCtorEq, Nat.reduceEqDiff, List.length_nil, true_and, nH]
      simp [nints]
    · obtain ⟨t2, ws, wc, ss, cs, ht, hss, hcs, f0, f4, f5, f12, f13, f14, rfl⟩ := hJ
      rw [hi, List.take_length] at hss hcs
      refine W_round [(0, .ptr 1 v0 0), (4, .sl 5 ws 0 1 ss.length none), (5, .sl 6 wc 0 1 cs.length none), (12, .lst 1 (nints U) false), (13, .int .i64 U.length), (14, .int .i64 ((i : Nat) : Int))] ⟨f0, f4, f5, f12, f13, f14, trivial⟩  1000 ?_
      simp -implicitDefEqProofs (disch := omega) only [go_sem, ↓reduceIte, reduceCtorEq, Nat.reduceEqDiff, decide_false, hi, Nat.lt_irrefl]
      subst hss hcs
      exact ⟨rfl, t2, ws, wc, ht, rfl, rfl, rfl⟩
    · obtain ⟨rfl, t2, ws, wc, ht2, f4, f5, rfl⟩ := hE
      have hsl := rawS_len L U
      refine sem_exit [(4, .sl 5 ws 0 1 (rawS L U).length none), (5, .sl 6 wc 0 1 (cellS L U).length none)] ⟨f4, f5, trivial⟩ 1000 ?_
      simp -implicitDefEqProofs (disch := omega) only [go_sem, ↓reduceIte, Nat.reduceEqDiff]
      refine call hT t_slices_Sort_int64_int64 (c_SortF SI (k := 5) (T := 2) (zs := rawS L U) (Nat.le_refl _) rfl rfl (by omega)) 1000 fun v σ hv => ?_
      obtain ⟨rfl, rfl⟩ := hv
      simp -implicitDefEqProofs (disch := omega) only [go_sem, ↓reduceIte, Nat.reduceEqDiff, kGs_5, nH]
      exact ⟨t2, ws, wc, by omega, by rw [symS_len], rfl, rfl⟩
  · obtain ⟨t', ws, wc, ht, rfl, rfl⟩ := hv
    refine .inr ⟨5, ws, 2, nints (symS L (usesL L ids)), Nat.le_refl _, rfl, nints_nameless _, t', wc, ht, ?_, ?_⟩
    · have := frz_n (k := 5) (w := ws) (symS L (usesL L ids))
      simp only [frzV, frzL] at this ⊢
      rw [this]
      simp
    · simp [nH, kG, mapFrom, Ob.mapV, frz_nints]
  · obtain ⟨t', wc, ht, rfl, rfl⟩ := hv
    refine .inr ⟨6, wc, 44, nints (cellS L (usesL L ids)), by omega, rfl, nints_nameless _, ?_, ?_, t', ht, ?_⟩
    · simp [mapFrom_length, kG]
    · have := frz_n (k := 6) (w := wc) (cellS L (usesL L ids))
      simp only [frzV, frzL] at this ⊢
      rw [this]
    · simp [kG, mapFrom]
end Go.Proofs.YtfligilbnpcnaaaGreatDoor

