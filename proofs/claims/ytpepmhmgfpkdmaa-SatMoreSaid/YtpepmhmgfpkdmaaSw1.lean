/- The solver's heap; what a literal is; fuel; a literal is set. -/
import Derived.Test.YtpepmhmgfpkdmaaCw4
import Derived.Test.YtpepmhmgfpkdmaaSA
import Derived.Test.YtpepmhmgfpkdmaaAmD
namespace Go.Proofs.Ytpepmhmgfpkdmaa
open Go Go.Am Go.Cl Go.Sat
set_option maxRecDepth 100000
variable {P : Program} {G : Nat → Option V}

def nts (l : List Nat) : List V := l.map fun (n : Nat) => V.int .i64 (n : Int)
def i8s (l : List Int) : List V := l.map (V.int .i8)
theorem nts_length (l : List Nat) : (nts l).length = l.length := by simp [nts]
theorem i8s_length (l : List Int) : (i8s l).length = l.length := by simp [i8s]
theorem nts_getD {l : List Nat} {i : Nat} (h : i < l.length) : (nts l).getD i V.any = .int .i64 (l.getD i 0 : Nat) := by simp [nts, List.getD_eq_getElem?_getD, h]
theorem i8s_getD {l : List Int} {i : Nat} (h : i < l.length) : (i8s l).getD i V.any = .int .i8 (l.getD i 0) := by simp [i8s, List.getD_eq_getElem?_getD, h]
theorem ints_getD' {l : List Int} {i : Nat} (h : i < l.length) : (ints l).getD i V.any = .int .i64 (l.getD i 0) := by simp [ints, List.getD_eq_getElem?_getD, h]
/-- A map's entries, of numbers. -/
def kv (E : List (Int × V)) : List (V × V) := E.map fun p => (.int .i64 p.1, p.2)
def vAt (E : List (Int × V)) (x : Int) : V := ((E.find? fun p => decide (x = p.1)).map (·.2)).getD (.lst 0 [] true)
def vPut (x : Int) (v : V) : List (Int × V) → List (Int × V)
  | [] => [(x, v)]
  | p :: r => if x = p.1 then (p.1, v) :: r else p :: vPut x v r
theorem mget_kv (x : Int) (E : List (Int × V)) : (mget [Kd.i] (.int .i64 x) (kv E)).getD (.lst 0 [] true) = vAt E x := by
  unfold vAt
  congr 1
  induction E with
  | nil => rfl
  | cons p K ih =>
    simp only [mget, kv, List.map_cons, List.find?_cons, keyEq_i] at ih ⊢
    by_cases h : x = p.1
    · simp [h]
    · simp only [h, decide_false]
      exact ih
theorem keysOk_kv (x : Int) (E : List (Int × V)) : keysOk false [Kd.i] (.int .i64 x) (kv E) := by
  refine ⟨⟨rfl, by simp [V.cells, beqL, beqV]⟩, fun p hp => ?_⟩
  obtain ⟨q, _, rfl⟩ := List.mem_map.1 hp
  exact ⟨rfl, by simp [V.cells, beqL, beqV]⟩
theorem mput_kv (x : Int) (v : V) : ∀ E : List (Int × V), mput [Kd.i] (.int .i64 x) v (kv E) = kv (vPut x v E)
  | [] => rfl
  | p :: E => by
    have ih := mput_kv x v E
    unfold kv at ih ⊢
    simp only [List.map_cons, mput, vPut, keyEq_i]
    by_cases h : x = p.1
    · simp [h]
    · simp only [h, decide_false, if_false, Bool.false_eq_true, List.map_cons]
      rw [ih]
theorem vAt_put (x : Int) (v : V) (y : Int) : ∀ E : List (Int × V), vAt (vPut x v E) y = if y = x then v else vAt E y
  | [] => by
    unfold vAt vPut
    by_cases h : y = x <;> simp [h]
  | p :: E => by
    have ih := vAt_put x v y E
    unfold vPut
    by_cases h : x = p.1
    · rw [if_pos h]
      unfold vAt
      subst h
      by_cases h2 : y = p.1 <;> simp [h2]
    · rw [if_neg h]
      unfold vAt at ih ⊢
      by_cases h2 : y = p.1
      · subst h2
        simp [Ne.symm h]
      · simp only [List.find?_cons, h2, decide_false]
        exact ih

/-- Versions of the solver's objects. -/
structure Vs where
  s : Nat
  m : Nat
  v : Nat
  l : Nat
  r : Nat
  h : Nat
  t : Nat
  k : Nat
  c : Nat
  p : Nat

def sc (K : Vs) (s : S) (fu nc np : Nat) : List V :=
  [.sl 8 K.c 0 1 nc none, .mp 1 K.m, .sl 2 K.v 0 1 s.va.length none, .sl 3 K.l 0 1 s.lv.length none, .sl 4 K.r 0 1 s.re.length none, .sl 5 K.h 0 1 s.he.length none, .sl 6 K.t 0 1 s.tr.length none, .int .i64 (s.dn : Int), .sl 7 K.k 0 1 s.ms.length none, .sl 9 K.p 0 1 np none, .int .i64 (fu : Int), .int .i64 (fu - s.lf : Nat)]

/-- The solver's heap: its cells, who watches, rows; then clauses and rows of those who watch. -/
def hp (K : Vs) (s : S) (fu t : Nat) (es : List (Int × V)) (cs ps : List V) (rest : List (Option Ob)) : H :=
  ⟨t, some (.arr K.s 46 (sc K s fu cs.length ps.length)) :: some (.map K.m (kv es)) :: some (.arr K.v 50 (i8s s.va)) :: some (.arr K.l 3 (nts s.lv)) :: some (.arr K.r 3 (ints s.re)) :: some (.arr K.h 3 (nts s.he)) ::
    some (.arr K.t 3 (ints s.tr)) :: some (.arr K.k 3 (nts s.ms)) :: some (.arr K.c 37 cs) :: some (.arr K.p 37 ps) :: rest⟩

structure Bd (fu N : Nat) (s : S) : Prop where
  bn : 1 ≤ N ∧ N ≤ 1000
  bf : fu ≤ 4194304
  lf : s.lf ≤ fu
  cl : s.cl.length + s.lf ≤ 8388608
  pf : s.pf.length + s.lf ≤ 8388608
  he : ∀ v, s.he.getD v 0 + s.lf ≤ 8388608

theorem abs_of {n : Int} (h : -9223372036854775808 < n ∧ n ≤ 9223372036854775807) : (if n < IntKind.i64.wrap (0 - n) then IntKind.i64.wrap (0 - n) else n) = (n.natAbs : Int) := by
  rw [wneg64 ⟨by omega, h.2⟩]
  have e : neg n = -n := by unfold neg; rw [if_neg (by omega)]
  rw [e]
  split <;> omega

theorem c_abs (hT : TabOk P tab) {n : Int} (h : -9223372036854775808 < n ∧ n ≤ 9223372036854775807) : Pure P G n_sat_abs [.int .i64 n] fun v => v = .int .i64 (n.natAbs : Int) := by
  intro t
  refine C_tab hT t_sat_abs (by simp [sat_abs]) (W_run 1000 ?_)
  simp -implicitDefEqProofs (disch := omega) only [go_sem, ↓reduceIte, reduceCtorEq, Nat.reduceEqDiff, gt_iff_lt, sat_abs, sat_abs_r0, sat_abs_r1]
  rw [abs_of h]

/-- What a variable is told: 1, 0, -1. -/
def Tri (x : Int) : Prop := x = 1 ∨ x = 0 ∨ x = -1
theorem Tri.of {N : Nat} {s : S} (h : Inv N s) (v : Nat) : Tri (s.va.getD v 0) := by
  rw [h.val v]; unfold Tri; repeat' split
  all_goals simp

theorem c_is (hT : TabOk P tab) {base fu t : Nat} {K : Vs} {s : S} {es : List (Int × V)} {cs ps : List V} {rest : List (Option Ob)} {l : Int} (hlv : l.natAbs < s.va.length) (hN : s.va.length ≤ 1000000) (h3 : Tri (s.va.getD l.natAbs 0)) :
    C P G base n_sat_solver_is [.ptr 0 K.s 0, .int .i64 l] (hp K s fu t es cs ps rest) fun v σ => v = .int .i8 (s.is l) ∧ σ = hp K s fu t es cs ps rest := by
  have hD := i8s_getD hlv
  rcases Int.lt_or_le l 0 with h0 | h0
  · have e1 : IntKind.i64.wrap (0 - l) = (l.natAbs : Int) := by
      rw [wneg64 (by omega)]; unfold neg; rw [if_neg (by omega)]; omega
    have e2 : IntKind.i8.wrap (0 - s.va.getD l.natAbs 0) = s.is l := by
      unfold S.is; rw [if_pos h0]
      rcases h3 with e | e | e <;> rw [e] <;> decide
    refine C_tab hT t_sat_solver_is (by simp [sat_solver_is]) (W_run 1000 ?_)
    simp -implicitDefEqProofs (disch := omega) only [go_sem, need_of, ↓reduceIte, reduceCtorEq, Nat.reduceAdd, Nat.reduceEqDiff, Nat.reduceLeDiff, Nat.zero_add, Nat.mul_one, decide_true, sat_solver_is, sat_solver_is_r0, sat_solver_is_r1, sat_solver_is_r2, sat_solver_is_r3, hp, sc, i8s_length, h0, e1, hlv, hD, e2, Int.toNat_natCast]
  · have e1 : (l.natAbs : Int) = l := by omega
    have e2 : s.va.getD l.natAbs 0 = s.is l := by
      unfold S.is; rw [if_neg (by omega)]
    rw [← e1]
    refine C_tab hT t_sat_solver_is (by simp [sat_solver_is]) (W_run 1000 ?_)
    simp -implicitDefEqProofs (disch := omega) only [go_sem, need_of, ↓reduceIte, reduceCtorEq, Nat.reduceAdd, Nat.reduceEqDiff, Nat.reduceLeDiff, Nat.zero_add, Nat.mul_one, decide_false, sat_solver_is, sat_solver_is_r0, sat_solver_is_r1, sat_solver_is_r2, sat_solver_is_r3, hp, sc, i8s_length, Int.not_lt.2 (Int.natCast_nonneg l.natAbs), hlv, hD, Int.toNat_natCast]
    rw [e2, e1]

theorem used_next {a b : Nat} (h : b ≠ 0) (hab : b ≤ a) (ha : a ≤ 4194304) : IntKind.i64.wrap (((a - b : Nat) : Int) + 1) = ((a - (b - 1) : Nat) : Int) := by
  rw [wnext (n := a) (by omega) (by omega)]
  congr 1; omega

theorem c_burn0 (hT : TabOk P tab) {fu t : Nat} {K : Vs} {s : S} {es : List (Int × V)} {cs ps : List V} {rest : List (Option Ob)} (h : s.lf = 0) :
    C P G 0 n_sat_solver_burn [.ptr 0 K.s 0] (hp K s fu t es cs ps rest) fun v σ => v = .bool false ∧ σ = hp K s fu t es cs ps rest := by
  refine C_tab hT t_sat_solver_burn (by simp [sat_solver_burn]) (W_run 1000 ?_)
  simp -implicitDefEqProofs (disch := omega) only [go_sem, ↓reduceIte, reduceCtorEq, Nat.reduceAdd, Nat.reduceEqDiff, Nat.reduceLeDiff, Nat.zero_add, Nat.le_refl, beq_self_eq_true, sat_solver_burn, sat_solver_burn_r0, sat_solver_burn_r1, sat_solver_burn_r2, sat_solver_burn_r3, sat_solver_burn_r4, hp, sc, h, Nat.sub_zero]
theorem c_burn (hT : TabOk P tab) {N fu t : Nat} {K : Vs} {s : S} {es : List (Int × V)} {cs ps : List V} {rest : List (Option Ob)} (hb : Bd fu N s) (h : s.lf ≠ 0) :
    C P G 0 n_sat_solver_burn [.ptr 0 K.s 0] (hp K s fu t es cs ps rest) fun v σ => v = .bool true ∧ σ = hp K { s with lf := s.lf - 1 } fu t es cs ps rest := by
  have h1 := hb.lf
  have h2 := hb.bf
  have e1 : (((fu - s.lf : Nat) : Int) == (fu : Int)) = false := by simp; omega
  have e2 := used_next h h1 h2
  refine C_tab hT t_sat_solver_burn (by simp [sat_solver_burn]) (W_run 1000 ?_)
  simp -implicitDefEqProofs (disch := omega) only [go_sem, ↓reduceIte, reduceCtorEq, Nat.reduceAdd, Nat.reduceEqDiff, Nat.reduceLeDiff, Nat.zero_add, Bool.not_false, Nat.le_refl, sat_solver_burn, sat_solver_burn_r0, sat_solver_burn_r1, sat_solver_burn_r2, sat_solver_burn_r3, sat_solver_burn_r4, hp, sc, e1, e2]

theorem c_set0 (hT : TabOk P tab) {fu t : Nat} {K : Vs} {s : S} {es : List (Int × V)} {cs ps : List V} {rest : List (Option Ob)} (h : s.lf = 0) (l r : Int) :
    C P G 0 n_sat_solver_set [.ptr 0 K.s 0, .int .i64 l, .int .i64 r] (hp K s fu t es cs ps rest) fun v σ => v = .bool false ∧ σ = hp K s fu t es cs ps rest := by
  refine C_tab hT t_sat_solver_set (by simp [sat_solver_set]) (W_run 1000 ?_)
  simp -implicitDefEqProofs (disch := omega) only [go_sem, ↓reduceIte, reduceCtorEq, Nat.reduceAdd, Nat.reduceEqDiff, Nat.zero_add, sat_solver_set, sat_solver_set_r0, sat_solver_set_r1, sat_solver_set_r2, sat_solver_set_r3, sat_solver_set_r4, sat_solver_set_r5, sat_solver_set_r6, sat_solver_set_r7, sat_solver_set_r8]
  refine call hT t_sat_solver_burn (c_burn0 hT h) 1000 fun v σ hv => ?_
  obtain ⟨rfl, rfl⟩ := hv
  simp -implicitDefEqProofs (disch := omega) only [go_sem, ↓reduceIte, reduceCtorEq, Nat.reduceEqDiff, Bool.not_false]

theorem nts_put {l : List Nat} {i n : Nat} (h : i < l.length) : (nts l).take i ++ [.int .i64 (n : Int)] ++ (nts l).drop (i + 1) = nts (l.set i n) := by
  simp only [nts, List.set_eq_take_append_cons_drop, if_pos h, List.map_append, List.map_cons, List.map_take, List.map_drop, List.append_assoc, List.singleton_append]
theorem ints_put {l : List Int} {i : Nat} {n : Int} (h : i < l.length) : (ints l).take i ++ [.int .i64 n] ++ (ints l).drop (i + 1) = ints (l.set i n) := by
  simp only [ints, List.set_eq_take_append_cons_drop, if_pos h, List.map_append, List.map_cons, List.map_take, List.map_drop, List.append_assoc, List.singleton_append]
theorem i8s_put {l : List Int} {i : Nat} {n : Int} (h : i < l.length) : (i8s l).take i ++ [.int .i8 n] ++ (i8s l).drop (i + 1) = i8s (l.set i n) := by
  simp only [i8s, List.set_eq_take_append_cons_drop, if_pos h, List.map_append, List.map_cons, List.map_take, List.map_drop, List.append_assoc, List.singleton_append]
theorem ints_snoc (l : List Int) (n : Int) : ints l ++ [.int .i64 n] = ints (l ++ [n]) := by simp [ints]
theorem nts_snoc (l : List Nat) (n : Nat) : nts l ++ [.int .i64 (n : Int)] = nts (l ++ [n]) := by simp [nts]

theorem c_set (hT : TabOk P tab) {N fu t : Nat} {K : Vs} {s s' : S} {es : List (Int × V)} {cs ps : List V} {rest : List (Option Ob)} (hb : Bd fu N s) {l r : Int} (e : s.set l r = some s') (g1 : l.natAbs < s.va.length) (g2 : l.natAbs < s.lv.length) (g3 : l.natAbs < s.re.length) (hN : s.va.length ≤ 1000) (htr : s.tr.length ≤ 1000000) :
    C P G 0 n_sat_solver_set [.ptr 0 K.s 0, .int .i64 l, .int .i64 r] (hp K s fu t es cs ps rest) fun v σ => v = .bool true ∧ ∃ w t', t ≤ t' ∧ σ = hp { K with t := w } s' fu t' es cs ps rest := by
  obtain ⟨hf, rfl⟩ := S.set_some e
  have h1 := hb.bn
  refine C_tab hT t_sat_solver_set (by simp [sat_solver_set]) (W_run 1000 ?_)
  simp -implicitDefEqProofs (disch := omega) only [go_sem, ↓reduceIte, reduceCtorEq, Nat.reduceAdd, Nat.reduceEqDiff, Nat.zero_add, sat_solver_set, sat_solver_set_r0, sat_solver_set_r1, sat_solver_set_r2, sat_solver_set_r3, sat_solver_set_r4, sat_solver_set_r5, sat_solver_set_r6, sat_solver_set_r7, sat_solver_set_r8]
  refine call hT t_sat_solver_burn (c_burn hT hb hf) 1000 fun v σ hv => ?_
  obtain ⟨rfl, rfl⟩ := hv
  simp -implicitDefEqProofs (disch := omega) only [go_sem, ↓reduceIte, reduceCtorEq, Nat.reduceEqDiff, Bool.not_true]
  refine callPS hT t_sat_abs (c_abs hT (n := l) (by omega)) rfl 1000 ?_
  rcases Int.lt_or_le l 0 with h0 | h0
  · have g4 : l.natAbs < (s.va.set l.natAbs 1).length := by simpa using g1
    simp -implicitDefEqProofs (disch := omega) only [go_sem, need_of, ↓reduceIte, reduceCtorEq, Nat.reduceAdd, Nat.reduceEqDiff, Nat.reduceLeDiff, Nat.zero_add, Nat.mul_one, decide_true, Bool.not_true, Bool.not_false, Nat.le_refl, Nat.zero_le, hp, sc, i8s_length, nts_length, ints_length, List.length_set, h0, g1, g2, g3, Int.toNat_natCast, i8s_put, nts_put, ints_put, ints_snoc, List.set_set]
    refine ⟨t, t + 1, by omega, rfl, ?_⟩
    simp
  · have g0 : ¬ l < 0 := by omega
    simp -implicitDefEqProofs (disch := omega) only [go_sem, need_of, ↓reduceIte, reduceCtorEq, Nat.reduceAdd, Nat.reduceEqDiff, Nat.reduceLeDiff, Nat.zero_add, Nat.mul_one, decide_false, Bool.not_true, Bool.not_false, Nat.le_refl, Nat.zero_le, hp, sc, i8s_length, nts_length, ints_length, List.length_set, g0, g1, g2, g3, Int.toNat_natCast, i8s_put, nts_put, ints_put, ints_snoc]
    refine ⟨t, t + 1, by omega, rfl, ?_⟩
    simp
end Go.Proofs.Ytpepmhmgfpkdmaa

