/- Contracts: a clause's copy; what is not a literal; the variable that is decided next. -/
import Derived.Test.YtpepmhmgfpkdmaaSw9
import Derived.Test.YtpepmhmgfpkdmaaSA
namespace Go.Proofs.Ytpepmhmgfpkdmaa
open Go Go.Am Go.Cl Go.Sat
set_option maxRecDepth 100000
variable {P : Program} {G : Nat → Option V}

theorem c_CloneS (hT : TabOk P tab) {base t k w T : Nat} {o : List (Option Ob)} {c : List Int} {cells : List V} (hc : c ≠ []) (hl : c.length ≤ 1000000) (ho : o[k]? = some (some (.arr w T (ints c ++ cells)))) :
    C P G base n_slices_Clone_int_int [.sl k w 0 1 c.length none] ⟨t, o⟩ fun v σ => v = .sl o.length t 0 1 c.length none ∧ σ = ⟨t + 1, o ++ [some (.arr t 3 (ints c))]⟩ := by
  have hpos : 0 < c.length := List.length_pos_iff.2 hc
  have hne : ¬ c.length = 0 := by omega
  have ht : (ints c ++ cells).take c.length = ints c := by rw [List.take_append_of_le_length (by rw [ints_length]; omega), List.take_of_length_le (by rw [ints_length]; omega)]
  refine C_tab hT t_slices_Clone_int_int (by simp [slices_Clone_int_int]) (W_run 1000 ?_)
  simp -implicitDefEqProofs (disch := omega) only [go_sem, need_of, ↓reduceIte, reduceCtorEq, Nat.reduceEqDiff, Nat.zero_add, Nat.mul_one, Bool.not_false, slices_Clone_int_int, slices_Clone_int_int_r0, slices_Clone_int_int_r1, slices_Clone_int_int_r2, slices_Clone_int_int_r3, ho, hne, hpos, List.length_append, ints_length, ht]

theorem k_learn_S1 (hT : TabOk P tab) {base kb tb T : Nat} {o : List (Option Ob)} {a : Int} {c : List Int} (h1 : o[kb]? = some (some (.arr tb T [.int .i64 a]))) :
    Tells P G base (.fn (.func n_sat_solver_learn_S1) [] [.ptr kb tb 0]) o (fun n => n == a) c := fun t n hn => by
  refine CV.of hT t_sat_solver_learn_S1 (C_tab hT t_sat_solver_learn_S1 (by simp [sat_solver_learn_S1]) (W_run 1000 ?_))
  simp -implicitDefEqProofs (disch := omega) only [go_sem, ↓reduceIte, reduceCtorEq, Nat.reduceEqDiff, Nat.zero_add, Nat.le_refl, sat_solver_learn_S1, sat_solver_learn_S1_r0, sat_solver_learn_S1_r1, h1]
  exact ⟨t, Nat.le_refl _, rfl⟩

/-- The variable that is picked, of so many. -/
def pickN (s : S) (n : Nat) : Nat := ((List.range n).map (· + 1)).foldl (fun b v => if s.va.getD v 0 = 0 ∧ (b = 0 ∨ s.he.getD b 0 < s.he.getD v 0) then v else b) 0
theorem pickN_next (s : S) (n : Nat) : pickN s (n + 1) = if s.va.getD (n + 1) 0 = 0 ∧ (pickN s n = 0 ∨ s.he.getD (pickN s n) 0 < s.he.getD (n + 1) 0) then n + 1 else pickN s n := by
  unfold pickN
  rw [List.range_succ, List.map_append, List.foldl_append]; rfl
theorem pickN_le (s : S) : ∀ n, pickN s n ≤ n
  | 0 => Nat.le_refl _
  | n + 1 => by rw [pickN_next]; have := pickN_le s n; split <;> omega

abbrev pkJ (K : Vs) (s : S) (fu t : Nat) (es : List (Int × V)) (cs ps : List V) (rest : List (Option Ob)) : Nat → Fr → H → Prop := fun i fr σ => fget fr 0 = .ptr 0 K.s 0 ∧ fget fr 3 = .int .i64 (pickN s i : Int) ∧ fget fr 4 = .int .i64 ((i + 1 : Nat) : Int) ∧ σ = hp K s fu t es cs ps rest
abbrev pkE (K : Vs) (s : S) (fu t : Nat) (es : List (Int × V)) (cs ps : List V) (rest : List (Option Ob)) : AE → Fr → H → Prop := fun e fr σ => e = .ex 0 ∧ fget fr 3 = .int .i64 (s.pick : Int) ∧ σ = hp K s fu t es cs ps rest

theorem c_pick (hT : TabOk P tab) {base N fu t : Nat} {K : Vs} {s : S} {es : List (Int × V)} {cs ps : List V} {rest : List (Option Ob)} (hi : Inv N s) (hb : Bd fu N s) :
    C P G base n_sat_solver_pick [.ptr 0 K.s 0] (hp K s fu t es cs ps rest) fun v σ => v = .int .i64 (s.pick : Int) ∧ σ = hp K s fu t es cs ps rest := by
  have hbn := hb.bn
  have hva := hi.nva
  have hhe := hi.nhe
  refine C_tab hT t_sat_solver_pick (by simp [sat_solver_pick]) (W_run 1000 ?_)
  simp -implicitDefEqProofs (disch := omega) only [go_sem, ↓reduceIte, reduceCtorEq, Nat.reduceEqDiff, sat_solver_pick, sat_solver_pick_r0, sat_solver_pick_r1, sat_solver_pick_r2, sat_solver_pick_r3, sat_solver_pick_r4, sat_solver_pick_r5, sat_solver_pick_r6, sat_solver_pick_r7]
  refine sem_upto (N - 1) (pkJ K s fu t es cs ps rest) (pkE K s fu t es cs ps rest) ⟨rfl, rfl, rfl, rfl⟩ (fun i hlt fr σ hJ => ?_) (fun i hi2 fr σ hJ => ?_) (fun e fr σ hE => ?_)
  · obtain ⟨f0, f3, f4, rfl⟩ := hJ
    have h1 : ((i + 1 : Nat) : Int) < (s.va.length : Int) := by omega
    have h2 : i + 1 < s.va.length := by omega
    have h3 : i + 1 < s.he.length := by omega
    have hD := i8s_getD h2
    have hDh := nts_getD h3
    have e2 := wnext (i := i + 1) (n := s.va.length) h2 (by omega)
    have hnext := pickN_next s i
    have hple := pickN_le s i
    have h4 : pickN s i < s.he.length := by omega
    have hDp := nts_getD h4
    generalize s.va.getD (i + 1) 0 = x at *
    generalize pickN s i = b at *
    generalize s.he.getD b 0 = y at *
    generalize s.he.getD (i + 1) 0 = z at *
    by_cases g1 : x = 0
    · have g1' : (x == 0) = true := beq_iff_eq.2 g1
      have g1p : (x = 0) = True := eq_true g1
      by_cases g2 : b = 0
      · have g2' : ((b : Int) == 0) = true := by rw [g2]; rfl
        have g2p : ((b : Int) = 0) = True := eq_true (by omega)
        rw [if_pos ⟨g1, .inl g2⟩] at hnext
        refine W_round [(0, .ptr 0 K.s 0), (3, .int .i64 (b : Int)), (4, .int .i64 ((i + 1 : Nat) : Int))] ⟨f0, f3, f4, trivial⟩  1000 ?_
        simp -implicitDefEqProofs (disch := omega) only [go_sem, need_of, ↓reduceIte, reduceCtorEq, Nat.reduceAdd, Nat.reduceEqDiff, Nat.reduceLeDiff, Nat.zero_add, Nat.mul_one, decide_true, hp, sc, i8s_length, Int.toNat_natCast, h1, h2, hD, g1', g2', e2, true_implies, true_and, and_true]
        exact ⟨_, _, Shift.refl _ _ _ _, rfl, by rw [hnext]; rfl, rfl, rfl⟩
      · have g2' : ((b : Int) == 0) = false := beq_eq_false_iff_ne.2 (by omega)
        have g2p : ((b : Int) = 0) = False := eq_false (by omega)
        by_cases g3 : y < z
        · have g3' : decide ((y : Int) < (z : Int)) = true := decide_eq_true (by omega)
          have g3p : ((y : Int) < (z : Int)) = True := eq_true (by omega)
          rw [if_pos ⟨g1, .inr g3⟩] at hnext
          refine W_round [(0, .ptr 0 K.s 0), (3, .int .i64 (b : Int)), (4, .int .i64 ((i + 1 : Nat) : Int))] ⟨f0, f3, f4, trivial⟩  1000 ?_
          simp -implicitDefEqProofs (disch := omega) only [go_sem, need_of, ↓reduceIte, reduceCtorEq, Nat.reduceAdd, Nat.reduceEqDiff, Nat.reduceLeDiff, Nat.zero_add, Nat.mul_one, decide_true, gt_iff_lt, hp, sc, nts_length, i8s_length, Int.toNat_natCast, h1, h2, h3, h4, hD, hDh, hDp, g1', g2', g3p, e2, true_implies, true_and, and_true]
          exact ⟨_, _, Shift.refl _ _ _ _, rfl, by rw [hnext]; rfl, rfl, rfl⟩
        · have g3' : decide ((y : Int) < (z : Int)) = false := decide_eq_false (by omega)
          have g3p : ((y : Int) < (z : Int)) = False := eq_false (by omega)
          rw [if_neg fun q => q.2.elim g2 g3] at hnext
          refine W_round [(0, .ptr 0 K.s 0), (3, .int .i64 (b : Int)), (4, .int .i64 ((i + 1 : Nat) : Int))] ⟨f0, f3, f4, trivial⟩  1000 ?_
          simp -implicitDefEqProofs (disch := omega) only [go_sem, need_of, ↓reduceIte, reduceCtorEq, Nat.reduceAdd, Nat.reduceEqDiff, Nat.reduceLeDiff, Nat.zero_add, Nat.mul_one, decide_true, decide_false, gt_iff_lt, hp, sc, nts_length, i8s_length, Int.toNat_natCast, h1, h2, h3, h4, hD, hDh, hDp, g1', g2', g3p, e2, true_implies, true_and, and_true]
          exact ⟨_, _, Shift.refl _ _ _ _, rfl, by rw [hnext]; rfl, rfl, rfl⟩
    · have g1' : (x == 0) = false := beq_eq_false_iff_ne.2 g1
      have g1p : (x = 0) = False := eq_false g1
      rw [if_neg fun q => g1 q.1] at hnext
      refine W_round [(0, .ptr 0 K.s 0), (3, .int .i64 (b : Int)), (4, .int .i64 ((i + 1 : Nat) : Int))] ⟨f0, f3, f4, trivial⟩  1000 ?_
      simp -implicitDefEqProofs (disch := omega) only [go_sem, need_of, ↓reduceIte, reduceCtorEq, Nat.reduceAdd, Nat.reduceEqDiff, Nat.reduceLeDiff, Nat.zero_add, Nat.mul_one, decide_true, hp, sc, i8s_length, Int.toNat_natCast, h1, h2, hD, g1', e2, true_implies, true_and, and_true]
      exact ⟨_, _, Shift.refl _ _ _ _, rfl, by rw [hnext]; rfl, rfl, rfl⟩
  · obtain ⟨f0, f3, f4, rfl⟩ := hJ
    have h1 : ¬ ((i + 1 : Nat) : Int) < (s.va.length : Int) := by omega
    refine W_round [(0, .ptr 0 K.s 0), (3, .int .i64 (pickN s i : Int)), (4, .int .i64 ((i + 1 : Nat) : Int))] ⟨f0, f3, f4, trivial⟩  1000 ?_
    simp -implicitDefEqProofs (disch := omega) only [go_sem, ↓reduceIte, reduceCtorEq, Nat.reduceAdd, Nat.reduceEqDiff, Nat.reduceLeDiff, Nat.zero_add, decide_false, hp, sc, h1]
    exact ⟨rfl, by rw [hi2, ← hva]; rfl, rfl⟩
  · obtain ⟨rfl, f3, rfl⟩ := hE
    refine run_sem 1000 ?_
    simp -implicitDefEqProofs (disch := omega) only [go_sem, ↓reduceIte, Nat.reduceEqDiff, f3]
end Go.Proofs.Ytpepmhmgfpkdmaa

