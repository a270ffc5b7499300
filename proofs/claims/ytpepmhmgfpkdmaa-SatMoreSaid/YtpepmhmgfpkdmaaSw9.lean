/- Contracts: what follows is looked at (the whole); levels are undone. -/
import Derived.Test.YtpepmhmgfpkdmaaSw8
namespace Go.Am
open Go
variable {G : Nat → Option V}
/-- The end of a row of ours is forgotten. -/
theorem HShift.trim {base k v T : Nat} {cs : List V} {t : Nat} {o : List (Option Ob)} (hbase : base ≤ k) (ho : o[k]? = some (some (.arr v T cs))) (n : Nat) : HShift G base ⟨t, o⟩ ⟨t, o.set k (some (.arr v T (cs.take n)))⟩ := fun I ρ w R hb => by
  have hob : ObR I ρ w k (.arr v T (cs.take n)) := by
    rcases R.objs k _ ho with ⟨h1, h2⟩ | ⟨b, o', e, c, lo, hi, h1, h2, h3, h4, h5, h6⟩
    · exact .inl ⟨h1, by rw [h2]; simp⟩
    · refine .inr ⟨b, o', e, c, lo, hi, h1, h2, by simp; omega, h4, h5, fun j u hj => h6 j u ?_⟩
      rw [List.getElem?_take] at hj
      split at hj
      · exact hj
      · cases hj
  obtain ⟨h1, h2⟩ := R.reseen hbase ho hob
  exact ⟨I, ρ, h1, h2, by simpa using hb⟩
end Go.Am
namespace Go.Proofs.Ytpepmhmgfpkdmaa
open Go Go.Am Go.Cl Go.Sat
set_option maxRecDepth 100000
variable {P : Program} {G : Nat → Option V}

def SprQ (K : Vs) (fu t : Nat) (ps : List V) : Option (S × Option Nat) → V → H → Prop
  | none, v, σ => (∃ n, v = .tup [.int .i64 n, .bool true]) ∧ ∃ s, Can K fu t ps s σ
  | some (s, none), v, σ => v = .tup [.int .i64 (-1), .bool false] ∧ Can K fu t ps s σ
  | some (s, some n), v, σ => v = .tup [.int .i64 (n : Int), .bool false] ∧ Can K fu t ps s σ

theorem c_spread (hT : TabOk P tab) {N fu t : Nat} {K : Vs} {s : S} {es : List (Int × V)} {cs ps : List V} {rest : List (Option Ob)} {ow : Nat → Own} (hi : Inv N s) (hb : Bd fu N s) (hw : RW s es cs rest ow) :
    C P G 0 n_sat_solver_spread [.ptr 0 K.s 0] (hp K s fu t es cs ps rest) fun v σ => SprQ K fu t ps s.spread v σ := by
  refine C_tab hT t_sat_solver_spread (by simp [sat_solver_spread]) (W_run 1000 ?_)
  simp -implicitDefEqProofs (disch := omega) only [go_sem, ↓reduceIte, reduceCtorEq, Nat.reduceEqDiff, sat_solver_spread, sat_solver_spread_r0, sat_solver_spread_r1, sat_solver_spread_r2, sat_solver_spread_r3, sat_solver_spread_r4, sat_solver_spread_r5, sat_solver_spread_r6, sat_solver_spread_r7, sat_solver_spread_r8, sat_solver_spread_r9, sat_solver_spread_r10, sat_solver_spread_r11, sat_solver_spread_r12, sat_solver_spread_r13, sat_solver_spread_r14, sat_solver_spread_r15, sat_solver_spread_r16, sat_solver_spread_r17]
  refine sem_invE (soJ K N fu t ps s.spread) (soE K fu t ps s.spread) (m0 := s.room + 1) ⟨s, K, es, cs, rest, ow, t, Nat.lt_succ_self _, Nat.le_refl _, rfl, rfl, hi, hb, hw, rfl, rfl⟩ (fun m fr σ hJ => so_round hT hJ) (fun e fr σ hE => ?_)
  rcases hE with ⟨rfl, ⟨hR, ⟨n, f2⟩, f3, hcan⟩ | ⟨s2, n, hR, f2, f3, hcan⟩⟩ | ⟨rfl, s2, hR, hcan⟩
  · refine run_sem 1000 ?_
    simp -implicitDefEqProofs (disch := omega) only [go_sem, f2, f3]
    rw [hR]; exact ⟨⟨n, rfl⟩, hcan⟩
  · refine run_sem 1000 ?_
    simp -implicitDefEqProofs (disch := omega) only [go_sem, f2, f3]
    rw [hR]; exact ⟨rfl, hcan⟩
  · refine run_sem 1000 ?_
    simp -implicitDefEqProofs (disch := omega) only [go_sem, ↓reduceIte, Nat.reduceEqDiff]
    rw [hR]; exact ⟨rfl, hcan⟩

abbrev bkJ (K : Vs) (s : S) (fu t level m : Nat) (es : List (Int × V)) (cs ps : List V) (rest : List (Option Ob)) : Nat → Fr → H → Prop := fun i fr σ => fget fr 0 = .ptr 0 K.s 0 ∧ fget fr 1 = .int .i64 (level : Int) ∧ fget fr 24 = .sl 6 K.t m 1 (s.tr.length - m) none ∧ fget fr 25 = .int .i64 ((s.tr.length - m : Nat) : Int) ∧ fget fr 26 = .int .i64 (i : Int) ∧ σ = hp K { s with va := zeros s.va ((s.tr.drop m).take i) } fu t es cs ps rest
abbrev bkE (K : Vs) (s : S) (fu t level m : Nat) (es : List (Int × V)) (cs ps : List V) (rest : List (Option Ob)) : AE → Fr → H → Prop := fun e fr σ => e = .ex 0 ∧ fget fr 0 = .ptr 0 K.s 0 ∧ fget fr 1 = .int .i64 (level : Int) ∧ σ = hp K { s with va := zeros s.va (s.tr.drop m) } fu t es cs ps rest

theorem zeros_snoc (va l : List Int) (a : Int) : zeros va (l ++ [a]) = (zeros va l).set a.natAbs 0 := by simp [zeros]

theorem c_back (hT : TabOk P tab) {N fu t level m : Nat} {K : Vs} {s : S} {es : List (Int × V)} {cs ps : List V} {rest : List (Option Ob)} {ow : Nat → Own} (hi : Inv N s) (hbn : 1 ≤ N ∧ N ≤ 1000) (hw : RW s es cs rest ow) (hm : s.ms[level]? = some m) (hml : m < s.tr.length) :
    C P G 0 n_sat_solver_back [.ptr 0 K.s 0, .int .i64 (level : Int)] (hp K s fu t es cs ps rest) fun _ σ => σ = hp K (s.back level) fu t es cs ps rest := by
  have hlv := (List.getElem?_eq_some_iff.1 hm).1
  have htl := okc_len hi.tro
  have hmD : (nts s.ms).getD level V.any = .int .i64 (m : Int) := by rw [nts_getD hlv, getD_some hm]
  have g1 : ¬ (s.ms.length : Int) ≤ (level : Int) := by omega
  have hle : m ≤ s.tr.length := by omega
  refine C_hshift (Q := fun _ σ => σ = ⟨t, [some (.arr K.s 46 (sc K (s.back level) fu cs.length ps.length)), some (.map K.m (kv es)), some (.arr K.v 50 (i8s (s.back level).va)), some (.arr K.l 3 (nts s.lv)), some (.arr K.r 3 (ints s.re)), some (.arr K.h 3 (nts s.he)), some (.arr K.t 3 (ints s.tr)), some (.arr K.k 3 (nts s.ms)), some (.arr K.c 37 cs), some (.arr K.p 37 ps)] ++ rest⟩) ?_ fun v σ hσ => ?_
  · refine C_tab hT t_sat_solver_back (by simp [sat_solver_back]) (W_run 1000 ?_)
    simp -implicitDefEqProofs (disch := omega) only [go_sem, need_of, ↓reduceIte, reduceCtorEq, Nat.reduceAdd, Nat.reduceEqDiff, Nat.reduceLeDiff, Nat.zero_add, Nat.mul_one, decide_false, ge_iff_le, sat_solver_back, sat_solver_back_r0, sat_solver_back_r1, sat_solver_back_r2, sat_solver_back_r3, sat_solver_back_r4, sat_solver_back_r5, sat_solver_back_r6, sat_solver_back_r7, sat_solver_back_r8, hp, sc, nts_length, Int.toNat_natCast, g1, hlv, hmD, hle, hml]
    refine sem_for (s.tr.drop m) (bkJ K s fu t level m es cs ps rest) (bkE K s fu t level m es cs ps rest) ⟨rfl, rfl, rfl, rfl, rfl, rfl⟩ (fun i a ha fr σ hJ => ?_) (fun i hi2 fr σ hJ => ?_) (fun e fr σ hE => ?_)
    · skip
      obtain ⟨f0, f1, f24, f25, f26, rfl⟩ := hJ
      rw [List.getElem?_drop] at ha
      have hil := (List.getElem?_eq_some_iff.1 ha).1
      have hlt : (i : Int) < ((s.tr.length - m : Nat) : Int) := by omega
      have hlt' : i < s.tr.length - m := by omega
      have hD : (ints s.tr).getD (m + i) V.any = .int .i64 a := ints_getD ha
      have haN := (hi.tro.1 a (List.mem_of_getElem? ha)).2
      have e2 := wnext (i := i) (n := s.tr.length) (by omega) (by omega)
      have hzl : (zeros s.va ((s.tr.drop m).take i)).length = s.va.length := zeros_length _ _
      have haz : a.natAbs < (zeros s.va ((s.tr.drop m).take i)).length := by rw [hzl, hi.nva]; exact haN
      have hnext : (zeros s.va ((s.tr.drop m).take i)).set a.natAbs 0 = zeros s.va ((s.tr.drop m).take (i + 1)) := by
        rw [take_snoc (x := a) (by rw [List.getElem?_drop]; exact ha), zeros_snoc]
      refine W_round [(0, .ptr 0 K.s 0), (1, .int .i64 (level : Int)), (24, .sl 6 K.t m 1 (s.tr.length - m) none), (25, .int .i64 ((s.tr.length - m : Nat) : Int)), (26, .int .i64 (i : Int))] ⟨f0, f1, f24, f25, f26, trivial⟩  1000 ?_
      simp -implicitDefEqProofs (disch := omega) only [go_sem, need_of, ↓reduceIte, reduceCtorEq, Nat.reduceAdd, Nat.reduceEqDiff, Nat.reduceLeDiff, Nat.zero_add, Nat.mul_one, decide_true, hp, sc, ints_length, Int.toNat_natCast, hlt, hlt', hD]
      refine callPS hT t_sat_abs (c_abs hT (n := a) (by omega)) rfl 1000 ?_
      simp -implicitDefEqProofs (disch := omega) only [go_sem, need_of, ↓reduceIte, reduceCtorEq, Nat.reduceEqDiff, Nat.zero_add, Nat.mul_one, Bool.not_false, Nat.zero_le, i8s_length, Int.toNat_natCast, haz, i8s_put, e2, hnext]
      exact ⟨_, _, Shift.refl _ _ _ _, rfl, rfl, rfl, rfl, rfl, by simp [hp, sc, zeros_length]⟩
    · obtain ⟨f0, f1, f24, f25, f26, rfl⟩ := hJ
      have hge : ¬ (i : Int) < ((s.tr.length - m : Nat) : Int) := by rw [List.length_drop] at hi2; omega
      have hall : (s.tr.drop m).take i = s.tr.drop m := List.take_of_length_le (by omega)
      rw [hall]
      refine W_round [(0, .ptr 0 K.s 0), (1, .int .i64 (level : Int)), (24, .sl 6 K.t m 1 (s.tr.length - m) none), (25, .int .i64 ((s.tr.length - m : Nat) : Int)), (26, .int .i64 (i : Int))] ⟨f0, f1, f24, f25, f26, trivial⟩  1000 ?_
      simp -implicitDefEqProofs (disch := omega) only [go_sem, ↓reduceIte, reduceCtorEq, Nat.reduceEqDiff, decide_false, hge]
      exact ⟨rfl, rfl, rfl, rfl⟩
    · obtain ⟨rfl, f0, f1, rfl⟩ := hE
      refine sem_exit [(0, .ptr 0 K.s 0), (1, .int .i64 (level : Int))] ⟨f0, f1, trivial⟩  1000 ?_
      simp -implicitDefEqProofs (disch := omega) only [go_sem, need_of, ↓reduceIte, reduceCtorEq, Nat.reduceAdd, Nat.reduceEqDiff, Nat.reduceLeDiff, Nat.zero_add, Nat.add_zero, Nat.mul_one, Bool.not_false, Nat.le_refl, hp, sc, nts_length, Int.toNat_natCast, hlv, hmD, hle]
      have e1 : (s.tr.take m).length = m := by rw [List.length_take]; omega
      have e2 : (s.ms.take level).length = level := by rw [List.length_take]; omega
      rw [S.back_of hm]
      simp only [e1, e2, Nat.sub_zero]
  · have h1 : HShift G 0 σ _ := hσ ▸ HShift.trim (k := 6) (Nat.zero_le _) rfl m
    refine ⟨_, h1.trans (HShift.trim (k := 7) (Nat.zero_le _) rfl level), ?_⟩
    rw [S.back_of hm]
    simp [hp, ints, nts, List.map_take]
end Go.Proofs.Ytpepmhmgfpkdmaa

