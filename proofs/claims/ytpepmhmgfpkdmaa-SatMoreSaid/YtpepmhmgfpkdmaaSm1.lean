/- The law SatMore: literals that are turned. -/
import Derived.Test.YtpepmhmgfpkdmaaSq5
import Derived.Test.YtpepmhmgfpkdmaaSB
namespace Go.Proofs.Ytpepmhmgfpkdmaa
open Go Go.Am Go.Cl Go.Sat
set_option maxRecDepth 100000
variable {P : Program} {G : Nat → Option V}

/-- Is a variable one of those that are turned? -/
def tb (T : Int) (v : Nat) : Bool := decide (andI IntKind.u8 (T.fdiv (2 ^ min (v - 1) 8)) 1 = 1)
def turnL (T : Int) (n : Int) : Int := if tb T n.natAbs then -n else n

abbrev mB (t tg th : Nat) (v : Int) (F : List (List Int)) (gv hv : V) (gr hr : List V) (wg wh : Nat) : List (Option Ob) := [some (.arr t 24 [.int .i64 v, .lst 1 (F.map row) false]), some (.arr tg 24 [.int .i64 v, gv]), some (.arr th 24 [.int .i64 v, hv]), some (.arr wg 37 gr), some (.arr wh 37 hr)]

abbrev miJ (t tg th wg wh t0 : Nat) (v T : Int) (F : List (List Int)) (gv hv : V) (gr hr : List V) (cl : List Int) (i : Nat) (c : List Int) : Nat → Fr → H → Prop := fun k fr σ =>
  ∃ wx t', t0 ≤ t' ∧ fget fr 1 = .lst 1 (ints cl) false ∧ fget fr 2 = .int .u8 T ∧ fget fr 3 = .ptr 0 t 0 ∧ fget fr 7 = .ptr 1 tg 0 ∧ fget fr 8 = .ptr 2 th 0 ∧ fget fr 9 = .int .i64 (i : Int) ∧ fget fr 10 = .sl 5 wx 0 1 k none ∧ fget fr 11 = .int .i64 (k : Int) ∧ σ = ⟨t', mB t tg th v F gv hv gr hr wg wh ++ [some (.arr wx 3 (ints ((c.take k).map (turnL T))))]⟩
abbrev miE (t tg th wg wh t0 : Nat) (v T : Int) (F : List (List Int)) (gv hv : V) (gr hr : List V) (cl : List Int) (i : Nat) (c : List Int) : AE → Fr → H → Prop := fun e fr σ => e = .ex 2 ∧
  ∃ wx t', t0 ≤ t' ∧ fget fr 1 = .lst 1 (ints cl) false ∧ fget fr 2 = .int .u8 T ∧ fget fr 3 = .ptr 0 t 0 ∧ fget fr 7 = .ptr 1 tg 0 ∧ fget fr 8 = .ptr 2 th 0 ∧ fget fr 9 = .int .i64 (i : Int) ∧ fget fr 10 = .sl 5 wx 0 1 c.length none ∧ σ = ⟨t', mB t tg th v F gv hv gr hr wg wh ++ [some (.arr wx 3 (ints (c.map (turnL T))))]⟩

theorem mi_round (hT : TabOk P tab) {t tg th wg wh t0 : Nat} {v T : Int} {F : List (List Int)} {gv hv : V} {gr hr : List V} {cl : List Int} {i : Nat} {c : List Int} (hc : F[i]? = some c) (hl : c.length ≤ 1000) (hb : ∀ n ∈ c, -1000 ≤ n ∧ n ≤ 1000 ∧ n ≠ 0)
    {k : Nat} (hk : k < c.length) {fr : Fr} {σ : H} (hJ : miJ t tg th wg wh t0 v T F gv hv gr hr cl i c k fr σ) :
    W P G 149 0 (AC.seq (AC.seq (AC.reg proofmarklaw07_SatMore_r9 [56, 57, 58, 59, 60, 61, 62])   (AC.cond (Arg.t 63)   AC.skip   (AC.exit 2)))   (AC.seq (AC.block 3 (AC.seq (AC.reg proofmarklaw07_SatMore_r10 [66, 67, 68, 69, 70, 71, 72, 73])   (AC.seq (AC.seq (AC.reg proofmarklaw07_SatMore_r11 [74, 75, 76, 77, 78, 79, 80, 81])   (AC.cond (Arg.t 82)   (AC.reg proofmarklaw07_SatMore_r12 [83, 84])   AC.skip))   (AC.reg proofmarklaw07_SatMore_r13 [85, 86, 87, 88]))))   (AC.reg proofmarklaw07_SatMore_r14 [64, 65]))) fr σ (seqQ (fun fr σ => ∃ fr' σ', Shift G 149 0 fr σ fr' σ' ∧ miJ t tg th wg wh t0 v T F gv hv gr hr cl i c (k + 1) fr' σ') (miE t tg th wg wh t0 v T F gv hv gr hr cl i c)) := by
  obtain ⟨wx, t', ht, f1, f2, f3, f7, f8, f9, f10, f11, rfl⟩ := hJ
  obtain ⟨n, hn⟩ : ∃ n, c[k]? = some n := ⟨_, List.getElem?_eq_getElem hk⟩
  have hbn := hb n (List.mem_of_getElem? hn)
  have hil := (List.getElem?_eq_some_iff.1 hc).1
  have hD := rows_getD hc
  have hDn := ints_getD hn
  have hlt : (k : Int) < (c.length : Int) := by omega
  have e2 := wnext hk (by omega)
  have hneg : IntKind.i64.wrap (0 - n) = -n := by rw [wneg64 (by omega)]; unfold neg; rw [if_neg (by omega)]
  have ha : (if n < -n then -n else n) = (n.natAbs : Int) := by split <;> omega
  have h1 : IntKind.i64.wrap ((n.natAbs : Int) - 1) = ((n.natAbs - 1 : Nat) : Int) := by rw [wself (by omega)]; omega
  have h0 : (0 : Int) ≤ ((n.natAbs - 1 : Nat) : Int) := Int.natCast_nonneg _
  have hx : ((c.take k).map (turnL T)).length = k := by simp; omega
  have hts := take_snoc hn
  have hkl : k ≤ 8388608 := by omega
  generalize hxx : (c.take k).map (turnL T) = x at *
  by_cases g : andI IntKind.u8 (T.fdiv (2 ^ min (n.natAbs - 1) 8)) 1 = 1
  · have g' : (andI IntKind.u8 (T.fdiv (2 ^ min (n.natAbs - 1) 8)) 1 == 1) = true := beq_iff_eq.2 g
    have ht1 : turnL T n = -n := by unfold turnL tb; rw [decide_eq_true g]; rfl
    refine W_round [(1, .lst 1 (ints cl) false), (2, .int .u8 T), (3, .ptr 0 t 0), (7, .ptr 1 tg 0), (8, .ptr 2 th 0), (9, .int .i64 (i : Int)), (10, .sl 5 wx 0 1 k none), (11, .int .i64 (k : Int))] ⟨f1, f2, f3, f7, f8, f9, f10, f11, trivial⟩  1000 ?_
    simp -implicitDefEqProofs (disch := omega) only [go_sem, need_of, ↓reduceIte, reduceCtorEq, Nat.reduceAdd, Nat.reduceEqDiff, Nat.reduceLeDiff, Nat.zero_add, Nat.mul_one, decide_true, Bool.not_true, Nat.le_refl, Nat.zero_le, gt_iff_lt, beq_self_eq_true, proofmarklaw07_SatMore_r9, proofmarklaw07_SatMore_r10, proofmarklaw07_SatMore_r11, proofmarklaw07_SatMore_r12, proofmarklaw07_SatMore_r13, proofmarklaw07_SatMore_r14, List.length_map, ints_length, List.cons_append, List.nil_append, hil, hlt, hk, hD, hDn, hneg, ha, h1, h0, g, Int.toNat_natCast, hx, ints_snoc, e2]
    refine ⟨_, _, Shift.refl _ _ _ _, t', t' + 1, by omega, rfl, rfl, rfl, rfl, rfl, rfl, rfl, rfl, ?_⟩
    rw [hts, List.map_append, hxx, List.map_singleton, ht1]
    rfl
  · have g' : (andI IntKind.u8 (T.fdiv (2 ^ min (n.natAbs - 1) 8)) 1 == 1) = false := beq_eq_false_iff_ne.2 g
    have ht1 : turnL T n = n := by unfold turnL tb; rw [decide_eq_false g]; rfl
    refine W_round [(1, .lst 1 (ints cl) false), (2, .int .u8 T), (3, .ptr 0 t 0), (7, .ptr 1 tg 0), (8, .ptr 2 th 0), (9, .int .i64 (i : Int)), (10, .sl 5 wx 0 1 k none), (11, .int .i64 (k : Int))] ⟨f1, f2, f3, f7, f8, f9, f10, f11, trivial⟩  1000 ?_
    simp -implicitDefEqProofs (disch := omega) only [go_sem, need_of, ↓reduceIte, reduceCtorEq, Nat.reduceAdd, Nat.reduceEqDiff, Nat.reduceLeDiff, Nat.zero_add, Nat.mul_one, decide_true, Bool.not_true, Nat.le_refl, Nat.zero_le, gt_iff_lt, proofmarklaw07_SatMore_r9, proofmarklaw07_SatMore_r10, proofmarklaw07_SatMore_r11, proofmarklaw07_SatMore_r12, proofmarklaw07_SatMore_r13, proofmarklaw07_SatMore_r14, List.length_map, ints_length, List.cons_append, List.nil_append, hil, hlt, hk, hD, hDn, hneg, ha, h1, h0, g', Int.toNat_natCast, hx, ints_snoc, e2]
    refine ⟨_, _, Shift.refl _ _ _ _, t', t' + 1, by omega, rfl, rfl, rfl, rfl, rfl, rfl, rfl, rfl, ?_⟩
    rw [hts, List.map_append, hxx, List.map_singleton, ht1]
    rfl

theorem rows_frz (k w : Nat) (cs : List V) (F : List (List Int)) : (F.map row).map (frzV k w cs) = F.map row := by simp [row, frzV]
theorem frz5 {t tg th wg wh wx n m T : Nat} {v : Int} {F H1 H2 : List (List Int)} {cs : List V} :
    mapFrom (frzV 5 wx cs) 0 ((mB t tg th v F (.sl 3 wg 0 1 n none) (.sl 4 wh 0 1 m none) (H1.map row) (H2.map row) wg wh ++ [some (Ob.arr wx T cs)]).set 5 none) = mB t tg th v F (.sl 3 wg 0 1 n none) (.sl 4 wh 0 1 m none) (H1.map row) (H2.map row) wg wh ++ [none] := by
  have h1 := rows_frz 5 wx cs H1
  have h2 := rows_frz 5 wx cs H2
  simp [mapFrom, Ob.mapV, frzV, row] at h1 h2 ⊢
end Go.Proofs.Ytpepmhmgfpkdmaa

