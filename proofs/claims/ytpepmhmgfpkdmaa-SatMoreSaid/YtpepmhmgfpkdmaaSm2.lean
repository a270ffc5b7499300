/- The law SatMore: clauses that are turned. -/
import Derived.Test.YtpepmhmgfpkdmaaSm1
namespace Go.Proofs.Ytpepmhmgfpkdmaa
open Go Go.Am Go.Cl Go.Sat
set_option maxRecDepth 100000
variable {P : Program} {G : Nat → Option V}

def turnF (T : Int) (F : List (List Int)) : List (List Int) := F.map (List.map (turnL T))

abbrev maJ (t tg th : Nat) (v T : Int) (F : List (List Int)) (cl : List Int) : Nat → Fr → H → Prop := fun i fr σ =>
  ∃ wg wh t', fget fr 1 = .lst 1 (ints cl) false ∧ fget fr 2 = .int .u8 T ∧ fget fr 3 = .ptr 0 t 0 ∧ fget fr 7 = .ptr 1 tg 0 ∧ fget fr 8 = .ptr 2 th 0 ∧ fget fr 9 = .int .i64 (i : Int) ∧ σ = ⟨t', mB t tg th v F (.sl 3 wg 0 1 i none) (.sl 4 wh 0 1 i none) ((F.take i).map row) ((turnF T (F.take i)).map row) wg wh⟩
abbrev maE (t tg th : Nat) (v T : Int) (F : List (List Int)) (cl : List Int) : AE → Fr → H → Prop := fun e fr σ => e = .ex 0 ∧
  ∃ wg wh t', fget fr 1 = .lst 1 (ints cl) false ∧ fget fr 2 = .int .u8 T ∧ fget fr 3 = .ptr 0 t 0 ∧ fget fr 7 = .ptr 1 tg 0 ∧ fget fr 8 = .ptr 2 th 0 ∧ σ = ⟨t', mB t tg th v F (.sl 3 wg 0 1 F.length none) (.sl 4 wh 0 1 F.length none) (F.map row) ((turnF T F).map row) wg wh⟩

theorem ma_round (hT : TabOk P tab) {t tg th : Nat} {v T : Int} {F : List (List Int)} {cl : List Int} (hFl : F.length ≤ 1000) (hl : ∀ c ∈ F, c.length ≤ 1000) (hb : ∀ c ∈ F, ∀ n ∈ c, -1000 ≤ n ∧ n ≤ 1000 ∧ n ≠ 0)
    {i : Nat} {c : List Int} (hc : F[i]? = some c) {fr : Fr} {σ : H} (hJ : maJ t tg th v T F cl i fr σ) :
    W P G 149 0 (AC.seq (AC.seq (AC.reg proofmarklaw07_SatMore_r6 [49, 50, 51, 52])   (AC.cond (Arg.t 53)   AC.skip   (AC.exit 0)))   (AC.seq (AC.block 1 (AC.seq (AC.reg proofmarklaw07_SatMore_r7 [])   (AC.seq (AC.seq (AC.reg proofmarklaw07_SatMore_r8 [])   (AC.block 2 (AC.loop (AC.seq (AC.seq (AC.reg proofmarklaw07_SatMore_r9 [56, 57, 58, 59, 60, 61, 62])   (AC.cond (Arg.t 63)   AC.skip   (AC.exit 2)))   (AC.seq (AC.block 3 (AC.seq (AC.reg proofmarklaw07_SatMore_r10 [66, 67, 68, 69, 70, 71, 72, 73])   (AC.seq (AC.seq (AC.reg proofmarklaw07_SatMore_r11 [74, 75, 76, 77, 78, 79, 80, 81])   (AC.cond (Arg.t 82)   (AC.reg proofmarklaw07_SatMore_r12 [83, 84])   AC.skip))   (AC.reg proofmarklaw07_SatMore_r13 [85, 86, 87, 88]))))   (AC.reg proofmarklaw07_SatMore_r14 [64, 65]))))))   (AC.seq (AC.reg proofmarklaw07_SatMore_r15 [89, 90, 91, 92, 93, 94])   (AC.reg proofmarklaw07_SatMore_r16 [95, 96, 97, 98, 99, 100, 101, 102, 103, 104])))))   (AC.reg proofmarklaw07_SatMore_r17 [54, 55]))) fr σ (seqQ (fun fr σ => ∃ fr' σ', Shift G 149 0 fr σ fr' σ' ∧ maJ t tg th v T F cl (i + 1) fr' σ') (maE t tg th v T F cl)) := by
  obtain ⟨wg, wh, t', f1, f2, f3, f7, f8, f9, rfl⟩ := hJ
  have hil := (List.getElem?_eq_some_iff.1 hc).1
  have hcm := List.mem_of_getElem? hc
  have hD := rows_getD hc
  have hlt : (i : Int) < (F.length : Int) := by omega
  have e2 := wnext hil (by omega)
  have hcl := hl c hcm
  have hts := take_snoc hc
  have hgl : (F.take i).length = i := by rw [List.length_take]; omega
  have hhl : (turnF T (F.take i)).length = i := by rw [turnF, List.length_map]; exact hgl
  have hth : turnF T (F.take (i + 1)) = turnF T (F.take i) ++ [c.map (turnL T)] := by rw [hts, turnF, turnF, List.map_append]; rfl
  have hi8 : i ≤ 8388608 := by omega
  generalize turnF T (F.take i) = H2 at *
  generalize F.take i = H1 at *
  refine W_round [(1, .lst 1 (ints cl) false), (2, .int .u8 T), (3, .ptr 0 t 0), (7, .ptr 1 tg 0), (8, .ptr 2 th 0), (9, .int .i64 (i : Int))] ⟨f1, f2, f3, f7, f8, f9, trivial⟩  1000 ?_
  simp -implicitDefEqProofs (disch := omega) only [go_sem, ↓reduceIte, Nat.reduceAdd, Nat.reduceEqDiff, Nat.zero_add, decide_true, Nat.le_refl, proofmarklaw07_SatMore_r6, proofmarklaw07_SatMore_r7, proofmarklaw07_SatMore_r8, proofmarklaw07_SatMore_r9, proofmarklaw07_SatMore_r10, proofmarklaw07_SatMore_r11, proofmarklaw07_SatMore_r12, proofmarklaw07_SatMore_r13, proofmarklaw07_SatMore_r14, proofmarklaw07_SatMore_r15, proofmarklaw07_SatMore_r16, proofmarklaw07_SatMore_r17, List.length_map, hlt]
  refine sem_shift (Shift.own (s := 10) (sz := 1) (T := 3) rfl (by decide)) ?_
  refine sem_upto c.length (miJ t tg th wg wh t' v T F (.sl 3 wg 0 1 i none) (.sl 4 wh 0 1 i none) (H1.map row) (H2.map row) cl i c) (miE t tg th wg wh t' v T F (.sl 3 wg 0 1 i none) (.sl 4 wh 0 1 i none) (H1.map row) (H2.map row) cl i c) ⟨t', t' + 1, by omega, rfl, rfl, rfl, rfl, rfl, rfl, rfl, rfl, rfl⟩
    (fun k hk fr σ hJ => mi_round hT hc hcl (hb c hcm) hk hJ) (fun k hk fr σ hJ => ?_) (fun e fr σ hE => ?_)
  · obtain ⟨wx, t2, ht2, f1, f2, f3, f7, f8, f9, f10, f11, rfl⟩ := hJ
    have hge : ¬ (k : Int) < (c.length : Int) := by omega
    rw [List.take_of_length_le (by omega : c.length ≤ k)]
    refine W_round [(1, .lst 1 (ints cl) false), (2, .int .u8 T), (3, .ptr 0 t 0), (7, .ptr 1 tg 0), (8, .ptr 2 th 0), (9, .int .i64 (i : Int)), (10, .sl 5 wx 0 1 k none), (11, .int .i64 (k : Int))] ⟨f1, f2, f3, f7, f8, f9, f10, f11, trivial⟩  1000 ?_
    simp -implicitDefEqProofs (disch := omega) only [go_sem, need_of, ↓reduceIte, Nat.reduceAdd, Nat.reduceEqDiff, Nat.zero_add, decide_false, Nat.le_refl, List.length_map, ints_length, List.cons_append, List.nil_append, hil, hD, hge]
    exact ⟨rfl, wx, t2, ht2, rfl, rfl, rfl, rfl, rfl, rfl, by rw [hk]; rfl, rfl⟩
  · obtain ⟨rfl, wx, t2, ht2, f1, f2, f3, f7, f8, f9, f10, rfl⟩ := hE
    refine sem_exitS [(1, .lst 1 (ints cl) false), (2, .int .u8 T), (3, .ptr 0 t 0), (7, .ptr 1 tg 0), (8, .ptr 2 th 0), (9, .int .i64 (i : Int)), (10, .sl 5 wx 0 1 c.length none)] ⟨f1, f2, f3, f7, f8, f9, f10, trivial⟩ ?_
    have hxl : (ints (c.map (turnL T))).length = c.length := by rw [ints_length, List.length_map]
    have hfz := frz_self (k := 5) (w := wx) (l := ints (c.map (turnL T)))
    rw [hxl] at hfz
    generalize hx : c.map (turnL T) = x at *
    refine sem_shift (Shift.freeze (k := 5) (v := wx) (T := 3) (cs := ints x) (Nat.zero_le _) rfl (ints_nameless _)) ?_
    rw [frz5]
    refine sem_shift (Shift.drop (o' := mB t tg th v F (.sl 3 wg 0 1 i none) (.sl 4 wh 0 1 i none) (H1.map row) (H2.map row) wg wh) (t' := t2) (by simp [subObs]) (Nat.le_refl _) (Nat.zero_le _)) (run_sem 1000 ?_)
    have n05 : ((0 : Nat) = 5) = False := eq_false (by decide)
    have n15 : ((1 : Nat) = 5) = False := eq_false (by decide)
    have n25 : ((2 : Nat) = 5) = False := eq_false (by decide)
    simp only [frzFr_cons, frzFr_nil, hfz]
    simp only [frzV, n05, n15, n25, false_and, if_false]
    simp -implicitDefEqProofs (disch := omega) only [go_sem, need_of, ↓reduceIte, reduceCtorEq, Nat.reduceAdd, Nat.reduceEqDiff, Nat.reduceLeDiff, Nat.zero_add, Nat.mul_one, Bool.not_true, Bool.not_false, Nat.le_refl, Nat.zero_le, List.length_map, List.cons_append, List.nil_append, hil, hD, hgl, hhl, e2]
    refine ⟨_, _, Shift.refl _ _ _ _, t2 + 1, t2, t2 + 1 + 1, rfl, rfl, rfl, rfl, rfl, rfl, ?_⟩
    rw [hth, hts, List.map_append, List.map_append]
    rfl
end Go.Proofs.Ytpepmhmgfpkdmaa

