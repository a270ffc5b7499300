/- Contracts: the document's side of proofs: what follows. -/
import Derived.Test.YtingdebioipemaaRc7
namespace Go.Proofs.Ytingdebioipemaa
open Go Go.Am Go.Cl
set_option maxRecDepth 100000
variable {P : Program} {G : Nat → Option V}

def trw (c : List Int) : V := .lst 1 (ints c) true
theorem wk_trw (c : List Int) : Wk (trw c) (row c) := .lst 1 1 _ _ true (WkL.refl _) (.inr rfl)
theorem wkl_append : ∀ {a a' b b' : List V}, WkL a a' → WkL b b' → WkL (a ++ b) (a' ++ b')
  | _, _, _, _, .nil, k => k
  | _, _, _, _, .cons v v' l l' hv h, k => .cons v v' _ _ hv (wkl_append h k)
theorem nameless_trws (L : List Int) : namelessL (L.map fun n => trw [-n]) = true := by
  induction L with
  | nil => rfl
  | cons c F ih =>
    rw [List.map_cons]
    show (nameless (trw [-c]) && namelessL (F.map fun n => trw [-n])) = true
    rw [ih]
    simp [trw, nameless, ints]

abbrev f1J (t : Nat) (v : Int) (F : List (List Int)) (c : List Int) : Nat → Fr → H → Prop := fun i fr σ => (∀ n ∈ c.take i, litOk v n = true) ∧ fget fr 1 = .lst 1 (ints c) false ∧ fget fr 2 = .ptr 0 t 0 ∧ fget fr 5 = .int .i64 ((i : Nat) : Int) ∧ σ = ⟨t + 1, rfH t v F⟩
abbrev f1E (t : Nat) (v : Int) (F : List (List Int)) (c : List Int) : AE → Fr → H → Prop := fun e fr σ => (e = .ret ∧ c.all (litOk v) = false ∧ fget fr 4 = .bool false) ∨ (e = .ex 0 ∧ c.all (litOk v) = true ∧ fget fr 1 = .lst 1 (ints c) false ∧ fget fr 2 = .ptr 0 t 0 ∧ σ = ⟨t + 1, rfH t v F⟩)
theorem f1_round {t : Nat} {v : Int} {F : List (List Int)} {c : List Int} (hv : 0 ≤ v ∧ v ≤ 16777216) (hl : c.length ≤ 1000) {i : Nat} {n : Int} (ha : c[i]? = some n) {fr : Fr} {σ : H} (hJ : f1J t v F c i fr σ) :
    W P G 82 0 (AC.seq (AC.seq (AC.reg proofmarkref07_Follows_r2 [12, 13, 14])   (AC.cond (Arg.t 15)   AC.skip   (AC.exit 0)))   (AC.seq (AC.block 1 (AC.seq (AC.reg proofmarkref07_Follows_r3 [18, 19, 20, 21, 22, 23, 24, 25, 26, 27, 28, 29, 30, 31, 32, 33, 34, 35, 36, 37, 38, 39, 40])   (AC.cond (Arg.t 41)   (AC.seq (AC.reg proofmarkref07_Follows_r4 [])   AC.ret)   AC.skip)))   (AC.reg proofmarkref07_Follows_r5 [16, 17]))) fr σ (seqQ (fun fr σ => ∃ fr' σ', Shift G 82 0 fr σ fr' σ' ∧ f1J t v F c (i + 1) fr' σ') (f1E t v F c)) := by
  obtain ⟨hok, f1, f2, f5, rfl⟩ := hJ
  obtain ⟨hlt, hD, e2⟩ := at_ints ha (by omega)
  have hnm := List.mem_of_getElem? ha
  have hts := take_snoc ha
  have hneg := wneg hv
  have hno : litOk v n = false → c.all (litOk v) = false := fun h => List.all_eq_false.2 ⟨n, hnm, by simp [h]⟩
  by_cases g1 : n = 0
  · have hr := hno (by simp [litOk, g1])
    have g1' : (n == 0) = true := by simp [g1]
    refine W_round [(1, .lst 1 (ints c) false), (2, .ptr 0 t 0), (5, .int .i64 ((i : Nat) : Int))] ⟨f1, f2, f5, trivial⟩  14 ?_
    simp -implicitDefEqProofs (disch := omega) only [go_sem, ↓reduceIte, Nat.reduceEqDiff, decide_true, proofmarkref07_Follows_r2, proofmarkref07_Follows_r3, proofmarkref07_Follows_r4, proofmarkref07_Follows_r5, rfH, ints_length, hlt]
    iterate 16 (try (refine run_sem 2 ?_; simp -implicitDefEqProofs (disch := omega) only [go_sem, need_of, ↓reduceIte, Nat.reduceEqDiff, Nat.zero_add, Nat.le_refl, ints_length, true_implies, and_true, hlt, hD, g1']))
    iterate 4 (try (refine run_sem 4 ?_; simp -implicitDefEqProofs (disch := omega) only [go_sem]))
    exact .inl ⟨rfl, hr, rfl⟩
  have g1' : (n == 0) = false := by simpa using g1
  by_cases g2 : v < n
  · have hr := hno (by simp [litOk]; omega)
    refine W_round [(1, .lst 1 (ints c) false), (2, .ptr 0 t 0), (5, .int .i64 ((i : Nat) : Int))] ⟨f1, f2, f5, trivial⟩  14 ?_
    simp -implicitDefEqProofs (disch := omega) only [go_sem, ↓reduceIte, Nat.reduceEqDiff, decide_true, proofmarkref07_Follows_r2, proofmarkref07_Follows_r3, proofmarkref07_Follows_r4, proofmarkref07_Follows_r5, rfH, ints_length, hlt]
    iterate 16 (try (refine run_sem 2 ?_; simp -implicitDefEqProofs (disch := omega) only [go_sem, need_of, ↓reduceIte, Nat.reduceAdd, Nat.reduceEqDiff, Nat.reduceLeDiff, Nat.zero_add, Nat.add_zero, decide_true, Nat.le_refl, gt_iff_lt, ints_length, true_implies, and_true, hlt, hD, g1', g2]))
    iterate 4 (try (refine run_sem 4 ?_; simp -implicitDefEqProofs (disch := omega) only [go_sem]))
    exact .inl ⟨rfl, hr, rfl⟩
  by_cases g3 : n < -v
  · have hr := hno (by simp [litOk]; omega)
    refine W_round [(1, .lst 1 (ints c) false), (2, .ptr 0 t 0), (5, .int .i64 ((i : Nat) : Int))] ⟨f1, f2, f5, trivial⟩  14 ?_
    simp -implicitDefEqProofs (disch := omega) only [go_sem, ↓reduceIte, Nat.reduceEqDiff, decide_true, proofmarkref07_Follows_r2, proofmarkref07_Follows_r3, proofmarkref07_Follows_r4, proofmarkref07_Follows_r5, rfH, ints_length, hlt]
    iterate 16 (try (refine run_sem 2 ?_; simp -implicitDefEqProofs (disch := omega) only [go_sem, need_of, ↓reduceIte, Nat.reduceAdd, Nat.reduceEqDiff, Nat.reduceLeDiff, Nat.zero_add, Nat.add_zero, decide_true, decide_false, Nat.le_refl, gt_iff_lt, ints_length, true_implies, and_true, hlt, hD, g1', g2, g3, hneg]))
    iterate 4 (try (refine run_sem 4 ?_; simp -implicitDefEqProofs (disch := omega) only [go_sem]))
    exact .inl ⟨rfl, hr, rfl⟩
  have hl : litOk v n = true := by simp [litOk, g1]; omega
  refine W_round [(1, .lst 1 (ints c) false), (2, .ptr 0 t 0), (5, .int .i64 ((i : Nat) : Int))] ⟨f1, f2, f5, trivial⟩  14 ?_
  simp -implicitDefEqProofs (disch := omega) only [go_sem, ↓reduceIte, Nat.reduceEqDiff, decide_true, proofmarkref07_Follows_r2, proofmarkref07_Follows_r3, proofmarkref07_Follows_r4, proofmarkref07_Follows_r5, rfH, ints_length, hlt]
  iterate 16 (try (refine run_sem 2 ?_; simp -implicitDefEqProofs (disch := omega) only [go_sem, need_of, ↓reduceIte, Nat.reduceAdd, Nat.reduceEqDiff, Nat.reduceLeDiff, Nat.zero_add, Nat.add_zero, decide_false, Nat.le_refl, gt_iff_lt, ints_length, true_implies, and_true, hlt, hD, g1', g2, g3, hneg]))
  iterate 4 (try (refine run_sem 4 ?_; simp -implicitDefEqProofs (disch := omega) only [go_sem, ↓reduceIte, Nat.reduceEqDiff]))
  refine ⟨_, _, Shift.refl _ _ _ _, fun x hx => ?_, ?_⟩
  · rw [hts, List.mem_append] at hx
    rcases hx with hx | hx
    · exact hok x hx
    · simp at hx; subst hx; exact hl
  · simp -implicitDefEqProofs (disch := omega) only [go_sem, ↓reduceIte, Nat.reduceEqDiff, rfH, and_true, e2]
def gF (t tg tw : Nat) (v : Int) (F : List (List Int)) (L : List Int) : List (Option Ob) := [some (.arr t 28 [.int .i64 v, .lst 1 (F.map row) false]), some (.arr tg 28 [.int .i64 v, .sl 2 tw 0 1 (F.length + L.length) none]), some (.arr tw 25 (F.map row ++ L.map fun n => trw [-n]))]
abbrev f2J (t tg : Nat) (v : Int) (F : List (List Int)) (c : List Int) : Nat → Fr → H → Prop := fun i fr σ => ∃ tw t', fget fr 1 = .lst 1 (ints c) false ∧ fget fr 8 = .ptr 1 tg 0 ∧ fget fr 9 = .int .i64 ((i : Nat) : Int) ∧ σ = ⟨t', gF t tg tw v F (c.take i)⟩
abbrev f2E (t tg : Nat) (v : Int) (F : List (List Int)) (c : List Int) : AE → Fr → H → Prop := fun e fr σ => e = .ex 2 ∧ ∃ tw t', fget fr 8 = .ptr 1 tg 0 ∧ σ = ⟨t', gF t tg tw v F c⟩
theorem f2_round {t tg : Nat} {v : Int} {F : List (List Int)} {c : List Int} (hF : F.length ≤ 1000) (hl : c.length ≤ 1000) (hb : ∀ n ∈ c, -16777216 ≤ n ∧ n ≤ 16777216) {i : Nat} {n : Int} (ha : c[i]? = some n) {fr : Fr} {σ : H} (hJ : f2J t tg v F c i fr σ) :
    W P G 82 0 (AC.seq (AC.seq (AC.reg proofmarkref07_Follows_r12 [58, 59, 60])   (AC.cond (Arg.t 61)   AC.skip   (AC.exit 2)))   (AC.seq (AC.block 3 (AC.reg proofmarkref07_Follows_r13 [64, 65, 66, 67, 68, 69, 70, 71, 72, 73, 74]))   (AC.reg proofmarkref07_Follows_r14 [62, 63]))) fr σ (seqQ (fun fr σ => ∃ fr' σ', Shift G 82 0 fr σ fr' σ' ∧ f2J t tg v F c (i + 1) fr' σ') (f2E t tg v F c)) := by
  obtain ⟨tw, t', f1, f8, f9, rfl⟩ := hJ
  obtain ⟨hlt, hD, e2⟩ := at_ints ha (by omega)
  have hbn := hb n (List.mem_of_getElem? ha)
  have hneg : IntKind.i64.wrap (0 - n) = -n := by rw [wself (by omega)]; omega
  have hts := take_snoc ha
  have hil : (c.take i).length = i := by rw [List.length_take]; omega
  have hil2 : (c.take (i + 1)).length = i + 1 := by rw [List.length_take]; omega
  have hap : F.map row ++ (c.take i).map (fun n => trw [-n]) ++ [.lst 1 [.int .i64 (-n)] true] = F.map row ++ (c.take (i + 1)).map fun n => trw [-n] := by
    rw [hts, List.map_append, List.append_assoc]; rfl
  refine W_round [(1, .lst 1 (ints c) false), (8, .ptr 1 tg 0), (9, .int .i64 ((i : Nat) : Int))] ⟨f1, f8, f9, trivial⟩  1000 ?_
  simp -implicitDefEqProofs (disch := omega) only [go_sem, need_of, ↓reduceIte, reduceCtorEq, Nat.reduceAdd, Nat.reduceEqDiff, Nat.reduceLeDiff, Nat.zero_add, Nat.mul_one, decide_true, Bool.not_true, Bool.not_false, Nat.le_refl, Nat.zero_le, proofmarkref07_Follows_r12, proofmarkref07_Follows_r13, proofmarkref07_Follows_r14, List.length_map, ints_length, true_implies, true_and, and_true, Bool.not_true, Bool.not_false, gF, hlt, hD, hneg, hil, List.length_append, hap]
  refine ⟨_, _, Shift.refl _ _ _ _, t', t' + 1, ?_⟩
  simp -implicitDefEqProofs (disch := omega) only [go_sem, ↓reduceIte, Nat.reduceEqDiff, and_true, gF, hil2, e2, Nat.add_assoc]
set_option maxHeartbeats 1000000 in
theorem c_r7Follows (hT : TabOk P tab) (v : Int) (F : List (List Int)) (c : List Int) (hF : F.length + c.length ≤ 1000) (hc : ∀ c ∈ F, c.length ≤ 1000) (hl : c.length ≤ 1000) (hb : ∀ n ∈ c, -9223372036854775808 ≤ n ∧ n ≤ 9223372036854775807) (hr : right v F = true) :
    Pure P G n_proofmarkref07_Follows [fml v F, row c] fun u => u = .bool (follows v F c) := by
  intro t
  have hv : 0 ≤ v ∧ v ≤ 16777216 := by have := (right_iff.1 hr).1; omega
  have hCl := c_rClean (P := P) (G := G) hT c hb (by omega)
  simp only [fml, rows, row] at hCl ⊢
  refine C_keep 0 (Nat.zero_le _) (C_tab hT t_proofmarkref07_Follows (by simp [proofmarkref07_Follows]) (W_run 1000 ?_))
  simp -implicitDefEqProofs (disch := omega) only [go_sem, ↓reduceIte, reduceCtorEq, Nat.reduceEqDiff, Nat.zero_add, proofmarkref07_Follows, proofmarkref07_Follows_r0, proofmarkref07_Follows_r1, proofmarkref07_Follows_r2, proofmarkref07_Follows_r3, proofmarkref07_Follows_r4, proofmarkref07_Follows_r5, proofmarkref07_Follows_r6, proofmarkref07_Follows_r7, proofmarkref07_Follows_r8, proofmarkref07_Follows_r9, proofmarkref07_Follows_r10, proofmarkref07_Follows_r11, proofmarkref07_Follows_r12, proofmarkref07_Follows_r13, proofmarkref07_Follows_r14, proofmarkref07_Follows_r15, proofmarkref07_Follows_r16, and_true]
  refine sem_for c (f1J t v F c) (f1E t v F c) ⟨by simp, ?_⟩ (fun i n ha fr σ hJ => f1_round hv hl ha hJ) (fun i hi fr σ hJ => ?_) (fun e fr σ hE => ?_)
  · simp -implicitDefEqProofs (disch := omega) only [go_sem, ↓reduceIte, reduceCtorEq, Nat.reduceEqDiff, rfH, true_and, and_true]
    simp
  · obtain ⟨hok, f1, f2, f5, rfl⟩ := hJ
    rw [hi, List.take_length] at hok
    refine W_round [(1, .lst 1 (ints c) false), (2, .ptr 0 t 0), (5, .int .i64 ((i : Nat) : Int))] ⟨f1, f2, f5, trivial⟩  1000 ?_
    simp -implicitDefEqProofs (disch := omega) only [go_sem, ↓reduceIte, Nat.reduceEqDiff, decide_false, rfH, ints_length, hi, Nat.lt_irrefl]
    exact .inr ⟨rfl, List.all_eq_true.2 hok, rfl, rfl, rfl⟩
  · rcases hE with ⟨rfl, hno, f4⟩ | ⟨rfl, hall, f1, f2, rfl⟩
    · have hfo : follows v F c = false := by simp [follows, hno]
      refine run_sem 1000 ?_
      simp -implicitDefEqProofs (disch := omega) only [go_sem, Nat.zero_le, and_true, f4, hfo]
    · refine sem_exit [(1, .lst 1 (ints c) false), (2, .ptr 0 t 0)] ⟨f1, f2, trivial⟩ 1000 ?_
      simp -implicitDefEqProofs (disch := omega) only [go_sem, ↓reduceIte, Nat.reduceEqDiff, rfH]
      refine callPS hT t_proofmarkref05_Clean hCl (by simp [namelessL, nameless]) 1000 ?_
      cases hbad : bad c with
      | true =>
        have hcs : cleanS c = ([], false) := by rw [cleanS, if_pos hbad]
        have hfo : follows v F c = true := by simp [follows, hr, hall, hbad]
        simp -implicitDefEqProofs (disch := omega) only [go_sem, ↓reduceIte, Nat.reduceAdd, Nat.reduceEqDiff, Nat.reduceLT, Nat.zero_add, Bool.not_false, Nat.zero_le, and_true, Bool.not_false, hcs, hfo]
      | false =>
        have hcs : cleanS c = (canon c, true) := by rw [cleanS, if_neg (by simp [hbad])]
        have hcr : ∀ n ∈ c, n ≠ 0 ∧ -v ≤ n ∧ n ≤ v := fun n hn => by simpa [litOk] using List.all_eq_true.1 hall n hn
        have hrA : right v (F ++ unitsOf (c.map fun n => -n)) = true := by
          have h1 := right_iff.1 hr
          refine right_iff.2 ⟨⟨hv.1, hv.2, by simp [unitsOf]; omega⟩, fun d hd n hn => ?_⟩
          rcases List.mem_append.1 hd with hd | hd
          · exact h1.2 d hd n hn
          · simp only [unitsOf, List.map_map, List.mem_map] at hd
            obtain ⟨m, hm, rfl⟩ := hd
            simp at hn; subst hn
            have := hcr m hm; omega
        have hfl := rows_flat F
        have n1 : F.length * 24 ≤ 140737488355328 := by omega
        simp -implicitDefEqProofs (disch := omega) only [go_sem, need_of, ↓reduceIte, reduceCtorEq, Nat.reduceAdd, Nat.reduceEqDiff, Nat.reduceLeDiff, Nat.reduceLT, Nat.zero_add, Nat.add_zero, Bool.not_true, Bool.not_false, Nat.le_refl, Nat.zero_le, List.length_map, true_implies, true_and, and_true, Bool.not_true, Bool.not_false, hcs, hfl, n1]
        refine sem_for c (f2J t (t + 1) v F c) (f2E t (t + 1) v F c) ⟨t + 1 + 1, t + 1 + 1 + 1, ?_⟩ (fun i n ha fr σ hJ => f2_round (by omega) hl (fun n hn => by have := hcr n hn; omega) ha hJ) (fun i hi fr σ hJ => ?_) (fun e fr σ hE => ?_)
        · simp -implicitDefEqProofs (disch := omega) only [go_sem, ↓reduceIte, Nat.reduceEqDiff, Nat.add_zero, true_and, and_true, gF, List.take_zero, List.map_nil, List.append_nil, List.length_nil]
          simp
        · obtain ⟨tw, t', f1, f8, f9, rfl⟩ := hJ
          rw [hi, List.take_length]
          refine W_round [(1, .lst 1 (ints c) false), (8, .ptr 1 (t + 1) 0), (9, .int .i64 ((i : Nat) : Int))] ⟨f1, f8, f9, trivial⟩ 1000 ?_
          simp -implicitDefEqProofs (disch := omega) only [go_sem, ↓reduceIte, Nat.reduceEqDiff, decide_false, ints_length, hi, Nat.lt_irrefl]
          exact ⟨rfl, tw, t', rfl, rfl⟩
        · obtain ⟨rfl, tw, t', f8, rfl⟩ := hE
          have hnl : namelessL (F.map row ++ c.map fun n => trw [-n]) = true := namelessL_append (nameless_rows F) (nameless_trws c)
          have hlen : (F.map row ++ c.map fun n => trw [-n]).length = F.length + c.length := by simp
          have htk : List.take (F.length + c.length) (F.map row ++ c.map fun n => trw [-n]) = F.map row ++ c.map fun n => trw [-n] := List.take_of_length_le (by simp)
          have hU := c_rUnits (P := P) (G := G) hT v (F ++ unitsOf (c.map fun n => -n)) (by simp [unitsOf]; omega) (fun d hd => by
            rcases List.mem_append.1 hd with hd | hd
            · exact hc d hd
            · simp only [unitsOf, List.map_map, List.mem_map] at hd
              obtain ⟨m, _, rfl⟩ := hd
              simp)
          rw [hrA, if_pos rfl] at hU
          have hU2 := Pure.args (.cons _ _ _ _ (.agg [.int .i64 v, .lst 1 (F.map row ++ c.map fun n => trw [-n]) false] _ (.cons _ _ _ _ (.refl _) (.cons _ _ _ _ (.lst 1 1 _ _ false (by
            rw [List.map_append, unitsOf, List.map_map, List.map_map]
            exact wkl_append (WkL.refl _) (WkL.map fun n _ => wk_trw [-n])) (.inr rfl)) .nil))) .nil) hU
          have hfo : follows v F c = (units (F ++ unitsOf (c.map fun n => -n))).isNone := by simp [follows, hr, hall, hbad]
          refine sem_exitS [(8, .ptr 1 (t + 1) 0)] ⟨f8, trivial⟩ ?_
          refine sem_shift (Shift.freeze (k := 2) (v := tw) (T := 25) (cs := F.map row ++ c.map fun n => trw [-n]) (Nat.zero_le _) rfl hnl) ?_
          simp only [frzFr_cons, frzFr_nil, frzV, rowsV, gF, mapFrom, Ob.mapV, List.set_cons_succ, List.set_cons_zero, Option.map_some, Option.map_none, List.map_cons, List.map_nil, hlen]
          refine run_sem 1000 ?_
          simp -implicitDefEqProofs (disch := omega) only [go_sem, ↓reduceIte, reduceCtorEq, Nat.reduceAdd, Nat.reduceEqDiff, Nat.succ_ne_zero, Nat.zero_add, Nat.mul_one, Nat.le_refl, false_implies, and_true, not_false_eq_true, Nat.le_refl, htk]
          have hnB : namelessL [V.agg [V.int .i64 v, V.lst 1 (F.map row ++ c.map fun n => trw [-n]) false]] = true := by simp [namelessL, nameless]
          cases hu : units (F ++ unitsOf (c.map fun n => -n)) with
          | none =>
            rw [hu] at hU2 hfo
            simp only at hU2
            refine callPS hT t_proofmarkref05_Units hU2 hnB 1000 ?_
            simp -implicitDefEqProofs (disch := omega) only [go_sem, ↓reduceIte, Nat.reduceAdd, Nat.reduceEqDiff, Nat.reduceLT, Nat.zero_add, Bool.not_false, Nat.zero_le, true_and, Bool.not_false, hfo]
            rfl
          | some l =>
            rw [hu] at hU2 hfo
            simp only at hU2
            refine callPS hT t_proofmarkref05_Units hU2 hnB 1000 ?_
            simp -implicitDefEqProofs (disch := omega) only [go_sem, ↓reduceIte, Nat.reduceAdd, Nat.reduceEqDiff, Nat.reduceLT, Nat.zero_add, Bool.not_true, Nat.zero_le, true_and, Bool.not_true, hfo]
            rfl
end Go.Proofs.Ytingdebioipemaa
