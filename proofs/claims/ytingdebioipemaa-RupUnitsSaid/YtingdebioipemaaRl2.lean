/- The law RupUnits. -/
import Derived.Test.YtingdebioipemaaCw17
import Derived.Test.YtingdebioipemaaAmD
namespace Go.Proofs.Ytingdebioipemaa
open Go Go.Am Go.Cl
set_option maxRecDepth 100000
variable {G : Nat → Option V}

def ruH (t : Nat) (v : Int) (F : List (List Int)) : List (Option Ob) := [some (.arr t 24 [.int .i64 v, .lst 1 (F.map row) false])]
abbrev ruJ (t : Nat) (v : Int) (F p : List (List Int)) (c l : List Int) (can : Bool) : Nat → Fr → H → Prop := fun i fr σ => fget fr 1 = .lst 1 (p.map row) false ∧ fget fr 2 = .lst 1 (ints c) false ∧ fget fr 3 = .ptr 0 t 0 ∧ fget fr 7 = .lst 1 (ints l) false ∧ fget fr 8 = .bool can ∧ fget fr 9 = .int .i64 ((i : Nat) : Int) ∧ σ = ⟨t + 1, ruH t v F⟩
abbrev ruE (t : Nat) (v : Int) (F p : List (List Int)) (c l : List Int) (can : Bool) : AE → Fr → H → Prop := fun e fr σ => e = .ex 0 ∧ fget fr 1 = .lst 1 (p.map row) false ∧ fget fr 2 = .lst 1 (ints c) false ∧ fget fr 3 = .ptr 0 t 0 ∧ fget fr 8 = .bool can ∧ σ = ⟨t + 1, ruH t v F⟩
theorem ru_round (hT : TabOk Try.prog tab) {t : Nat} {v : Int} {F p : List (List Int)} {c l : List Int} {can : Bool} (hF : F.length ≤ 1000) (hc : ∀ c ∈ F, c.length ≤ 1000) (hfo : ∀ n ∈ l, follows v F [n] = true) (hlb : ∀ n ∈ l, -9223372036854775808 ≤ n ∧ n ≤ 9223372036854775807) (hl : l.length ≤ 1000000)
    {i : Nat} {n : Int} (ha : l[i]? = some n) {fr : Fr} {σ : H} (hJ : ruJ t v F p c l can i fr σ) :
    W Try.prog G 88 0 (AC.seq (AC.seq (AC.reg proofmarklaw08_RupUnits_r5 [36, 37, 38])   (AC.cond (Arg.t 39)   AC.skip   (AC.exit 0)))   (AC.seq (AC.block 1 (AC.seq (AC.reg proofmarklaw08_RupUnits_r6 [42, 43, 44, 45, 46, 47, 48])   (AC.cond (Arg.t 49)   (AC.seq (AC.reg proofmarklaw08_RupUnits_r7 [])   AC.ret)   AC.skip)))   (AC.reg proofmarklaw08_RupUnits_r8 [40, 41]))) fr σ (seqQ (fun fr σ => ∃ fr' σ', Shift G 88 0 fr σ fr' σ' ∧ ruJ t v F p c l can (i + 1) fr' σ') (ruE t v F p c l can)) := by
  obtain ⟨f1, f2, f3, f7, f8, f9, rfl⟩ := hJ
  have hlt := (List.getElem?_eq_some_iff.1 ha).1
  have e2 := wnext hlt (by omega)
  have hnm := List.mem_of_getElem? ha
  have hs : List.take (i + 1 - i) (List.drop i (ints l)) = ints [n] := by
    have : l.drop i = n :: l.drop (i + 1) := by
      rw [List.drop_eq_getElem_cons hlt]
      congr 1
      exact (List.getElem?_eq_some_iff.1 ha).2
    rw [show i + 1 - i = 1 by omega, ints, ← List.map_drop, this]; rfl
  have hFo := c_Follows (G := G) hT v F [n] hF hc (by simp) (fun m hm => by simp at hm; subst hm; exact hlb m hnm)
  rw [hfo n hnm] at hFo
  simp only [fml, rows, row] at hFo
  have b1 : (i : Int) ≤ l.length := by omega
  have b2 : ((i + 1 : Nat) : Int) ≤ l.length := by omega
  have b3 : i ≤ i + 1 := by omega
  refine W_round [(1, .lst 1 (p.map row) false), (2, .lst 1 (ints c) false), (3, .ptr 0 t 0), (7, .lst 1 (ints l) false), (8, .bool can), (9, .int .i64 ((i : Nat) : Int))] ⟨f1, f2, f3, f7, f8, f9, trivial⟩  1000 ?_
  simp -implicitDefEqProofs (disch := omega) only [go_sem, need_of, ↓reduceIte, reduceCtorEq, Nat.reduceAdd, Nat.reduceEqDiff, Nat.zero_add, decide_true, Nat.le_refl, proofmarklaw08_RupUnits_r5, proofmarklaw08_RupUnits_r6, proofmarklaw08_RupUnits_r7, proofmarklaw08_RupUnits_r8, ints_length, false_implies, true_and, and_true, ruH, hlt, e2, b3, hs]
  refine callPS hT t_rup_Follows hFo (by simp [namelessL, nameless]) 1000 ?_
  simp -implicitDefEqProofs (disch := omega) only [go_sem, ↓reduceIte, Nat.reduceEqDiff, Bool.not_true, Bool.not_true]
  exact ⟨_, _, Shift.refl _ _ _ _, rfl, rfl, rfl, rfl, rfl, by rw [e2]; rfl, rfl⟩
theorem wk_nil1 : Wk (.lst 0 [] true) (.lst 1 (ints []) false) := .lst 0 1 [] [] true .nil (.inl rfl)
set_option maxHeartbeats 2000000 in
theorem c_RupUnits (hT : TabOk Try.prog tab) (v : Int) (F p : List (List Int)) (c : List Int) (hF : F.length ≤ 9223372036854775807) (hFc : ∀ c ∈ F, c.length ≤ 9223372036854775807) (hp : p.length ≤ 9223372036854775807) (hpc : ∀ c ∈ p, c.length ≤ 9223372036854775807)
    (hcl : c.length ≤ 9223372036854775807) (hpb : ∀ c ∈ p, ∀ n ∈ c, -9223372036854775808 ≤ n ∧ n ≤ 9223372036854775807) (hb : ∀ n ∈ c, -9223372036854775808 ≤ n ∧ n ≤ 9223372036854775807) :
    Pure Try.prog G n_proofmarklaw08_RupUnits [fml v F, rows p, row c] fun u => u = .bool true := by
  have hW := c_works (G := G) hT
  have hf1 := c_few (G := G) hT F 30 (by omega) hF hFc
  have hf2 := c_few (G := G) hT p 10 (by omega) hp hpc
  have hR := c_Right (P := Try.prog) (G := G) hT v F hF hFc
  simp only [fml, rows, row] at hf1 hf2 hR ⊢
  intro t
  refine C_keep 0 (Nat.zero_le _) (C_tab hT t_proofmarklaw08_RupUnits (by simp [proofmarklaw08_RupUnits]) (W_run 1000 ?_))
  simp -implicitDefEqProofs (disch := omega) only [go_sem, ↓reduceIte, reduceCtorEq, Nat.reduceAdd, Nat.reduceEqDiff, Nat.zero_add, Nat.le_refl, proofmarklaw08_RupUnits, proofmarklaw08_RupUnits_r0, proofmarklaw08_RupUnits_r1, proofmarklaw08_RupUnits_r2, proofmarklaw08_RupUnits_r3, proofmarklaw08_RupUnits_r4, proofmarklaw08_RupUnits_r5, proofmarklaw08_RupUnits_r6, proofmarklaw08_RupUnits_r7, proofmarklaw08_RupUnits_r8, proofmarklaw08_RupUnits_r9, proofmarklaw08_RupUnits_r10, proofmarklaw08_RupUnits_r11, proofmarklaw08_RupUnits_r12, proofmarklaw08_RupUnits_r13, proofmarklaw08_RupUnits_r14, proofmarklaw08_RupUnits_r15, proofmarklaw08_RupUnits_r16, true_implies, and_true]
  refine callPS hT t_proofmarklaw08_few hf1 (by simp [namelessL, nameless]) 4 ?_
  cases h1 : fewS F 30 with
  | false =>
    simp -implicitDefEqProofs (disch := omega) only [go_sem, ↓reduceIte, reduceCtorEq, Nat.reduceEqDiff, Bool.not_false, Bool.not_false]
    iterate 9 (try (refine run_sem 4 ?_; simp -implicitDefEqProofs (disch := omega) only [go_sem, ↓reduceIte, reduceCtorEq, Nat.reduceEqDiff]))
    refine callPS hT t_proofmarklaw08_works hW rfl 4 ?_
    simp -implicitDefEqProofs (disch := omega) only [go_sem, ↓reduceIte, reduceCtorEq, Nat.reduceEqDiff]
    iterate 4 (try (refine run_sem 4 ?_; simp -implicitDefEqProofs (disch := omega) only [go_sem, ↓reduceIte, reduceCtorEq, Nat.reduceEqDiff, Nat.zero_add, Nat.zero_le, and_true]))
  | true =>
    simp -implicitDefEqProofs (disch := omega) only [go_sem, ↓reduceIte, reduceCtorEq, Nat.reduceAdd, Nat.reduceEqDiff, Nat.zero_add, Bool.not_true, Bool.not_true]
    iterate 9 (try (refine run_sem 4 ?_; simp -implicitDefEqProofs (disch := omega) only [go_sem, need_of, ↓reduceIte, reduceCtorEq, Nat.reduceAdd, Nat.reduceEqDiff, Nat.reduceLeDiff, Nat.reduceLT, Nat.reduceSub, Nat.reduceMul, Int.reduceToNat, Int.reduceLE, Int.reduceLT, Int.reduceEq, Int.reduceNe, Nat.succ_ne_zero, Nat.zero_add, Nat.add_zero, Nat.mul_one, Nat.one_mul, Nat.zero_mul, decide_true, decide_false, Bool.not_true, Bool.not_false, Nat.le_refl, Nat.zero_le, ge_iff_le, gt_iff_lt, Nat.reduceBEq, Nat.reduceBNe, beq_self_eq_true, bne_self_eq_false, Option.isSome_some, Option.isSome_none, Option.getD_some, Option.getD_none, proofmarklaw08_RupUnits, proofmarklaw08_RupUnits_r0, proofmarklaw08_RupUnits_r1, proofmarklaw08_RupUnits_r2, proofmarklaw08_RupUnits_r3, proofmarklaw08_RupUnits_r4, proofmarklaw08_RupUnits_r5, proofmarklaw08_RupUnits_r6, proofmarklaw08_RupUnits_r7, proofmarklaw08_RupUnits_r8, proofmarklaw08_RupUnits_r9, proofmarklaw08_RupUnits_r10, proofmarklaw08_RupUnits_r11, proofmarklaw08_RupUnits_r12, proofmarklaw08_RupUnits_r13, proofmarklaw08_RupUnits_r14, proofmarklaw08_RupUnits_r15, proofmarklaw08_RupUnits_r16, List.length_map, ints_length, false_implies, true_implies, true_and, and_true, not_true_eq_false, not_false_eq_true, Bool.not_true, Bool.not_false]))
    refine callPS hT t_proofmarklaw08_few hf2 (by simp [namelessL, nameless]) 4 ?_
    cases h2 : fewS p 10 with
    | false =>
      simp -implicitDefEqProofs (disch := omega) only [go_sem, ↓reduceIte, reduceCtorEq, Nat.reduceAdd, Nat.reduceEqDiff, Bool.not_false, Bool.not_false]
      iterate 9 (try (refine run_sem 4 ?_; simp -implicitDefEqProofs (disch := omega) only [go_sem, ↓reduceIte, reduceCtorEq, Nat.reduceEqDiff]))
      refine callPS hT t_proofmarklaw08_works hW rfl 4 ?_
      simp -implicitDefEqProofs (disch := omega) only [go_sem, ↓reduceIte, reduceCtorEq, Nat.reduceEqDiff]
      iterate 4 (try (refine run_sem 4 ?_; simp -implicitDefEqProofs (disch := omega) only [go_sem, ↓reduceIte, reduceCtorEq, Nat.reduceEqDiff, Nat.zero_add, Nat.zero_le, and_true]))
    | true =>
      rcases Nat.lt_or_ge 20 c.length with h3 | h3
      · have h3' : ((20 : Int) < (c.length : Int)) = True := eq_true (by omega)
        simp -implicitDefEqProofs (disch := omega) only [go_sem, ↓reduceIte, reduceCtorEq, Nat.reduceAdd, Nat.reduceEqDiff, Nat.zero_add, Bool.not_true, Bool.not_true]
        iterate 9 (try (refine run_sem 4 ?_; simp -implicitDefEqProofs (disch := omega) only [go_sem, ↓reduceIte, reduceCtorEq, Nat.reduceAdd, Nat.reduceEqDiff, decide_true, gt_iff_lt, ints_length, h3']))
        refine callPS hT t_proofmarklaw08_works hW rfl 4 ?_
        simp -implicitDefEqProofs (disch := omega) only [go_sem, ↓reduceIte, reduceCtorEq, Nat.reduceEqDiff]
        iterate 4 (try (refine run_sem 4 ?_; simp -implicitDefEqProofs (disch := omega) only [go_sem, ↓reduceIte, reduceCtorEq, Nat.reduceEqDiff, Nat.zero_add, Nat.zero_le, and_true]))
      · have h3' : ((20 : Int) < (c.length : Int)) = False := eq_false (by omega)
        obtain ⟨hF30, hF20⟩ := few_le (k := 30) h1
        obtain ⟨hp10, hp20⟩ := few_le (k := 10) h2
        simp -implicitDefEqProofs (disch := omega) only [go_sem, ↓reduceIte, reduceCtorEq, Nat.reduceAdd, Nat.reduceEqDiff, Nat.zero_add, Bool.not_true, Bool.not_true]
        iterate 9 (try (refine run_sem 4 ?_; simp -implicitDefEqProofs (disch := omega) only [go_sem, ↓reduceIte, reduceCtorEq, Nat.reduceAdd, Nat.reduceEqDiff, Nat.zero_add, decide_false, Nat.le_refl, gt_iff_lt, ints_length, false_implies, and_true, h3']))
        refine callPS hT t_clause_Right hR (by simp [namelessL, nameless]) 4 ?_
        cases h4 : right v F with
        | false =>
          simp -implicitDefEqProofs (disch := omega) only [go_sem, ↓reduceIte, reduceCtorEq, Nat.reduceAdd, Nat.reduceEqDiff, Bool.not_false, Bool.not_false]
          iterate 9 (try (refine run_sem 4 ?_; simp -implicitDefEqProofs (disch := omega) only [go_sem, ↓reduceIte]))
          refine callPS hT t_proofmarklaw08_works hW rfl 4 ?_
          simp -implicitDefEqProofs (disch := omega) only [go_sem, ↓reduceIte, reduceCtorEq, Nat.reduceEqDiff]
          iterate 4 (try (refine run_sem 4 ?_; simp -implicitDefEqProofs (disch := omega) only [go_sem, ↓reduceIte, reduceCtorEq, Nat.reduceEqDiff, Nat.zero_add, Nat.zero_le, and_true]))
        | true =>
          have hF1000 : ∀ c ∈ F, c.length ≤ 1000 := fun c h => by have := hF20 c h; omega
          have hp1000 : ∀ c ∈ p, c.length ≤ 1000 := fun c h => by have := hp20 c h; omega
          have hU := c_Units (P := Try.prog) (G := G) hT sortU v F (by omega) hF1000
          rw [h4, if_pos rfl] at hU
          have hz := right_nz h4
          have hrt := right_iff.1 h4
          have x1 := c_Follows (G := G) hT v F [] (by omega) hF1000 (by simp) (by simp)
          have x2 := c_Check (G := G) hT v F [[]] (by simp; omega) hF1000 (by simp) (by simp)
          have x3 := c_Check (G := G) hT v F p (by omega) hF1000 hp1000 hpb
          have x4 := c_Follows (G := G) hT v F c (by omega) hF1000 (by omega) hb
          have x5 := c_Check (G := G) hT v F (c :: p) (by simp; omega) hF1000 (fun d hd => by
            rcases List.mem_cons.1 hd with rfl | hd
            · omega
            · exact hp1000 d hd) (fun d hd => by
            rcases List.mem_cons.1 hd with rfl | hd
            · exact hb
            · exact hpb d hd)
          have x6 := c_First (G := G) hT v F [] (by simp; omega) hF1000 (by simp) (by simp)
          rw [follows_nil h4] at x1
          rw [check_nil, follows_nil h4] at x2
          have x1' := Pure.args (.cons _ _ _ _ (.refl _) (.cons _ _ _ _ wk_nil1 .nil)) x1
          have x6' := Pure.args (.cons _ _ _ _ (.refl _) (.cons _ _ _ _ (.lst 0 1 [] ([].map row) true .nil (.inl rfl)) .nil)) x6
          rw [show firstS v F [] = 0 from rfl, show ((0 : Nat) : Int) = 0 from rfl] at x6'
          have x2' := Pure.args (.cons _ _ _ _ (.refl _) (.cons _ _ _ _ (.lst 1 1 [.lst 1 (ints []) true] ([[]].map row) true (.cons _ _ _ _ (.lst 1 1 _ _ true (WkL.refl _) (.inr rfl)) .nil) (.inr rfl)) .nil)) x2
          simp only [fml, rows, row] at hU x1' x2' x3 x4 x5 x6'
          obtain ⟨l, can, hU', hcan, hfo, hlb, hll⟩ : ∃ l can, Pure Try.prog G n_clause_Units [.agg [.int .i64 v, .lst 1 (F.map row) false]] (fun u => u = .tup [.lst 1 (ints l) false, .bool can]) ∧ (units F).isNone = (!can) ∧ (∀ n ∈ l, follows v F [n] = true) ∧ (∀ n ∈ l, -16777216 ≤ n ∧ n ≤ 16777216) ∧ l.length ≤ 1000000 := by
            cases hu : units F with
            | none =>
              rw [hu] at hU
              exact ⟨[], false, hU, rfl, by simp, by simp, by simp⟩
            | some l =>
              rw [hu] at hU
              obtain ⟨hs, hm⟩ := units_some hz hu
              refine ⟨l, true, hU, rfl, fun n hn => follows_unit h4 hu hn, fun n hn => ?_, ?_⟩
              · obtain ⟨d, hd, hnd⟩ := ((hm n).1 hn).in
                have := hrt.2 d hd n hnd; omega
              · have h1 := nodup_sub (show l.Nodup from List.Pairwise.imp (fun {a b} (h : av a < av b) (e : a = b) => by rw [e] at h; omega) hs) (m := F.flatten) fun n hn => by
                  obtain ⟨d, hd, hnd⟩ := ((hm n).1 hn).in
                  exact List.mem_flatten.2 ⟨d, hd, hnd⟩
                have h2 := flat_len hF1000
                have h3 : F.length * 1000 ≤ 30 * 1000 := Nat.mul_le_mul_right _ hF30
                omega
          rw [hcan] at x1' x2'
          simp only [ints, List.map_nil] at x2'
          simp -implicitDefEqProofs (disch := omega) only [go_sem, ↓reduceIte, reduceCtorEq, Nat.reduceAdd, Nat.reduceEqDiff, Bool.not_true, Bool.not_true]
          iterate 9 (try (refine run_sem 4 ?_; simp -implicitDefEqProofs (disch := omega) only [go_sem, ↓reduceIte, reduceCtorEq, Nat.reduceAdd, Nat.reduceEqDiff, Nat.zero_add, Nat.le_refl, false_implies, and_true]))
          refine callPS hT t_clause_Units hU' (by simp [namelessL, nameless]) 4 ?_
          simp -implicitDefEqProofs (disch := omega) only [go_sem, ↓reduceIte, reduceCtorEq, Nat.reduceAdd, Nat.reduceEqDiff, Nat.reduceLT, Nat.zero_add]
          iterate 9 (try (refine run_sem 4 ?_; simp -implicitDefEqProofs (disch := omega) only [go_sem, ↓reduceIte, reduceCtorEq, Nat.reduceEqDiff]))
          refine sem_for l (ruJ t v F p c l can) (ruE t v F p c l can) ⟨rfl, rfl, rfl, rfl, rfl, rfl, rfl⟩ (fun i n ha fr σ hJ => ru_round hT (by omega) hF1000 hfo (fun n hn => by have := hlb n hn; omega) hll ha hJ) (fun i hi fr σ hJ => ?_) (fun e fr σ hE => ?_)
          · obtain ⟨f1, f2, f3, f7, f8, f9, rfl⟩ := hJ
            refine W_round [(1, .lst 1 (p.map row) false), (2, .lst 1 (ints c) false), (3, .ptr 0 t 0), (7, .lst 1 (ints l) false), (8, .bool can), (9, .int .i64 ((i : Nat) : Int))] ⟨f1, f2, f3, f7, f8, f9, trivial⟩  1000 ?_
            simp -implicitDefEqProofs (disch := omega) only [go_sem, ↓reduceIte, Nat.reduceEqDiff, decide_false, ints_length, hi, Nat.lt_irrefl]
            exact ⟨rfl, rfl, rfl, rfl, rfl, rfl⟩
          · obtain ⟨rfl, f1, f2, f3, f8, rfl⟩ := hE
            refine sem_exit [(1, .lst 1 (p.map row) false), (2, .lst 1 (ints c) false), (3, .ptr 0 t 0), (8, .bool can)] ⟨f1, f2, f3, f8, trivial⟩  4 ?_
            simp -implicitDefEqProofs (disch := omega) only [go_sem, ↓reduceIte, reduceCtorEq, Nat.reduceAdd, Nat.reduceEqDiff, Nat.zero_add, Nat.le_refl, false_implies, and_true, ruH]
            iterate 9 (try (refine run_sem 4 ?_; simp -implicitDefEqProofs (disch := omega) only [go_sem, ↓reduceIte, Nat.reduceEqDiff]))
            refine callPS hT t_rup_Follows x1' (by simp [namelessL, nameless]) 4 ?_
            simp -implicitDefEqProofs (disch := omega) only [go_sem, ↓reduceIte, Nat.reduceEqDiff, bne_self_eq_false]
            iterate 9 (try (refine run_sem 4 ?_; simp -implicitDefEqProofs (disch := omega) only [go_sem, ↓reduceIte, reduceCtorEq, Nat.reduceAdd, Nat.reduceEqDiff, Nat.zero_add, Nat.le_refl, false_implies, and_true]))
            refine callPS hT t_rup_Check x2' (by simp [namelessL, nameless]) 4 ?_
            simp -implicitDefEqProofs (disch := omega) only [go_sem, ↓reduceIte, Nat.reduceAdd, Nat.reduceEqDiff, bne_self_eq_false]
            iterate 9 (try (refine run_sem 4 ?_; simp -implicitDefEqProofs (disch := omega) only [go_sem, ↓reduceIte, reduceCtorEq, Nat.reduceAdd, Nat.reduceEqDiff, Nat.zero_add, Nat.le_refl, false_implies, and_true]))
            refine callPS hT t_rup_Check x3 (by simp [namelessL, nameless]) 4 ?_
            cases b1 : checkS v F p with
            | false =>
              simp -implicitDefEqProofs (disch := omega) only [go_sem, ↓reduceIte, Nat.reduceEqDiff]
              iterate 9 (try (refine run_sem 4 ?_; simp -implicitDefEqProofs (disch := omega) only [go_sem, ↓reduceIte, reduceCtorEq, Nat.reduceAdd, Nat.reduceEqDiff, Nat.zero_add, Nat.le_refl, false_implies, and_true]))
              refine callPS hT t_rup_First x6' (by simp [namelessL, nameless]) 4 ?_
              simp -implicitDefEqProofs (disch := omega) only [go_sem, ↓reduceIte, Nat.reduceAdd, Nat.reduceEqDiff, beq_self_eq_true]
              iterate 9 (try (refine run_sem 4 ?_; simp -implicitDefEqProofs (disch := omega) only [go_sem, need_of, ↓reduceIte, reduceCtorEq, Nat.reduceAdd, Nat.reduceEqDiff, Nat.reduceLeDiff, Nat.reduceLT, Nat.reduceSub, Nat.reduceMul, Int.reduceToNat, Int.reduceLE, Int.reduceLT, Int.reduceEq, Int.reduceNe, Nat.succ_ne_zero, Nat.zero_add, Nat.add_zero, Nat.mul_one, Nat.one_mul, Nat.zero_mul, decide_true, decide_false, Bool.not_true, Bool.not_false, Nat.le_refl, Nat.zero_le, ge_iff_le, gt_iff_lt, Nat.reduceBEq, Nat.reduceBNe, beq_self_eq_true, bne_self_eq_false, Option.isSome_some, Option.isSome_none, Option.getD_some, Option.getD_none, proofmarklaw08_RupUnits, proofmarklaw08_RupUnits_r0, proofmarklaw08_RupUnits_r1, proofmarklaw08_RupUnits_r2, proofmarklaw08_RupUnits_r3, proofmarklaw08_RupUnits_r4, proofmarklaw08_RupUnits_r5, proofmarklaw08_RupUnits_r6, proofmarklaw08_RupUnits_r7, proofmarklaw08_RupUnits_r8, proofmarklaw08_RupUnits_r9, proofmarklaw08_RupUnits_r10, proofmarklaw08_RupUnits_r11, proofmarklaw08_RupUnits_r12, proofmarklaw08_RupUnits_r13, proofmarklaw08_RupUnits_r14, proofmarklaw08_RupUnits_r15, proofmarklaw08_RupUnits_r16, List.length_map, ints_length, false_implies, true_implies, true_and, and_true, not_true_eq_false, not_false_eq_true, Bool.not_true, Bool.not_false, Int.reduceBEq]))
              refine callPS hT t_proofmarklaw08_works hW rfl 4 ?_
              simp -implicitDefEqProofs (disch := omega) only [go_sem, ↓reduceIte, Nat.reduceEqDiff]
              iterate 9 (try (refine run_sem 4 ?_; simp -implicitDefEqProofs (disch := omega) only [go_sem, ↓reduceIte, Nat.reduceEqDiff, Nat.zero_add, Nat.zero_le, and_true]))
            | true =>
              simp -implicitDefEqProofs (disch := omega) only [go_sem, ↓reduceIte, reduceCtorEq, Nat.reduceAdd, Nat.reduceEqDiff, Nat.zero_add, Nat.le_refl, false_implies, and_true]
              iterate 9 (try (refine run_sem 4 ?_; simp -implicitDefEqProofs (disch := omega) only [go_sem, need_of, ↓reduceIte, reduceCtorEq, Nat.reduceAdd, Nat.reduceEqDiff, Nat.reduceLeDiff, Nat.reduceLT, Nat.reduceSub, Nat.reduceMul, Int.reduceToNat, Int.reduceLE, Int.reduceLT, Int.reduceEq, Int.reduceNe, Nat.succ_ne_zero, Nat.zero_add, Nat.add_zero, Nat.mul_one, Nat.one_mul, Nat.zero_mul, decide_true, decide_false, Bool.not_true, Bool.not_false, Nat.le_refl, Nat.zero_le, ge_iff_le, gt_iff_lt, Nat.reduceBEq, Nat.reduceBNe, beq_self_eq_true, bne_self_eq_false, Option.isSome_some, Option.isSome_none, Option.getD_some, Option.getD_none, proofmarklaw08_RupUnits, proofmarklaw08_RupUnits_r0, proofmarklaw08_RupUnits_r1, proofmarklaw08_RupUnits_r2, proofmarklaw08_RupUnits_r3, proofmarklaw08_RupUnits_r4, proofmarklaw08_RupUnits_r5, proofmarklaw08_RupUnits_r6, proofmarklaw08_RupUnits_r7, proofmarklaw08_RupUnits_r8, proofmarklaw08_RupUnits_r9, proofmarklaw08_RupUnits_r10, proofmarklaw08_RupUnits_r11, proofmarklaw08_RupUnits_r12, proofmarklaw08_RupUnits_r13, proofmarklaw08_RupUnits_r14, proofmarklaw08_RupUnits_r15, proofmarklaw08_RupUnits_r16, List.length_map, ints_length, false_implies, true_implies, true_and, and_true, not_true_eq_false, not_false_eq_true, Bool.not_true, Bool.not_false]))
              refine callPS hT t_rup_Follows x4 (by simp [namelessL, nameless]) 4 ?_
              cases b2 : follows v F c with
              | false =>
                simp -implicitDefEqProofs (disch := omega) only [go_sem, ↓reduceIte, Nat.reduceEqDiff]
                iterate 9 (try (refine run_sem 4 ?_; simp -implicitDefEqProofs (disch := omega) only [go_sem, ↓reduceIte, reduceCtorEq, Nat.reduceAdd, Nat.reduceEqDiff, Nat.zero_add, Nat.le_refl, false_implies, and_true]))
                refine callPS hT t_rup_First x6' (by simp [namelessL, nameless]) 4 ?_
                simp -implicitDefEqProofs (disch := omega) only [go_sem, ↓reduceIte, Nat.reduceAdd, Nat.reduceEqDiff, beq_self_eq_true]
                iterate 9 (try (refine run_sem 4 ?_; simp -implicitDefEqProofs (disch := omega) only [go_sem, need_of, ↓reduceIte, reduceCtorEq, Nat.reduceAdd, Nat.reduceEqDiff, Nat.reduceLeDiff, Nat.reduceLT, Nat.reduceSub, Nat.reduceMul, Int.reduceToNat, Int.reduceLE, Int.reduceLT, Int.reduceEq, Int.reduceNe, Nat.succ_ne_zero, Nat.zero_add, Nat.add_zero, Nat.mul_one, Nat.one_mul, Nat.zero_mul, decide_true, decide_false, Bool.not_true, Bool.not_false, Nat.le_refl, Nat.zero_le, ge_iff_le, gt_iff_lt, Nat.reduceBEq, Nat.reduceBNe, beq_self_eq_true, bne_self_eq_false, Option.isSome_some, Option.isSome_none, Option.getD_some, Option.getD_none, proofmarklaw08_RupUnits, proofmarklaw08_RupUnits_r0, proofmarklaw08_RupUnits_r1, proofmarklaw08_RupUnits_r2, proofmarklaw08_RupUnits_r3, proofmarklaw08_RupUnits_r4, proofmarklaw08_RupUnits_r5, proofmarklaw08_RupUnits_r6, proofmarklaw08_RupUnits_r7, proofmarklaw08_RupUnits_r8, proofmarklaw08_RupUnits_r9, proofmarklaw08_RupUnits_r10, proofmarklaw08_RupUnits_r11, proofmarklaw08_RupUnits_r12, proofmarklaw08_RupUnits_r13, proofmarklaw08_RupUnits_r14, proofmarklaw08_RupUnits_r15, proofmarklaw08_RupUnits_r16, List.length_map, ints_length, false_implies, true_implies, true_and, and_true, not_true_eq_false, not_false_eq_true, Bool.not_true, Bool.not_false, Int.reduceBEq]))
                refine callPS hT t_proofmarklaw08_works hW rfl 4 ?_
                simp -implicitDefEqProofs (disch := omega) only [go_sem, ↓reduceIte, Nat.reduceEqDiff]
                iterate 9 (try (refine run_sem 4 ?_; simp -implicitDefEqProofs (disch := omega) only [go_sem, ↓reduceIte, Nat.reduceEqDiff, Nat.zero_add, Nat.zero_le, and_true]))
              | true =>
                have b3 := check_cons b1 b2 (by omega)
                rw [b3] at x5
                have hpl := rows_flat p
                have n1 : (1 + p.length) * 24 ≤ 140737488355328 := by omega
                simp -implicitDefEqProofs (disch := omega) only [go_sem, ↓reduceIte, Nat.reduceEqDiff]
                iterate 16 (try (refine run_sem 4 ?_; simp -implicitDefEqProofs (disch := omega) only [go_sem, need_of, ↓reduceIte, reduceCtorEq, Nat.reduceAdd, Nat.reduceEqDiff, Nat.reduceLeDiff, Nat.reduceLT, Nat.zero_add, Nat.mul_one, Nat.one_mul, Bool.not_true, Nat.le_refl, Nat.zero_le, List.length_map, false_implies, true_and, and_true, Bool.not_true, hpl, n1]))
                have hV : ∀ (o : List (Option Ob)) (k w T : Nat), o[k]? = some (some (.arr w T (.lst 1 (ints c) false :: p.map row))) → Seen o (.sl k w 0 1 (1 + p.length) none) (.lst 1 ((c :: p).map row) false) := fun o k w T h => by
                  rw [Nat.add_comm]; exact seen_rows (R := c :: p) h
                refine callView hT t_rup_Check x5 (.cons _ _ _ _ (.same _ (by simp [nameless, namelessL])) (.cons _ _ _ _ (hV _ _ _ _ rfl) .nil)) rfl 4 ?_
                simp -implicitDefEqProofs (disch := omega) only [go_sem, ↓reduceIte, Nat.reduceEqDiff, Bool.not_true, Bool.not_true]
                iterate 9 (try (refine run_sem 4 ?_; simp -implicitDefEqProofs (disch := omega) only [go_sem, ↓reduceIte, reduceCtorEq, Nat.reduceAdd, Nat.reduceEqDiff, Nat.zero_add, Nat.le_refl, false_implies, and_true]))
                refine callPS hT t_rup_First x6' (by simp [namelessL, nameless]) 4 ?_
                simp -implicitDefEqProofs (disch := omega) only [go_sem, ↓reduceIte, Nat.reduceAdd, Nat.reduceEqDiff, beq_self_eq_true]
                iterate 9 (try (refine run_sem 4 ?_; simp -implicitDefEqProofs (disch := omega) only [go_sem, need_of, ↓reduceIte, reduceCtorEq, Nat.reduceAdd, Nat.reduceEqDiff, Nat.reduceLeDiff, Nat.reduceLT, Nat.reduceSub, Nat.reduceMul, Int.reduceToNat, Int.reduceLE, Int.reduceLT, Int.reduceEq, Int.reduceNe, Nat.succ_ne_zero, Nat.zero_add, Nat.add_zero, Nat.mul_one, Nat.one_mul, Nat.zero_mul, decide_true, decide_false, Bool.not_true, Bool.not_false, Nat.le_refl, Nat.zero_le, ge_iff_le, gt_iff_lt, Nat.reduceBEq, Nat.reduceBNe, beq_self_eq_true, bne_self_eq_false, Option.isSome_some, Option.isSome_none, Option.getD_some, Option.getD_none, proofmarklaw08_RupUnits, proofmarklaw08_RupUnits_r0, proofmarklaw08_RupUnits_r1, proofmarklaw08_RupUnits_r2, proofmarklaw08_RupUnits_r3, proofmarklaw08_RupUnits_r4, proofmarklaw08_RupUnits_r5, proofmarklaw08_RupUnits_r6, proofmarklaw08_RupUnits_r7, proofmarklaw08_RupUnits_r8, proofmarklaw08_RupUnits_r9, proofmarklaw08_RupUnits_r10, proofmarklaw08_RupUnits_r11, proofmarklaw08_RupUnits_r12, proofmarklaw08_RupUnits_r13, proofmarklaw08_RupUnits_r14, proofmarklaw08_RupUnits_r15, proofmarklaw08_RupUnits_r16, List.length_map, ints_length, false_implies, true_implies, true_and, and_true, not_true_eq_false, not_false_eq_true, Bool.not_true, Bool.not_false, Int.reduceBEq]))
                refine callPS hT t_proofmarklaw08_works hW rfl 4 ?_
                simp -implicitDefEqProofs (disch := omega) only [go_sem, ↓reduceIte, Nat.reduceEqDiff]
                iterate 9 (try (refine run_sem 4 ?_; simp -implicitDefEqProofs (disch := omega) only [go_sem, ↓reduceIte, Nat.reduceAdd, Nat.reduceEqDiff, Nat.zero_add, Nat.zero_le, and_true]))
end Go.Proofs.Ytingdebioipemaa
