/- Contracts: the document's side of clauses: what follows by clauses of one literal. -/
import Derived.Test.YtingdebioipemaaRc5
namespace Go.Proofs.Ytingdebioipemaa
open Go Go.Am Go.Cl
set_option maxRecDepth 100000
variable {P : Program} {G : Nat → Option V}

def uR0 (tf tw : Nat) (v : Int) (F : List (List Int)) (S : List Int) : List (Option Ob) :=
  [some (.arr tf 28 [.int .i64 v, .lst 1 (F.map row) false]), some (.arr tw 3 (ints S))]
abbrev rpJ (tf : Nat) (v : Int) (F : List (List Int)) (S : List Int) : Nat → Fr → H → Prop := fun i fr σ => ∃ S1 t tw, passU S (F.take i) = some S1 ∧ Inv F S1 ∧ S.length ≤ S1.length ∧ fget fr 1 = .ptr 0 tf 0 ∧ fget fr 4 = .sl 1 tw 0 1 S1.length none ∧ fget fr 5 = .bool (decide (S.length < S1.length)) ∧ fget fr 6 = .int .i64 ((i : Nat) : Int) ∧ σ = ⟨t, uR0 tf tw v F S1⟩
abbrev rpE (tf : Nat) (v : Int) (F : List (List Int)) (S : List Int) : AE → Fr → H → Prop := fun e fr σ => (e = .ret ∧ passU S F = none ∧ fget fr 2 = .lst 0 [] true ∧ fget fr 3 = .bool false) ∨
  (e = .ex 2 ∧ ∃ S1 t tw, passU S F = some S1 ∧ Inv F S1 ∧ S.length ≤ S1.length ∧ fget fr 1 = .ptr 0 tf 0 ∧ fget fr 4 = .sl 1 tw 0 1 S1.length none ∧ fget fr 5 = .bool (decide (S.length < S1.length)) ∧ σ = ⟨t, uR0 tf tw v F S1⟩)
set_option maxHeartbeats 2000000 in
theorem rp_round (hT : TabOk P tab) {tf : Nat} {v : Int} {F : List (List Int)} {S : List Int} (hF : F.length ≤ 1000) (hc : ∀ c ∈ F, c.length ≤ 1000) (hz : Nz F) (hrt : ∀ c ∈ F, ∀ n ∈ c, -16777216 ≤ n ∧ n ≤ 16777216) {i : Nat} {c : List Int} (hci : F[i]? = some c) {fr : Fr} {σ : H} (hJ : rpJ tf v F S i fr σ) :
    W P G 129 0 (AC.seq (AC.seq (AC.reg proofmarkref05_Units_r8 [17, 18, 19, 20])   (AC.cond (Arg.t 21)   AC.skip   (AC.exit 2)))   (AC.seq (AC.block 3 (AC.seq (AC.reg proofmarkref05_Units_r9 [])   (AC.seq (AC.reg proofmarkref05_Units_r10 [])   (AC.seq (AC.seq (AC.reg proofmarkref05_Units_r11 [])   (AC.block 4 (AC.loop (AC.seq (AC.seq (AC.reg proofmarkref05_Units_r12 [24, 25, 26, 27, 28, 29, 30])   (AC.cond (Arg.t 31)   AC.skip   (AC.exit 4)))   (AC.seq (AC.block 5 (AC.seq (AC.reg proofmarkref05_Units_r13 [34, 35, 36, 37, 38, 39, 40, 41])   (AC.seq (AC.reg proofmarkref05_Units_r14 [42, 43, 44, 45, 46, 47])   (AC.seq (AC.reg proofmarkref05_Units_r15 [48, 49, 50, 51, 52, 53, 54, 55, 56, 57, 58, 59, 60, 61, 62, 63])   (AC.cond (Arg.t 64)   (AC.reg proofmarkref05_Units_r16 [65, 66, 67, 68])   AC.skip)))))   (AC.reg proofmarkref05_Units_r17 [32, 33]))))))   (AC.seq (AC.seq (AC.reg proofmarkref05_Units_r18 [69, 70, 71, 72, 73, 74])   (AC.cond (Arg.t 75)   (AC.seq (AC.reg proofmarkref05_Units_r19 [])   AC.ret)   AC.skip))   (AC.seq (AC.reg proofmarkref05_Units_r20 [76, 77, 78, 79, 80, 81])   (AC.cond (Arg.t 82)   (AC.seq (AC.reg proofmarkref05_Units_r21 [83, 84, 85, 86, 87, 88])   (AC.reg proofmarkref05_Units_r22 []))   AC.skip)))))))   (AC.reg proofmarkref05_Units_r23 [22, 23]))) fr σ (seqQ (fun fr σ => ∃ fr' σ', Shift G 129 0 fr σ fr' σ' ∧ rpJ tf v F S (i + 1) fr' σ') (rpE tf v F S)) := by
  obtain ⟨S1, t, tw, hp, hI, hle, f1, f4, f5, f6, rfl⟩ := hJ
  obtain ⟨hlt, hD, e2⟩ := at_rows hci (by omega)
  have hcm := List.mem_of_getElem? hci
  have hSl : S1.length ≤ 1000000 := by
    have h1 := hI.len
    have h2 := flat_len hc
    have h3 : F.length * 1000 ≤ 1000 * 1000 := Nat.mul_le_mul_right _ hF
    omega
  have hps := passU_snoc (S := S) hci hp
  have hst := stepU_left (S := S1) (c := c)
  have hLl := leftR_len (S := S1) c
  have hcl := hc c hcm
  refine W_round [(1, .ptr 0 tf 0), (4, .sl 1 tw 0 1 S1.length none), (5, .bool (decide (S.length < S1.length))), (6, .int .i64 ((i : Nat) : Int))] ⟨f1, f4, f5, f6, trivial⟩  1000 ?_
  simp -implicitDefEqProofs (disch := omega) only [go_sem, ↓reduceIte, Nat.reduceAdd, Nat.reduceEqDiff, Nat.zero_add, decide_true, Nat.le_refl, proofmarkref05_Units_r8, proofmarkref05_Units_r9, proofmarkref05_Units_r10, proofmarkref05_Units_r11, proofmarkref05_Units_r12, proofmarkref05_Units_r13, proofmarkref05_Units_r14, proofmarkref05_Units_r15, proofmarkref05_Units_r16, proofmarkref05_Units_r17, proofmarkref05_Units_r18, proofmarkref05_Units_r19, proofmarkref05_Units_r20, proofmarkref05_Units_r21, proofmarkref05_Units_r22, proofmarkref05_Units_r23, uR0, List.length_map, true_implies, and_true, hlt]
  refine sem_shift (Shift.own (s := 8) (z := 0) (sz := 1) (T := 3) (by simp -implicitDefEqProofs (disch := omega) only [go_sem, ↓reduceIte, Nat.reduceEqDiff]) (by decide)) ?_
  simp -implicitDefEqProofs (disch := omega) only [go_sem, ↓reduceIte, Nat.reduceAdd, Nat.reduceEqDiff, Nat.zero_add, H.push, List.length_cons, List.length_nil, List.cons_append, List.nil_append]
  refine sem_for c (rkJ tf tw v F S1 c (decide (S.length < S1.length)) i) (rkE tf tw v F S1 c (decide (S.length < S1.length)) i) ⟨t + 1, t, [], false, by simp [leftR], by simp, ?_⟩ (fun k n hn fr σ hJ => rk_round hT hci hF hcl hSl (hrt c hcm) hn hJ) (fun k hk fr σ hJ => ?_) (fun e fr σ hE => ?_)
  · simp -implicitDefEqProofs (disch := omega) only [go_sem, ↓reduceIte, Nat.reduceEqDiff, true_and, uR]
    simp [ints]
  · obtain ⟨t, tl, L, hd, hL, hhd, f1, f4, f5, f6, f7, f8, f9, rfl⟩ := hJ
    rw [hk, List.take_length] at hL hhd
    refine W_round [(1, .ptr 0 tf 0), (4, .sl 1 tw 0 1 S1.length none), (5, .bool (decide (S.length < S1.length))), (6, .int .i64 ((i : Nat) : Int)), (7, .bool hd), (8, .sl 2 tl 0 1 L.length none), (9, .int .i64 ((k : Nat) : Int))] ⟨f1, f4, f5, f6, f7, f8, f9, trivial⟩ 1000 ?_
    simp -implicitDefEqProofs (disch := omega) only [go_sem, need_of, ↓reduceIte, Nat.reduceAdd, Nat.reduceEqDiff, Nat.zero_add, decide_false, Nat.le_refl, List.length_map, ints_length, true_implies, and_true, uR, hlt, hD, hk, Nat.lt_irrefl]
    exact ⟨t, tl, L, hd, rfl, hL, hhd, rfl, rfl, rfl, rfl, rfl, rfl, rfl⟩
  · obtain ⟨t, tl, L, hd, rfl, hL, hhd, f1, f4, f5, f6, f7, f8, rfl⟩ := hE
    rw [← hhd, ← hL] at hst
    have hdrop : ∀ S2 tw2, subObs (uR0 tf tw2 v F S2) (uR tf tw2 tl v F S2 L) := fun S2 tw2 => by simp [subObs, uR0, uR]
    cases hd with
    | true =>
      rw [if_pos rfl] at hst
      refine sem_exit [(1, .ptr 0 tf 0), (4, .sl 1 tw 0 1 S1.length none), (5, .bool (decide (S.length < S1.length))), (6, .int .i64 ((i : Nat) : Int)), (7, .bool true), (8, .sl 2 tl 0 1 L.length none)] ⟨f1, f4, f5, f6, f7, f8, trivial⟩  14 ?_
      simp -implicitDefEqProofs (disch := omega) only [go_sem, ↓reduceIte, Nat.reduceEqDiff, Bool.not_true, Bool.not_true, uR]
      iterate 9 (try (refine run_sem 4 ?_; simp -implicitDefEqProofs (disch := omega) only [go_sem, ↓reduceIte, Nat.reduceEqDiff, Bool.not_true, Bool.not_true]))
      refine ⟨_, _, Shift.drop (o' := uR0 tf tw v F S1) (t' := t) (hdrop _ _) (Nat.le_refl _) (Nat.zero_le _), S1, t, tw, by rw [hps, hst], hI, hle, ?_⟩
      simp -implicitDefEqProofs (disch := omega) only [go_sem, ↓reduceIte, Nat.reduceEqDiff, uR0, and_true, e2]
    | false =>
      rw [if_neg (by simp)] at hst
      by_cases h0 : L.length = 0
      · have h0' : ((L.length : Int) == 0) = true := by simp [h0]
        rw [if_pos h0] at hst
        have hno := passU_fail hci hp hst
        refine sem_exit [(1, .ptr 0 tf 0), (4, .sl 1 tw 0 1 S1.length none), (5, .bool (decide (S.length < S1.length))), (6, .int .i64 ((i : Nat) : Int)), (7, .bool false), (8, .sl 2 tl 0 1 L.length none)] ⟨f1, f4, f5, f6, f7, f8, trivial⟩  14 ?_
        simp -implicitDefEqProofs (disch := omega) only [go_sem, ↓reduceIte, Nat.reduceAdd, Nat.reduceEqDiff, Bool.not_false, Bool.not_false, uR, h0']
        iterate 9 (try (refine run_sem 4 ?_; simp -implicitDefEqProofs (disch := omega) only [go_sem, ↓reduceIte, Nat.reduceEqDiff]))
        exact .inl ⟨rfl, hno, rfl, rfl⟩
      · have h0' : ((L.length : Int) == 0) = false := by rw [beq_eq_false_iff_ne]; omega
        rw [if_neg h0] at hst
        by_cases h1 : L.length = 1
        · have h1' : ((L.length : Int) == 1) = true := by simp [h1]
          rw [if_pos h1] at hst
          obtain ⟨a, ha⟩ := List.length_eq_one_iff.1 h1
          have hg : L.getD 0 0 = a := by rw [ha]; rfl
          have hD0 : (ints L).getD 0 V.any = .int .i64 a := by rw [ha]; rfl
          rw [hg] at hst
          have hap : ints S1 ++ [V.int .i64 a] = ints (S1 ++ [a]) := by simp [ints]
          have hdec : decide (S.length < (S1 ++ [a]).length) = true := by simp; omega
          have hI2 := ((stepU_inv hz hI hcm).2 _ hst).1
          have h1l : 0 < L.length := by omega
          refine sem_exit [(1, .ptr 0 tf 0), (4, .sl 1 tw 0 1 S1.length none), (5, .bool (decide (S.length < S1.length))), (6, .int .i64 ((i : Nat) : Int)), (7, .bool false), (8, .sl 2 tl 0 1 L.length none)] ⟨f1, f4, f5, f6, f7, f8, trivial⟩  14 ?_
          simp -implicitDefEqProofs (disch := omega) only [go_sem, ↓reduceIte, Nat.reduceAdd, Nat.reduceEqDiff, Bool.not_false, Bool.not_false, uR, h0']
          iterate 16 (try (refine run_sem 4 ?_; simp -implicitDefEqProofs (disch := omega) only [go_sem, need_of, ↓reduceIte, reduceCtorEq, Nat.reduceAdd, Nat.reduceEqDiff, Nat.reduceLeDiff, Int.reduceToNat, Int.reduceLE, Nat.zero_add, Nat.add_zero, Nat.mul_one, Bool.not_true, Bool.not_false, Nat.le_refl, Nat.zero_le, ints_length, true_implies, true_and, and_true, Bool.not_true, Bool.not_false, h1', hD0, hap]))
          refine ⟨_, _, Shift.drop (o' := uR0 tf t v F (S1 ++ [a])) (t' := t + 1) (hdrop _ _) (Nat.le_refl _) (Nat.zero_le _), S1 ++ [a], t + 1, t, by rw [hps, hst], hI2, by simp; omega, ?_⟩
          rw [hdec]
          simp -implicitDefEqProofs (disch := omega) only [go_sem, ↓reduceIte, Nat.reduceEqDiff, Nat.zero_add, uR0, and_true, e2, List.length_append]
        · have h1' : ((L.length : Int) == 1) = false := by rw [beq_eq_false_iff_ne]; omega
          rw [if_neg h1] at hst
          refine sem_exit [(1, .ptr 0 tf 0), (4, .sl 1 tw 0 1 S1.length none), (5, .bool (decide (S.length < S1.length))), (6, .int .i64 ((i : Nat) : Int)), (7, .bool false), (8, .sl 2 tl 0 1 L.length none)] ⟨f1, f4, f5, f6, f7, f8, trivial⟩  14 ?_
          simp -implicitDefEqProofs (disch := omega) only [go_sem, ↓reduceIte, Nat.reduceAdd, Nat.reduceEqDiff, Bool.not_false, Bool.not_false, uR, h0']
          iterate 16 (try (refine run_sem 4 ?_; simp -implicitDefEqProofs (disch := omega) only [go_sem, ↓reduceIte, Nat.reduceAdd, Nat.reduceEqDiff, Bool.not_false, Bool.not_false, h1']))
          refine ⟨_, _, Shift.drop (o' := uR0 tf tw v F S1) (t' := t) (hdrop _ _) (Nat.le_refl _) (Nat.zero_le _), S1, t, tw, by rw [hps, hst], hI, hle, ?_⟩
          simp -implicitDefEqProofs (disch := omega) only [go_sem, ↓reduceIte, Nat.reduceEqDiff, uR0, and_true, e2]
end Go.Proofs.Ytingdebioipemaa
