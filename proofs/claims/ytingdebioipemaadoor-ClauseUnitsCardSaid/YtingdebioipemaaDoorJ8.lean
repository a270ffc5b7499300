/- Contracts: the document's side of clauses: Units. -/
import Derived.Test.YtingdebioipemaaDoorJ7
import Derived.Test.YtingdebioipemaaDoorJ4
/- Contracts: the document's side of clauses: Units. -/
namespace Go.Proofs.YtingdebioipemaaDoor
open Go Go.Am Go.Cl
set_option maxRecDepth 100000
variable {P : Program} {G : Nat → Option V}
abbrev r4J (t tf tw : Nat) (v : Int) (F : List (List Int)) (i z : Nat) (n : Int) (l R : List Int) : Nat → Fr → H → Prop := fun m fr σ => ∃ Q S, m = Q.length ∧ Q ++ S = l ∧ (∀ s ∈ S, av n < av s) ∧ fget fr 4 = .sl 1 tw 0 1 z none ∧ fget fr 11 = .int .i64 ((i : Nat) : Int) ∧ fget fr 12 = .int .i64 ((m : Nat) : Int) ∧ σ = ⟨t, uR0 tf tw v F (Q ++ n :: (S ++ R))⟩
abbrev r4E (t tf tw : Nat) (v : Int) (F : List (List Int)) (i z : Nat) (n : Int) (l R : List Int) : AE → Fr → H → Prop := fun e fr σ => e = .ex 8 ∧ ∃ Q S, Q ++ S = l ∧ Srt (Q ++ n :: S) ∧ fget fr 4 = .sl 1 tw 0 1 z none ∧ fget fr 11 = .int .i64 ((i : Nat) : Int) ∧ σ = ⟨t, uR0 tf tw v F (Q ++ n :: (S ++ R))⟩
theorem r4_round (hT : TabOk P tab) {t tf tw : Nat} {v : Int} {F : List (List Int)} {i z : Nat} {n : Int} {l R : List Int} (hl : Srt l) (hn : ∀ s ∈ l, av s ≠ av n) (hb : ∀ s ∈ n :: l, -16777216 ≤ s ∧ s ≤ 16777216) (hz : l.length + 1 + R.length = z) (hlen : z ≤ 1000000) {m : Nat} {fr : Fr} {σ : H} (hJ : r4J t tf tw v F i z n l R m fr σ) :
    W P G 129 0 (AC.seq (AC.seq (AC.reg zqc_27 [96, 97, 98, 99, 100, 101, 102, 103, 104, 105, 106, 107, 108])   (AC.cond (Arg.t 109)   AC.skip   (AC.exit 8)))   (AC.seq (AC.block 9 (AC.reg zqc_28 [112, 113, 114, 115, 116, 117, 118, 119, 120, 121, 122, 123, 124, 125, 126, 127]))   (AC.reg zqc_29 [110, 111]))) fr σ (seqQ (fun fr σ => ∃ m' fr' σ', m' < m ∧ Shift G 129 0 fr σ fr' σ' ∧ r4J t tf tw v F i z n l R m' fr' σ') (r4E t tf tw v F i z n l R)) := by
  obtain ⟨Q, S, hq, hQS, hS, f4, f11, f12, rfl⟩ := hJ
  rcases List.eq_nil_or_concat Q with rfl | ⟨Q, p, rfl⟩
  · rw [List.length_nil] at hq
    subst hq
    refine W_round [(4, .sl 1 tw 0 1 z none), (11, .int .i64 ((i : Nat) : Int)), (12, .int .i64 0)] ⟨f4, f11, f12, trivial⟩  14 ?_
    simp -implicitDefEqProofs (disch := omega) only [go_sem, ↓reduceIte, Nat.reduceEqDiff, decide_false, gt_iff_lt, zqc_27, zqc_28, zqc_29, uR0, Int.lt_irrefl]
    iterate 9 (try (refine run_sem 2 ?_; simp -implicitDefEqProofs (disch := omega) only [go_sem, ↓reduceIte, Nat.reduceEqDiff]))
    iterate 4 (try (refine run_sem 4 ?_; simp -implicitDefEqProofs (disch := omega) only [go_sem, need_of, ↓reduceIte, reduceCtorEq, Nat.reduceAdd, Nat.reduceEqDiff, Nat.reduceLeDiff, Nat.reduceLT, Nat.reduceSub, Nat.reduceMul, Int.reduceToNat, Int.reduceLE, Int.reduceLT, Int.reduceEq, Int.reduceNe, Nat.succ_ne_zero, Nat.zero_add, Nat.add_zero, Nat.mul_one, Nat.one_mul, Nat.zero_mul, decide_true, decide_false, Bool.not_true, Bool.not_false, Nat.le_refl, Nat.zero_le, ge_iff_le, gt_iff_lt, Nat.reduceBEq, Nat.reduceBNe, beq_self_eq_true, bne_self_eq_false, Option.isSome_some, Option.isSome_none, Option.getD_some, Option.getD_none, proofmarkref05_Units, zqc_0, zqc_1, zqc_2, zqc_3, zqc_4, zqc_5, zqc_6, zqc_7, zqc_8, zqc_9, zqc_10, zqc_11, zqc_12, zqc_13, zqc_14, zqc_15, zqc_16, zqc_17, zqc_18, zqc_19, zqc_20, zqc_21, zqc_22, zqc_23, zqc_24, zqc_25, zqc_26, zqc_27, zqc_28, zqc_29, zqc_30, zqc_31, uR0, List.length_map, ints_length, false_implies, true_implies, true_and, and_true, not_true_eq_false, not_false_eq_true, Bool.not_true, Bool.not_false, List.length_append, List.length_cons]))
    exact ⟨rfl, [], S, hQS, srt_put (P := []) (hQS ▸ hl) hS (by simp), rfl, rfl, rfl⟩
  · rw [List.concat_eq_append] at *
    rw [List.length_append, List.length_singleton] at hq
    rw [List.append_assoc] at hQS
    have hQz : Q.length + S.length + 1 + 1 + R.length = z := by rw [← hz, ← hQS]; simp; omega
    subst hq
    have w1 := wpred (q := Q.length) (by omega)
    have w2 : (0 : Int) < ((Q.length + 1 : Nat) : Int) := by omega
    have w2' : decide ((0 : Int) < ((Q.length + 1 : Nat) : Int)) = true := decide_eq_true w2
    have g1 := get_mid (Q := Q) (S := n :: (S ++ R)) (n := p)
    have g2 := get_mid2 (Q := Q) (S := S ++ R) (p := p) (n := n)
    have g3 := put_ints2 (Q := Q) (S := S ++ R) (p := p) (n := n) (q := p)
    have g4 := put_ints (Q := Q) (S := p :: (S ++ R)) (p := n) (n := p)
    have hp : p ∈ l := by rw [← hQS]; simp
    have hB := c_before (P := P) (G := G) hT n p (by have := hb n (by simp); omega) (by have := hb p (by simp [hp]); omega)
    have e1 : Q ++ [p] ++ n :: (S ++ R) = Q ++ p :: n :: (S ++ R) := by simp
    by_cases hlt : av n < av p
    · have hlt' : decide (av n < av p) = true := decide_eq_true hlt
      rw [hlt'] at hB
      rw [e1]
      refine W_round [(4, .sl 1 tw 0 1 z none), (11, .int .i64 ((i : Nat) : Int)), (12, .int .i64 ((Q.length + 1 : Nat) : Int))] ⟨f4, f11, f12, trivial⟩  14 ?_
      simp -implicitDefEqProofs (disch := omega) only [go_sem, need_of, ↓reduceIte, Nat.reduceAdd, Nat.reduceEqDiff, Nat.zero_add, Nat.mul_one, decide_true, gt_iff_lt, zqc_27, zqc_28, zqc_29, uR0, ints_length, true_implies, true_and, and_true, List.length_append, List.length_cons, w1, w2, g2]
      iterate 4 (try (refine run_sem 2 ?_; simp -implicitDefEqProofs (disch := omega) only [go_sem, need_of, ↓reduceIte, Nat.reduceAdd, Nat.reduceEqDiff, Nat.zero_add, ints_length, true_implies, true_and, and_true, List.length_append, List.length_cons, g1]))
      refine callPS hT t_proofmarkref05_before hB rfl 4 ?_
      simp -implicitDefEqProofs (disch := omega) only [go_sem, ↓reduceIte, Nat.reduceEqDiff]
      iterate 9 (try (refine run_sem 4 ?_; simp -implicitDefEqProofs (disch := omega) only [go_sem, need_of, ↓reduceIte, Nat.reduceEqDiff, Nat.zero_add, Nat.mul_one, Bool.not_false, Nat.zero_le, ints_length, true_implies, true_and, and_true, Bool.not_false, List.length_append, List.length_cons, w1, g1, g2, g3, g4]))
      refine ⟨Q.length, _, _, by omega, Shift.refl _ _ _ _, Q, p :: S, rfl, by rw [← hQS]; simp, fun s hs => ?_, ?_⟩
      · rcases List.mem_cons.1 hs with rfl | hs
        · exact hlt
        · exact hS s hs
      · simp -implicitDefEqProofs (disch := omega) only [go_sem, ↓reduceIte, Nat.reduceEqDiff, uR0, and_true, List.cons_append]
    · have hlt' : decide (av n < av p) = false := decide_eq_false hlt
      rw [hlt'] at hB
      rw [e1]
      have e2 : Q ++ [p] ++ n :: S = Q ++ p :: n :: S := by simp
      have hsr : Srt (Q ++ [p] ++ n :: S) := srt_put (P := Q ++ [p]) (S := S) (n := n) (by rw [← hQS] at hl; simpa using hl) hS (fun q hq => by
        simp at hq; subst hq
        have := hn p hp; omega)
      refine W_round [(4, .sl 1 tw 0 1 z none), (11, .int .i64 ((i : Nat) : Int)), (12, .int .i64 ((Q.length + 1 : Nat) : Int))] ⟨f4, f11, f12, trivial⟩  14 ?_
      simp -implicitDefEqProofs (disch := omega) only [go_sem, need_of, ↓reduceIte, Nat.reduceAdd, Nat.reduceEqDiff, Nat.zero_add, Nat.mul_one, decide_true, gt_iff_lt, zqc_27, zqc_28, zqc_29, uR0, ints_length, true_implies, true_and, and_true, List.length_append, List.length_cons, w1, w2, g2]
      iterate 4 (try (refine run_sem 2 ?_; simp -implicitDefEqProofs (disch := omega) only [go_sem, need_of, ↓reduceIte, Nat.reduceAdd, Nat.reduceEqDiff, Nat.zero_add, ints_length, true_implies, true_and, and_true, List.length_append, List.length_cons, g1]))
      refine callPS hT t_proofmarkref05_before hB rfl 4 ?_
      simp -implicitDefEqProofs (disch := omega) only [go_sem, ↓reduceIte, Nat.reduceEqDiff]
      iterate 9 (try (refine run_sem 4 ?_; simp -implicitDefEqProofs (disch := omega) only [go_sem]))
      exact ⟨rfl, Q ++ [p], S, by rw [← hQS]; simp, hsr, rfl, rfl, by rw [e1]; rfl⟩
abbrev r3J (t tf tw : Nat) (v : Int) (F : List (List Int)) (S : List Int) : Nat → Fr → H → Prop := fun i fr σ => ∃ l, l.length = i ∧ Srt l ∧ (∀ x, x ∈ l ↔ x ∈ S.take i) ∧ fget fr 4 = .sl 1 tw 0 1 S.length none ∧ fget fr 11 = .int .i64 ((i : Nat) : Int) ∧ σ = ⟨t, uR0 tf tw v F (l ++ S.drop i)⟩
abbrev r3E (t tf tw : Nat) (v : Int) (F : List (List Int)) (S : List Int) : AE → Fr → H → Prop := fun e fr σ => e = .ex 6 ∧ fget fr 4 = .sl 1 tw 0 1 S.length none ∧ σ = ⟨t, uR0 tf tw v F (sortV S)⟩
theorem r3_round (hT : TabOk P tab) {t tf tw : Nat} {v : Int} {F : List (List Int)} {S : List Int} (hO : Once S) (hb : ∀ s ∈ S, -16777216 ≤ s ∧ s ≤ 16777216) (hlen : S.length ≤ 1000000) {i : Nat} {n : Int} (ha : S[i]? = some n) {fr : Fr} {σ : H} (hJ : r3J t tf tw v F S i fr σ) :
    W P G 129 0 (AC.seq (AC.seq (AC.reg zqc_25 [89, 90, 91])   (AC.cond (Arg.t 92)   AC.skip   (AC.exit 6)))   (AC.seq (AC.block 7 (AC.seq (AC.reg zqc_26 [95])   (AC.block 8 (AC.loop (AC.seq (AC.seq (AC.reg zqc_27 [96, 97, 98, 99, 100, 101, 102, 103, 104, 105, 106, 107, 108])   (AC.cond (Arg.t 109)   AC.skip   (AC.exit 8)))   (AC.seq (AC.block 9 (AC.reg zqc_28 [112, 113, 114, 115, 116, 117, 118, 119, 120, 121, 122, 123, 124, 125, 126, 127]))   (AC.reg zqc_29 [110, 111])))))))   (AC.reg zqc_30 [93, 94]))) fr σ (seqQ (fun fr σ => ∃ fr' σ', Shift G 129 0 fr σ fr' σ' ∧ r3J t tf tw v F S (i + 1) fr' σ') (r3E t tf tw v F S)) := by
  obtain ⟨l, hli, hs, hm, f4, f11, rfl⟩ := hJ
  obtain ⟨hlt, _, e2⟩ := at_ints ha (by omega)
  have hts := take_snoc ha
  have hd : S.drop i = n :: S.drop (i + 1) := by
    rw [List.drop_eq_getElem_cons hlt]
    congr 1
    exact (List.getElem?_eq_some_iff.1 ha).2
  have hO2 : Once (S.take i ++ n :: S.drop (i + 1)) := by rw [← hd, List.take_append_drop]; exact hO
  have hne : ∀ s ∈ l, av s ≠ av n := fun s h => (List.pairwise_append.1 hO2).2.2 s ((hm s).1 h) n (by simp)
  have hbn : ∀ s ∈ n :: l, -16777216 ≤ s ∧ s ≤ 16777216 := fun s h => by
    rcases List.mem_cons.1 h with rfl | h
    · exact hb _ (List.mem_of_getElem? ha)
    · exact hb s (List.mem_of_mem_take ((hm s).1 h))
  have hz : l.length + 1 + (S.drop (i + 1)).length = S.length := by rw [List.length_drop]; omega
  rw [hd]
  generalize hR : S.drop (i + 1) = R at *
  refine W_round [(4, .sl 1 tw 0 1 S.length none), (11, .int .i64 ((i : Nat) : Int))] ⟨f4, f11, trivial⟩  1000 ?_
  simp -implicitDefEqProofs (disch := omega) only [go_sem, ↓reduceIte, Nat.reduceEqDiff, decide_true, zqc_25, zqc_26, zqc_27, zqc_28, zqc_29, zqc_30, uR0, hlt]
  refine sem_invE (r4J t tf tw v F i S.length n l R) (r4E t tf tw v F i S.length n l R) (m0 := l.length) ⟨l, [], rfl, by simp, by simp, ?_⟩ (fun m fr σ hJ => r4_round hT hs hne hbn hz hlen hJ) (fun e fr σ hE => ?_)
  · simp -implicitDefEqProofs (disch := omega) only [go_sem, ↓reduceIte, Nat.reduceEqDiff, uR0, and_true, hli, List.nil_append]
  · obtain ⟨rfl, Q, S', hQS, hsr, f4, f11, rfl⟩ := hE
    have hm2 : ∀ x, x ∈ Q ++ n :: S' ↔ x ∈ S.take (i + 1) := fun x => by
      rw [hts, List.mem_append (s := S.take i), ← hm x, mem_put, hQS]
      simp only [List.mem_singleton]
    have hli2 : (Q ++ n :: S').length = i + 1 := by
      have : (Q ++ S').length = i := by rw [hQS, hli]
      simp at this ⊢; omega
    have hassoc : Q ++ n :: (S' ++ R) = (Q ++ n :: S') ++ R := by simp
    refine sem_exit2 [(4, .sl 1 tw 0 1 S.length none), (11, .int .i64 ((i : Nat) : Int))] ⟨f4, f11, trivial⟩  1000 ?_
    simp -implicitDefEqProofs (disch := omega) only [go_sem, ↓reduceIte, Nat.reduceEqDiff, uR0]
    refine ⟨_, _, Shift.refl _ _ _ _, Q ++ n :: S', hli2, hsr, hm2, ?_⟩
    rw [hR]
    simp -implicitDefEqProofs (disch := omega) only [go_sem, ↓reduceIte, Nat.reduceEqDiff, uR0, and_true, e2, hassoc]
abbrev r0J (tf : Nat) (v : Int) (F : List (List Int)) : Nat → Fr → H → Prop := fun m fr σ => ∃ S k t tw ag, Inv F S ∧ ((ag = true ∧ m = k + 1 ∧ F.flatten.length + 1 ≤ k + S.length ∧ loopU F k S = foundU F) ∨ (ag = false ∧ m = 0 ∧ foundU F = some S)) ∧ fget fr 1 = .ptr 0 tf 0 ∧ fget fr 4 = .sl 1 tw 0 1 S.length none ∧ fget fr 5 = .bool ag ∧ σ = ⟨t, uR0 tf tw v F S⟩
abbrev r0E (tf : Nat) (v : Int) (F : List (List Int)) : AE → Fr → H → Prop := fun e fr σ => (e = .ret ∧ foundU F = none ∧ fget fr 2 = .lst 0 [] true ∧ fget fr 3 = .bool false) ∨ (∃ S t tw, e = .ex 0 ∧ foundU F = some S ∧ fget fr 4 = .sl 1 tw 0 1 S.length none ∧ σ = ⟨t, uR0 tf tw v F S⟩)
theorem r0_round (hT : TabOk P tab) {tf : Nat} {v : Int} {F : List (List Int)} (hF : F.length ≤ 1000) (hc : ∀ c ∈ F, c.length ≤ 1000) (hz : Nz F) (hrt : ∀ c ∈ F, ∀ n ∈ c, -16777216 ≤ n ∧ n ≤ 16777216) {m : Nat} {fr : Fr} {σ : H} (hJ : r0J tf v F m fr σ) :
    W P G 129 0 (AC.seq (AC.seq (AC.reg zqc_5 [])   (AC.cond (Arg.t 16)   AC.skip   (AC.exit 0)))   (AC.block 1 (AC.seq (AC.reg zqc_6 [])   (AC.seq (AC.reg zqc_7 [])   (AC.block 2 (AC.loop (AC.seq (AC.seq (AC.reg zqc_8 [17, 18, 19, 20])   (AC.cond (Arg.t 21)   AC.skip   (AC.exit 2)))   (AC.seq (AC.block 3 (AC.seq (AC.reg zqc_9 [])   (AC.seq (AC.reg zqc_10 [])   (AC.seq (AC.seq (AC.reg zqc_11 [])   (AC.block 4 (AC.loop (AC.seq (AC.seq (AC.reg zqc_12 [24, 25, 26, 27, 28, 29, 30])   (AC.cond (Arg.t 31)   AC.skip   (AC.exit 4)))   (AC.seq (AC.block 5 (AC.seq (AC.reg zqc_13 [34, 35, 36, 37, 38, 39, 40, 41])   (AC.seq (AC.reg zqc_14 [42, 43, 44, 45, 46, 47])   (AC.seq (AC.reg zqc_15 [48, 49, 50, 51, 52, 53, 54, 55, 56, 57, 58, 59, 60, 61, 62, 63])   (AC.cond (Arg.t 64)   (AC.reg zqc_16 [65, 66, 67, 68])   AC.skip)))))   (AC.reg zqc_17 [32, 33]))))))   (AC.seq (AC.seq (AC.reg zqc_18 [69, 70, 71, 72, 73, 74])   (AC.cond (Arg.t 75)   (AC.seq (AC.reg zqc_19 [])   AC.ret)   AC.skip))   (AC.seq (AC.reg zqc_20 [76, 77, 78, 79, 80, 81])   (AC.cond (Arg.t 82)   (AC.seq (AC.reg zqc_21 [83, 84, 85, 86, 87, 88])   (AC.reg zqc_22 []))   AC.skip)))))))   (AC.reg zqc_23 [22, 23]))))))))) fr σ (seqQ (fun fr σ => ∃ m' fr' σ', m' < m ∧ Shift G 129 0 fr σ fr' σ' ∧ r0J tf v F m' fr' σ') (r0E tf v F)) := by
  obtain ⟨S, k, t, tw, ag, hI, hk, f1, f4, f5, rfl⟩ := hJ
  rcases hk with ⟨rfl, rfl, hkl, hlu⟩ | ⟨rfl, rfl, hlu⟩
  · have hdec0 : decide (S.length < S.length) = false := decide_eq_false (Nat.lt_irrefl _)
    refine W_round [(1, .ptr 0 tf 0), (4, .sl 1 tw 0 1 S.length none), (5, .bool true)] ⟨f1, f4, f5, trivial⟩  1000 ?_
    simp -implicitDefEqProofs (disch := omega) only [go_sem, ↓reduceIte, Nat.reduceEqDiff, zqc_5, zqc_6, zqc_7, zqc_8, zqc_9, zqc_10, zqc_11, zqc_12, zqc_13, zqc_14, zqc_15, zqc_16, zqc_17, zqc_18, zqc_19, zqc_20, zqc_21, zqc_22, zqc_23, uR0]
    refine sem_for F (rpJ tf v F S) (rpE tf v F S) ⟨S, t, tw, rfl, hI, Nat.le_refl _, ?_⟩ (fun i c hci fr σ hJ => rp_round hT hF hc hz hrt hci hJ) (fun i hi fr σ hJ => ?_) (fun e fr σ hE => ?_)
    · simp -implicitDefEqProofs (disch := omega) only [go_sem, ↓reduceIte, Nat.reduceEqDiff, uR0, true_and, and_true, hdec0]
      simp
    · obtain ⟨S1, t, tw, hp, hI1, hl1, f1, f4, f5, f6, rfl⟩ := hJ
      rw [hi, List.take_length] at hp
      refine W_round [(1, .ptr 0 tf 0), (4, .sl 1 tw 0 1 S1.length none), (5, .bool (decide (S.length < S1.length))), (6, .int .i64 ((i : Nat) : Int))] ⟨f1, f4, f5, f6, trivial⟩ 1000 ?_
      simp -implicitDefEqProofs (disch := omega) only [go_sem, ↓reduceIte, Nat.reduceAdd, Nat.reduceEqDiff, Nat.zero_add, decide_false, Nat.le_refl, uR0, List.length_map, true_implies, and_true, List.length_cons, hi, Nat.lt_irrefl]
      exact .inr ⟨rfl, S1, t, tw, hp, hI1, hl1, rfl, rfl, rfl, rfl⟩
    · rcases hE with ⟨rfl, hp, f2, f3⟩ | ⟨rfl, S1, t, tw, hp, hI1, hl1, f1, f4, f5, rfl⟩
      · have hno : foundU F = none := by
          rw [← hlu]
          cases k with
          | zero => rfl
          | succ k => rw [loopU, hp]
        refine run_sem 1000 ?_
        simp -implicitDefEqProofs (disch := omega) only [go_sem]
        exact .inl ⟨rfl, hno, f2, f3⟩
      · have hk : k ≠ 0 := by have := hI.len; omega
        obtain ⟨k, rfl⟩ := Nat.exists_eq_succ_of_ne_zero hk
        rw [loopU, hp] at hlu
        simp only at hlu
        refine run_sem 1000 ?_
        simp -implicitDefEqProofs (disch := omega) only [go_sem, ↓reduceIte, uR0]
        by_cases hlen : S1.length = S.length
        · rw [if_pos hlen] at hlu
          exact ⟨0, fr, _, by omega, Shift.refl _ _ _ _, S1, 0, t, tw, decide (S.length < S1.length), hI1, .inr ⟨by simp; omega, rfl, hlu.symm⟩, f1, f4, f5, rfl⟩
        · rw [if_neg hlen] at hlu
          exact ⟨k + 1, fr, _, by omega, Shift.refl _ _ _ _, S1, k, t, tw, decide (S.length < S1.length), hI1, .inl ⟨by simp; omega, rfl, by omega, hlu⟩, f1, f4, f5, rfl⟩
  · refine W_round [(1, .ptr 0 tf 0), (4, .sl 1 tw 0 1 S.length none), (5, .bool false)] ⟨f1, f4, f5, trivial⟩  1000 ?_
    simp -implicitDefEqProofs (disch := omega) only [go_sem, ↓reduceIte, Nat.reduceEqDiff, zqc_5, zqc_6, zqc_7, zqc_8, zqc_9, zqc_10, zqc_11, zqc_12, zqc_13, zqc_14, zqc_15, zqc_16, zqc_17, zqc_18, zqc_19, zqc_20, zqc_21, zqc_22, zqc_23, uR0]
    exact .inr ⟨S, t, tw, rfl, hlu, rfl, rfl⟩
set_option maxHeartbeats 1000000 in
theorem c_rUnits (hT : TabOk P tab) (v : Int) (F : List (List Int)) (hF : F.length ≤ 1000) (hc : ∀ c ∈ F, c.length ≤ 1000) :
    Pure P G n_proofmarkref05_Units [fml v F] fun u => u = if right v F then (match units F with | none => .tup [row [], .bool false] | some l => .tup [row l, .bool true]) else .tup [row [], .bool false] := by
  refine Pure_frz (fun t0 => ?_) (by cases right v F <;> cases units F <;> simp [nameless, namelessL, nameless_row])
  have hR := c_rRight (P := P) (G := G) hT v F (by omega) (fun c h => by have := hc c h; omega)
  simp only [fml, rows] at hR ⊢
  have h0 : Wk (.tup [.lst 0 [] true, .bool false]) (.tup [row [], .bool false]) := .tup _ _ (.cons _ _ _ _ (wk_row0 _) (.cons _ _ _ _ (.refl _) .nil))
  refine C_tab hT t_proofmarkref05_Units (by simp [proofmarkref05_Units]) (W_run 1000 ?_)
  simp -implicitDefEqProofs (disch := omega) only [go_sem, ↓reduceIte, reduceCtorEq, Nat.reduceAdd, Nat.reduceEqDiff, Nat.zero_add, Nat.le_refl, proofmarkref05_Units, zqc_0, zqc_1, zqc_2, zqc_3, zqc_4, zqc_5, zqc_6, zqc_7, zqc_8, zqc_9, zqc_10, zqc_11, zqc_12, zqc_13, zqc_14, zqc_15, zqc_16, zqc_17, zqc_18, zqc_19, zqc_20, zqc_21, zqc_22, zqc_23, zqc_24, zqc_25, zqc_26, zqc_27, zqc_28, zqc_29, zqc_30, zqc_31, false_implies, and_true, List.length_cons]
  refine callPS hT t_proofmarkref05_Right hR (by simp [namelessL, nameless]) 1000 ?_
  cases hr : right v F with
  | false =>
    simp -implicitDefEqProofs (disch := omega) only [go_sem, ↓reduceIte, reduceCtorEq, Nat.reduceEqDiff, Bool.not_false, true_and, Bool.not_false]
    exact .inl h0
  | true =>
    have hrt := (right_iff.1 hr)
    have hz := right_nz hr
    have hrb : ∀ c ∈ F, ∀ n ∈ c, -16777216 ≤ n ∧ n ≤ 16777216 := fun c h n hn => by have := hrt.2 c h n hn; omega
    simp -implicitDefEqProofs (disch := omega) only [go_sem, ↓reduceIte, reduceCtorEq, Nat.reduceEqDiff, Bool.not_true, Bool.not_true]
    refine sem_shift (Shift.own (s := 4) (z := 0) (sz := 1) (T := 3) (by simp -implicitDefEqProofs (disch := omega) only [go_sem, ↓reduceIte, reduceCtorEq, Nat.reduceEqDiff]) (by decide)) ?_
    simp -implicitDefEqProofs (disch := omega) only [go_sem, ↓reduceIte, reduceCtorEq, Nat.reduceEqDiff, Nat.zero_add, H.push, List.length_cons, List.length_nil, List.cons_append, List.nil_append]
    refine sem_invE (r0J t0 v F) (r0E t0 v F) (m0 := F.flatten.length + 2) ⟨[], F.flatten.length + 1, t0 + 1 + 1, t0 + 1, true, inv_nil F, .inl ⟨rfl, rfl, by simp, rfl⟩, ?_⟩ (fun m fr σ hJ => r0_round hT hF hc hz hrb hJ) (fun e fr σ hE => ?_)
    · simp -implicitDefEqProofs (disch := omega) only [go_sem, ↓reduceIte, reduceCtorEq, Nat.reduceEqDiff, uR0, true_and, List.length_nil]
      simp [ints]
    · rcases hE with ⟨rfl, hno, f2, f3⟩ | ⟨S, t, tw, rfl, hSo, f4, rfl⟩
      · refine run_sem 1000 ?_
        have hu : units F = none := by rw [units, hno]; rfl
        simp -implicitDefEqProofs (disch := omega) only [go_sem, true_and, f2, f3, hu]
        exact .inl h0
      · obtain ⟨hI, hm⟩ := foundU_some hz hSo
        have hu : units F = some (sortV S) := by rw [units, hSo]; rfl
        have hSl : S.length ≤ 1000000 := by
          have h1 := hI.len
          have h2 := flat_len hc
          have h3 : F.length * 1000 ≤ 1000 * 1000 := Nat.mul_le_mul_right _ hF
          omega
        have hb : ∀ s ∈ S, -16777216 ≤ s ∧ s ≤ 16777216 := fun s hs => by
          obtain ⟨c, hc, hnc⟩ := (hI.up s hs).in
          exact hrb c hc s hnc
        refine sem_exit [(4, .sl 1 tw 0 1 S.length none)] ⟨f4, trivial⟩ 1000 ?_
        simp -implicitDefEqProofs (disch := omega) only [go_sem, ↓reduceIte, Nat.reduceEqDiff, uR0]
        refine sem_for S (r3J t t0 tw v F S) (r3E t t0 tw v F S) ⟨[], rfl, .nil, by simp, ?_⟩ (fun i n ha fr σ hJ => r3_round hT hI.once hb hSl ha hJ) (fun i hi fr σ hJ => ?_) (fun e fr σ hE => ?_)
        · simp -implicitDefEqProofs (disch := omega) only [go_sem, ↓reduceIte, Nat.reduceEqDiff, uR0, true_and, and_true]
          simp
        · obtain ⟨l, hli, hs, hm, f4, f11, rfl⟩ := hJ
          rw [hi, List.take_length] at hm
          have hl := sortV_is hI.once hs hm
          have hd : l ++ S.drop i = sortV S := by rw [hi, List.drop_length, List.append_nil, hl]
          rw [hd]
          refine W_round [(4, .sl 1 tw 0 1 S.length none), (11, .int .i64 ((i : Nat) : Int))] ⟨f4, f11, trivial⟩  1000 ?_
          simp -implicitDefEqProofs (disch := omega) only [go_sem, ↓reduceIte, Nat.reduceEqDiff, decide_false, uR0, hi, Nat.lt_irrefl]
          exact ⟨rfl, rfl, rfl⟩
        · obtain ⟨rfl, f4, rfl⟩ := hE
          refine sem_exit [(4, .sl 1 tw 0 1 S.length none)] ⟨f4, trivial⟩ 1000 ?_
          simp -implicitDefEqProofs (disch := omega) only [go_sem, ↓reduceIte, Nat.reduceEqDiff, uR0, hu]
          have hfr := frz_row (k := 1) (w := tw) (T := 0) (l := sortV S)
          rw [sortV_length] at hfr
          refine ⟨1, tw, _, ints (sortV S), rfl, ints_nameless _, ?_, ?_⟩
          · simp only [frzV, frzL] at hfr ⊢
            rw [hfr]
            simp [nameless, namelessL, nameless_row]
          · simp only [frzV, frzL] at hfr ⊢
            rw [hfr]
            exact .refl _
end Go.Proofs.YtingdebioipemaaDoor
/- The law ClauseUnits. -/
namespace Go.Proofs.YtingdebioipemaaDoor
open Go Go.Am Go.Cl
set_option maxRecDepth 100000
variable {G : Nat → Option V}
theorem srt_len {V : Int} : ∀ {l : List Int} {lo : Int}, Srt l → (∀ n ∈ l, lo < av n ∧ av n ≤ V) → lo ≤ V → (l.length : Int) ≤ V - lo
  | [], _, _, _, h => by simp; omega
  | a :: l, lo, hs, hb, _ => by
    have hs' := List.pairwise_cons.1 hs
    have ha := hb a (by simp)
    have := srt_len (l := l) (lo := av a) hs'.2 (fun n hn => ⟨hs'.1 n hn, (hb n (by simp [hn])).2⟩) ha.2
    simp only [List.length_cons]
    omega
theorem units_len {v : Int} {F : List (List Int)} (hr : right v F = true) {l : List Int} (h : units F = some l) : l.length ≤ 16777216 := by
  obtain ⟨hs, hm⟩ := units_some (right_nz hr) h
  obtain ⟨h1, h2⟩ := right_iff.1 hr
  have := srt_len (V := v) (lo := 0) hs (fun n hn => by
    obtain ⟨c, hc, hnc⟩ := ((hm n).1 hn).in
    have := h2 c hc n hnc
    unfold av; split <;> omega) (by omega)
  omega
theorem units_form (v : Int) (F : List (List Int)) : ∃ l b, ((right v F = false ∧ l = [] ∧ b = false) ∨ (right v F = true ∧ units F = none ∧ l = [] ∧ b = false) ∨ (right v F = true ∧ units F = some l ∧ b = true)) ∧ l.length ≤ 16777216 := by
  cases hr : right v F with
  | false => exact ⟨[], false, .inl ⟨rfl, rfl, rfl⟩, by simp⟩
  | true =>
    cases hu : units F with
    | none => exact ⟨[], false, .inr (.inl ⟨rfl, rfl, rfl, rfl⟩), by simp⟩
    | some l => exact ⟨l, true, .inr (.inr ⟨rfl, rfl, rfl⟩), units_len hr hu⟩
theorem assign_form (v : Int) (F : List (List Int)) (L : List Int) (hF : F.length ≤ 1000) (hc : ∀ c ∈ F, c.length ≤ 1000) : ∃ w A b, assignV v F L = .tup [fml w A, .bool b] ∧ A.length ≤ 1000 ∧ ∀ c ∈ A, c.length ≤ 1000 := by
  unfold assignV
  split
  · refine ⟨v, assign F L, true, rfl, ?_, fun c h => ?_⟩
    · unfold assign
      have := List.length_filter_le (fun c : List Int => !c.any fun n => decide (n ∈ L)) F
      simp only [List.length_map]; omega
    · unfold assign at h
      obtain ⟨d, hd, rfl⟩ := List.mem_map.1 h
      have h1 := hc d (List.mem_filter.1 hd).1
      unfold assignC
      have := List.length_filter_le (fun n => !decide (-n ∈ L)) d
      omega
  · exact ⟨0, [], false, rfl, by simp, by simp⟩
theorem c_ClauseUnits (hT : TabOk Tryd.prog tab) (K : BufK Tryd.prog) (It : ItoaK Tryd.prog G) (v : Int) (F : List (List Int)) (L : List Int) (hF : F.length ≤ 9223372036854775807) (hFc : ∀ c ∈ F, c.length ≤ 9223372036854775807) (hL : L.length ≤ 9223372036854775807) (hb : ∀ n ∈ L, -9223372036854775808 ≤ n ∧ n ≤ 9223372036854775807) :
    Am.Pure Tryd.prog G n_proofmarklaw05_ClauseUnits [fml v F, row L] fun u => u = .bool true := by
  have hW := c_works (G := G) hT K It
  have hf := c_few5 (P := Tryd.prog) (G := G) hT v F 60 (by omega) hF hFc
  have hp := c_plain (P := Tryd.prog) (G := G) hT v F
  have nF : namelessL [fml v F] = true := by simp [fml, rows, namelessL, nameless]
  have nFL : namelessL [fml v F, row L] = true := by simp [fml, rows, row, namelessL, nameless]
  have nF60 : namelessL [fml v F, .int .i64 60] = true := by simp [fml, rows, namelessL, nameless]
  intro t
  simp only [fml, rows, row] at hf hp nF nFL nF60 ⊢
  refine C_keep 0 (Nat.zero_le _) (C_tab hT t_proofmarklaw05_ClauseUnits (by simp [proofmarklaw05_ClauseUnits]) (W_run 1000 ?_))
  simp -implicitDefEqProofs (disch := omega) only [go_sem, ↓reduceIte, reduceCtorEq, Nat.reduceAdd, Nat.reduceEqDiff, Nat.zero_add, Nat.le_refl, proofmarklaw05_ClauseUnits, zq1_0, zq1_1, zq1_2, zq1_3, zq1_4, zq1_5, zq1_6, zq1_7, zq1_8]
  refine callPS hT t_proofmarklaw05_few hf nF60 4 ?_
  cases h1 : few5 F 60 with
  | false =>
    simp -implicitDefEqProofs (disch := omega) only [go_sem, ↓reduceIte, reduceCtorEq, Nat.reduceEqDiff, Bool.not_false, Bool.not_false]
    iterate 9 (try (refine run_sem 4 ?_; simp -implicitDefEqProofs (disch := omega) only [go_sem, ↓reduceIte, reduceCtorEq, Nat.reduceEqDiff]))
    refine callPS hT t_proofmarklaw05_works hW rfl 4 ?_
    simp -implicitDefEqProofs (disch := omega) only [go_sem, ↓reduceIte, reduceCtorEq, Nat.reduceEqDiff]
    iterate 4 (try (refine run_sem 4 ?_; simp -implicitDefEqProofs (disch := omega) only [go_sem, ↓reduceIte, reduceCtorEq, Nat.reduceEqDiff, Nat.zero_add, Nat.zero_le]))
  | true =>
    rcases Nat.lt_or_ge 30 L.length with h2 | h2
    · have h2' : decide ((30 : Int) < (L.length : Int)) = true := decide_eq_true (by omega)
      have h2'' : (30 : Int) < (L.length : Int) := by omega
      simp -implicitDefEqProofs (disch := omega) only [go_sem, ↓reduceIte, reduceCtorEq, Nat.reduceAdd, Nat.reduceEqDiff, Nat.zero_add, Bool.not_true, ints_length, Bool.not_true]
      iterate 9 (try (refine run_sem 4 ?_; simp -implicitDefEqProofs (disch := omega) only [go_sem, ↓reduceIte, reduceCtorEq, Nat.reduceAdd, Nat.reduceEqDiff, decide_true, gt_iff_lt, h2'']))
      refine callPS hT t_proofmarklaw05_works hW rfl 4 ?_
      simp -implicitDefEqProofs (disch := omega) only [go_sem, ↓reduceIte, reduceCtorEq, Nat.reduceEqDiff]
      iterate 4 (try (refine run_sem 4 ?_; simp -implicitDefEqProofs (disch := omega) only [go_sem, ↓reduceIte, reduceCtorEq, Nat.reduceEqDiff, Nat.zero_add, Nat.zero_le]))
    · have h2' : decide ((30 : Int) < (L.length : Int)) = false := decide_eq_false (by omega)
      have h2'' : ¬ (30 : Int) < (L.length : Int) := by omega
      have hfw : F.length ≤ 60 ∧ ∀ c ∈ F, c.length ≤ 30 := by
        unfold few5 at h1
        simp only [Bool.and_eq_true, decide_eq_true_eq, List.all_eq_true] at h1
        exact h1
      have hA := c_Assign (P := Tryd.prog) (G := G) hT v F L (by omega) (fun c h => by have := hfw.2 c h; omega) (by omega) hb
      have hA2 := c_rAssign (P := Tryd.prog) (G := G) hT v F L (by omega) (fun c h => by have := hfw.2 c h; omega) (by omega) hb
      have hU := c_Units (P := Tryd.prog) (G := G) hT sortU v F (by omega) (fun c h => by have := hfw.2 c h; omega)
      have hU2 := c_rUnits (P := Tryd.prog) (G := G) hT v F (by omega) (fun c h => by have := hfw.2 c h; omega)
      obtain ⟨w, A, b, ea, la, lc⟩ := assign_form v F L (by omega) (fun c h => by have := hfw.2 c h; omega)
      obtain ⟨l, b2, eu, lu⟩ := units_form v F
      rw [assignR_V, ea] at hA2
      rw [ea] at hA
      replace hU : Am.Pure Tryd.prog G n_clause_Units [fml v F] fun u => u = .tup [row l, .bool b2] := by
        rcases eu with ⟨e1, rfl, rfl⟩ | ⟨e1, e2, rfl, rfl⟩ | ⟨e1, e2, rfl⟩
        · simpa [e1] using hU
        · simpa [e1, e2] using hU
        · simpa [e1, e2] using hU
      replace hU2 : Am.Pure Tryd.prog G n_proofmarkref05_Units [fml v F] fun u => u = .tup [row l, .bool b2] := by
        rcases eu with ⟨e1, rfl, rfl⟩ | ⟨e1, e2, rfl, rfl⟩ | ⟨e1, e2, rfl⟩
        · simpa [e1] using hU2
        · simpa [e1, e2] using hU2
        · simpa [e1, e2] using hU2
      have hS := c_same5 (P := Tryd.prog) (G := G) hT w w A A (by omega) (by omega) (fun c h => by have := lc c h; omega) (fun c h => by have := lc c h; omega)
      have hI := c_SameInts (P := Tryd.prog) (G := G) hT l l (by omega) (by omega)
      have nA : namelessL [fml w A, fml w A] = true := by simp [fml, rows, namelessL, nameless]
      have nl : namelessL [row l, row l] = true := by simp [row, namelessL, nameless]
      have eb : (b == b) = true := by simp
      have eb2 : (b2 == b2) = true := by simp
      simp only [and_self, decide_true] at hS hI
      simp only [fml, rows, row] at hA hA2 hU hU2 hS hI nA nl
      simp -implicitDefEqProofs (disch := omega) only [go_sem, ↓reduceIte, reduceCtorEq, Nat.reduceAdd, Nat.reduceEqDiff, Nat.zero_add, Bool.not_true, ints_length, Bool.not_true]
      iterate 9 (try (refine run_sem 4 ?_; simp -implicitDefEqProofs (disch := omega) only [go_sem, ↓reduceIte, reduceCtorEq, Nat.reduceAdd, Nat.reduceEqDiff, Nat.zero_add, decide_false, Nat.le_refl, gt_iff_lt, false_implies, and_true, h2'']))
      refine callPS hT t_proofmarklaw05_plain hp nF 40 ?_
      simp -implicitDefEqProofs (disch := omega) only [go_sem, ↓reduceIte, reduceCtorEq, Nat.reduceAdd, Nat.reduceEqDiff, Nat.zero_add, Bool.not_false, Nat.le_refl, Nat.zero_le, false_implies, and_true, Bool.not_false]
      refine callPS hT t_clause_Assign hA nFL 40 ?_
      simp -implicitDefEqProofs (disch := omega) only [go_sem, ↓reduceIte, reduceCtorEq, Nat.reduceAdd, Nat.reduceEqDiff, Nat.reduceLT, Nat.zero_add, Bool.not_false, Nat.le_refl, Nat.zero_le, false_implies, and_true, Bool.not_false]
      refine callPS hT t_proofmarkref05_Assign hA2 nFL 40 ?_
      simp -implicitDefEqProofs (disch := omega) only [go_sem, ↓reduceIte, reduceCtorEq, Nat.reduceAdd, Nat.reduceEqDiff, Nat.reduceLT, Nat.zero_add, Bool.not_false, Nat.le_refl, Nat.zero_le, false_implies, and_true, Bool.not_false]
      refine callPS hT t_clause_Units hU nF 40 ?_
      simp -implicitDefEqProofs (disch := omega) only [go_sem, ↓reduceIte, reduceCtorEq, Nat.reduceAdd, Nat.reduceEqDiff, Nat.reduceLT, Nat.zero_add, Nat.le_refl, false_implies, and_true]
      refine callPS hT t_proofmarkref05_Units hU2 nF 4 ?_
      simp -implicitDefEqProofs (disch := omega) only [go_sem, ↓reduceIte, reduceCtorEq, Nat.reduceAdd, Nat.reduceEqDiff, Nat.reduceLT, Nat.zero_add]
      iterate 9 (try (refine run_sem 4 ?_; simp -implicitDefEqProofs (disch := omega) only [go_sem, ↓reduceIte, reduceCtorEq, Nat.reduceAdd, Nat.reduceEqDiff, Nat.zero_add, Nat.le_refl, beq_self_eq_true, false_implies, and_true]))
      refine callPS hT t_proofmarklaw05_same hS nA 4 ?_
      simp -implicitDefEqProofs (disch := omega) only [go_sem, ↓reduceIte, reduceCtorEq, Nat.reduceAdd, Nat.reduceEqDiff, Nat.zero_add]
      iterate 9 (try (refine run_sem 4 ?_; simp -implicitDefEqProofs (disch := omega) only [go_sem, ↓reduceIte, reduceCtorEq, Nat.reduceAdd, Nat.reduceEqDiff, Nat.zero_add, beq_self_eq_true]))
      refine callPS hT t_proofmarkkit_SameInts hI nl 4 ?_
      simp -implicitDefEqProofs (disch := omega) only [go_sem, ↓reduceIte, reduceCtorEq, Nat.reduceAdd, Nat.reduceEqDiff]
      iterate 9 (try (refine run_sem 4 ?_; simp -implicitDefEqProofs (disch := omega) only [go_sem, need_of, ↓reduceIte, reduceCtorEq, Nat.reduceAdd, Nat.reduceEqDiff, Nat.reduceLeDiff, Nat.reduceLT, Nat.reduceSub, Nat.reduceMul, Int.reduceToNat, Int.reduceLE, Int.reduceLT, Int.reduceEq, Int.reduceNe, Nat.succ_ne_zero, Nat.zero_add, Nat.add_zero, Nat.mul_one, Nat.one_mul, Nat.zero_mul, decide_true, decide_false, Bool.not_true, Bool.not_false, Nat.le_refl, Nat.zero_le, ge_iff_le, gt_iff_lt, Nat.reduceBEq, Nat.reduceBNe, beq_self_eq_true, bne_self_eq_false, Option.isSome_some, Option.isSome_none, Option.getD_some, Option.getD_none, proofmarklaw05_ClauseUnits, zq1_0, zq1_1, zq1_2, zq1_3, zq1_4, zq1_5, zq1_6, zq1_7, zq1_8, List.length_map, ints_length, false_implies, true_implies, true_and, and_true, not_true_eq_false, not_false_eq_true, Int.reduceBEq, Int.reduceBNe, Bool.not_true, Bool.not_false]))
      refine callPS hT t_proofmarklaw05_works hW rfl 4 ?_
      simp -implicitDefEqProofs (disch := omega) only [go_sem, ↓reduceIte, reduceCtorEq, Nat.reduceEqDiff]
      iterate 4 (try (refine run_sem 4 ?_; simp -implicitDefEqProofs (disch := omega) only [go_sem, ↓reduceIte, reduceCtorEq, Nat.reduceAdd, Nat.reduceEqDiff, Nat.zero_add, Nat.zero_le, and_true]))
end Go.Proofs.YtingdebioipemaaDoor
