/- Contracts: the document's side of clauses: what follows by clauses of one literal; a clause gone through. -/
import Derived.Test.YtingdebioipemaaRc4
namespace Go.Proofs.Ytingdebioipemaa
open Go Go.Am Go.Cl
set_option maxRecDepth 100000
variable {P : Program} {G : Nat → Option V}

def uR (tf tw tl : Nat) (v : Int) (F : List (List Int)) (S L : List Int) : List (Option Ob) :=
  [some (.arr tf 28 [.int .i64 v, .lst 1 (F.map row) false]), some (.arr tw 3 (ints S)), some (.arr tl 3 (ints L))]
abbrev rkJ (tf tw : Nat) (v : Int) (F : List (List Int)) (S c : List Int) (ag : Bool) (i : Nat) : Nat → Fr → H → Prop := fun k fr σ => ∃ t tl L hd, L = leftR S (c.take k) ∧ hd = ((c.take k).any fun n => decide (n ∈ S)) ∧ fget fr 1 = .ptr 0 tf 0 ∧ fget fr 4 = .sl 1 tw 0 1 S.length none ∧ fget fr 5 = .bool ag ∧ fget fr 6 = .int .i64 ((i : Nat) : Int) ∧ fget fr 7 = .bool hd ∧ fget fr 8 = .sl 2 tl 0 1 L.length none ∧ fget fr 9 = .int .i64 ((k : Nat) : Int) ∧ σ = ⟨t, uR tf tw tl v F S L⟩
abbrev rkE (tf tw : Nat) (v : Int) (F : List (List Int)) (S c : List Int) (ag : Bool) (i : Nat) : AE → Fr → H → Prop := fun e fr σ => ∃ t tl L hd, e = .ex 4 ∧ L = leftR S c ∧ hd = (c.any fun n => decide (n ∈ S)) ∧ fget fr 1 = .ptr 0 tf 0 ∧ fget fr 4 = .sl 1 tw 0 1 S.length none ∧ fget fr 5 = .bool ag ∧ fget fr 6 = .int .i64 ((i : Nat) : Int) ∧ fget fr 7 = .bool hd ∧ fget fr 8 = .sl 2 tl 0 1 L.length none ∧ σ = ⟨t, uR tf tw tl v F S L⟩
set_option maxHeartbeats 2000000 in
theorem rk_round (hT : TabOk P tab) {tf tw : Nat} {v : Int} {F : List (List Int)} {S c : List Int} {ag : Bool} {i : Nat} (hci : F[i]? = some c) (hF : F.length ≤ 1000) (hcl : c.length ≤ 1000) (hSl : S.length ≤ 1000000) (hb : ∀ n ∈ c, -16777216 ≤ n ∧ n ≤ 16777216)
    {k : Nat} {n : Int} (hn : c[k]? = some n) {fr : Fr} {σ : H} (hJ : rkJ tf tw v F S c ag i k fr σ) :
    W P G 129 0 (AC.seq (AC.seq (AC.reg proofmarkref05_Units_r12 [24, 25, 26, 27, 28, 29, 30])   (AC.cond (Arg.t 31)   AC.skip   (AC.exit 4)))   (AC.seq (AC.block 5 (AC.seq (AC.reg proofmarkref05_Units_r13 [34, 35, 36, 37, 38, 39, 40, 41])   (AC.seq (AC.reg proofmarkref05_Units_r14 [42, 43, 44, 45, 46, 47])   (AC.seq (AC.reg proofmarkref05_Units_r15 [48, 49, 50, 51, 52, 53, 54, 55, 56, 57, 58, 59, 60, 61, 62, 63])   (AC.cond (Arg.t 64)   (AC.reg proofmarkref05_Units_r16 [65, 66, 67, 68])   AC.skip)))))   (AC.reg proofmarkref05_Units_r17 [32, 33]))) fr σ (seqQ (fun fr σ => ∃ fr' σ', Shift G 129 0 fr σ fr' σ' ∧ rkJ tf tw v F S c ag i (k + 1) fr' σ') (rkE tf tw v F S c ag i)) := by
  obtain ⟨t, tl, L, hd, hL, hhd, f1, f4, f5, f6, f7, f8, f9, rfl⟩ := hJ
  obtain ⟨hlt, hD, _⟩ := at_rows hci (by omega)
  obtain ⟨hlt2, hD2, e3⟩ := at_ints hn (by omega)
  have hts := take_snoc hn
  have hnm := List.mem_of_getElem? hn
  have hbn := hb n hnm
  have hneg : IntKind.i64.wrap (0 - n) = -n := by rw [wself (by omega)]; omega
  have hLl : L.length ≤ 1000 := by
    have := leftR_len (S := S) (c.take k)
    rw [hL]; rw [List.length_take] at this; omega
  have h1 := c_has (P := P) (G := G) hT S n (by omega)
  have h2 := c_has (P := P) (G := G) hT S (-n) (by omega)
  have h3 := c_has (P := P) (G := G) hT L n (by omega)
  have hhd2 : ((c.take (k + 1)).any fun n => decide (n ∈ S)) = (hd || decide (n ∈ S)) := by rw [hts, List.any_append, ← hhd]; simp
  have hL2 : leftR S (c.take (k + 1)) = if -n ∉ S ∧ n ∉ S ∧ n ∉ L then L ++ [n] else L := by rw [hts, leftR_snoc, ← hL]
  have hap : ints L ++ [V.int .i64 n] = ints (L ++ [n]) := by simp [ints]
  have hLn : L.length + 1 = (L ++ [n]).length := by simp
  simp only [row] at h1 h2 h3
  cases hd
  · cases g1 : decide (n ∈ S) <;> cases g2 : decide (-n ∈ S) <;> cases g3 : decide (n ∈ L) <;> rw [g1] at h1 hhd2 <;> rw [g2] at h2 <;> rw [g3] at h3 <;> simp only [Bool.or_false, Bool.or_true] at hhd2 <;> simp only [decide_eq_true_eq, decide_eq_false_iff_not] at g1 g2 g3 <;> simp only [g1, g2, g3, not_true_eq_false, not_false_eq_true, and_true, and_false, ↓reduceIte] at hL2
    all_goals (
      refine W_round [(1, .ptr 0 tf 0), (4, .sl 1 tw 0 1 S.length none), (5, .bool ag), (6, .int .i64 ((i : Nat) : Int)), (7, .bool false), (8, .sl 2 tl 0 1 L.length none), (9, .int .i64 ((k : Nat) : Int))] ⟨f1, f4, f5, f6, f7, f8, f9, trivial⟩  14 ?_
      simp -implicitDefEqProofs (disch := omega) only [go_sem, need_of, ↓reduceIte, Nat.reduceAdd, Nat.reduceEqDiff, Nat.zero_add, decide_true, Nat.le_refl, proofmarkref05_Units_r12, proofmarkref05_Units_r13, proofmarkref05_Units_r14, proofmarkref05_Units_r15, proofmarkref05_Units_r16, proofmarkref05_Units_r17, uR, List.length_map, ints_length, true_implies, and_true, hlt, hD, hlt2]
      iterate 9 (try (refine run_sem 4 ?_; simp -implicitDefEqProofs (disch := omega) only [go_sem, need_of, ↓reduceIte, Nat.reduceAdd, Nat.reduceEqDiff, Nat.zero_add, Nat.le_refl, List.length_map, ints_length, true_implies, and_true, hlt, hD, hlt2, hD2]))
      refine callView hT t_proofmarkref05_has h1 (.cons _ _ _ _ (seen_ints rfl) (.cons _ _ _ _ (.same _ rfl) .nil)) rfl 4 ?_
      simp -implicitDefEqProofs (disch := omega) only [go_sem, ↓reduceIte, Nat.reduceEqDiff]
      iterate 9 (try (refine run_sem 4 ?_; simp -implicitDefEqProofs (disch := omega) only [go_sem, ↓reduceIte, Nat.reduceEqDiff, hneg]))
      refine callView hT t_proofmarkref05_has h2 (.cons _ _ _ _ (seen_ints rfl) (.cons _ _ _ _ (.same _ rfl) .nil)) rfl 4 ?_
      simp -implicitDefEqProofs (disch := omega) only [go_sem, ↓reduceIte, Nat.reduceAdd, Nat.reduceEqDiff, Nat.zero_add, Bool.not_true, Bool.not_false, Bool.not_true, Bool.not_false]
      iterate 9 (try (refine run_sem 4 ?_; simp -implicitDefEqProofs (disch := omega) only [go_sem, ↓reduceIte, Nat.reduceAdd, Nat.reduceEqDiff]))
      try (refine callView hT t_proofmarkref05_has h1 (.cons _ _ _ _ (seen_ints rfl) (.cons _ _ _ _ (.same _ rfl) .nil)) rfl 4 ?_; simp -implicitDefEqProofs (disch := omega) only [go_sem, ↓reduceIte, Nat.reduceAdd, Nat.reduceEqDiff, Nat.zero_add, Bool.not_true, Bool.not_false, Bool.not_true, Bool.not_false]; iterate 9 (try (refine run_sem 4 ?_; simp -implicitDefEqProofs (disch := omega) only [go_sem, ↓reduceIte, Nat.reduceAdd, Nat.reduceEqDiff])))
      try (refine callView hT t_proofmarkref05_has h3 (.cons _ _ _ _ (seen_ints rfl) (.cons _ _ _ _ (.same _ rfl) .nil)) rfl 4 ?_; simp -implicitDefEqProofs (disch := omega) only [go_sem, ↓reduceIte, Nat.reduceAdd, Nat.reduceEqDiff, Bool.not_true, Bool.not_false, Bool.not_true, Bool.not_false]; iterate 9 (try (refine run_sem 4 ?_; simp -implicitDefEqProofs (disch := omega) only [go_sem, need_of, ↓reduceIte, reduceCtorEq, Nat.reduceEqDiff, Nat.reduceLeDiff, Nat.zero_add, Nat.mul_one, Bool.not_true, Nat.le_refl, Nat.zero_le, ints_length, true_and, and_true, Bool.not_true])))
      first | (refine ⟨_, _, Shift.refl _ _ _ _, t, tl, L, _, hL2.symm, hhd2.symm, ?_⟩; simp -implicitDefEqProofs (disch := omega) only [go_sem, ↓reduceIte, Nat.reduceEqDiff, uR, and_true, e3]; done) | (refine ⟨_, _, Shift.refl _ _ _ _, t + 1, t, L ++ [n], _, hL2.symm, hhd2.symm, ?_⟩; simp -implicitDefEqProofs (disch := omega) only [go_sem, ↓reduceIte, Nat.reduceEqDiff, Nat.zero_add, uR, and_true, e3, hap, List.length_append]; done))
  · cases g1 : decide (n ∈ S) <;> cases g2 : decide (-n ∈ S) <;> cases g3 : decide (n ∈ L) <;> rw [g1] at h1 hhd2 <;> rw [g2] at h2 <;> rw [g3] at h3 <;> simp only [Bool.or_false, Bool.or_true] at hhd2 <;> simp only [decide_eq_true_eq, decide_eq_false_iff_not] at g1 g2 g3 <;> simp only [g1, g2, g3, not_true_eq_false, not_false_eq_true, and_true, and_false, ↓reduceIte] at hL2
    all_goals (
      refine W_round [(1, .ptr 0 tf 0), (4, .sl 1 tw 0 1 S.length none), (5, .bool ag), (6, .int .i64 ((i : Nat) : Int)), (7, .bool true), (8, .sl 2 tl 0 1 L.length none), (9, .int .i64 ((k : Nat) : Int))] ⟨f1, f4, f5, f6, f7, f8, f9, trivial⟩  14 ?_
      simp -implicitDefEqProofs (disch := omega) only [go_sem, need_of, ↓reduceIte, Nat.reduceAdd, Nat.reduceEqDiff, Nat.zero_add, decide_true, Nat.le_refl, proofmarkref05_Units_r12, proofmarkref05_Units_r13, proofmarkref05_Units_r14, proofmarkref05_Units_r15, proofmarkref05_Units_r16, proofmarkref05_Units_r17, uR, List.length_map, ints_length, true_implies, and_true, hlt, hD, hlt2]
      iterate 9 (try (refine run_sem 4 ?_; simp -implicitDefEqProofs (disch := omega) only [go_sem, need_of, ↓reduceIte, Nat.reduceAdd, Nat.reduceEqDiff, Nat.zero_add, Nat.le_refl, List.length_map, ints_length, true_implies, and_true, hlt, hD, hlt2, hD2, hneg]))
      refine callView hT t_proofmarkref05_has h2 (.cons _ _ _ _ (seen_ints rfl) (.cons _ _ _ _ (.same _ rfl) .nil)) rfl 4 ?_
      simp -implicitDefEqProofs (disch := omega) only [go_sem, ↓reduceIte, Nat.reduceAdd, Nat.reduceEqDiff, Nat.zero_add, Bool.not_true, Bool.not_false, Bool.not_true, Bool.not_false]
      iterate 9 (try (refine run_sem 4 ?_; simp -implicitDefEqProofs (disch := omega) only [go_sem, ↓reduceIte, Nat.reduceAdd, Nat.reduceEqDiff]))
      try (refine callView hT t_proofmarkref05_has h1 (.cons _ _ _ _ (seen_ints rfl) (.cons _ _ _ _ (.same _ rfl) .nil)) rfl 4 ?_; simp -implicitDefEqProofs (disch := omega) only [go_sem, ↓reduceIte, Nat.reduceAdd, Nat.reduceEqDiff, Nat.zero_add, Bool.not_true, Bool.not_false, Bool.not_true, Bool.not_false]; iterate 9 (try (refine run_sem 4 ?_; simp -implicitDefEqProofs (disch := omega) only [go_sem, ↓reduceIte, Nat.reduceAdd, Nat.reduceEqDiff])))
      try (refine callView hT t_proofmarkref05_has h3 (.cons _ _ _ _ (seen_ints rfl) (.cons _ _ _ _ (.same _ rfl) .nil)) rfl 4 ?_; simp -implicitDefEqProofs (disch := omega) only [go_sem, ↓reduceIte, Nat.reduceAdd, Nat.reduceEqDiff, Bool.not_true, Bool.not_false, Bool.not_true, Bool.not_false]; iterate 9 (try (refine run_sem 4 ?_; simp -implicitDefEqProofs (disch := omega) only [go_sem, need_of, ↓reduceIte, reduceCtorEq, Nat.reduceEqDiff, Nat.reduceLeDiff, Nat.zero_add, Nat.mul_one, Bool.not_true, Nat.le_refl, Nat.zero_le, ints_length, true_and, and_true, Bool.not_true])))
      first | (refine ⟨_, _, Shift.refl _ _ _ _, t, tl, L, _, hL2.symm, hhd2.symm, ?_⟩; simp -implicitDefEqProofs (disch := omega) only [go_sem, ↓reduceIte, Nat.reduceEqDiff, uR, and_true, e3]; done) | (refine ⟨_, _, Shift.refl _ _ _ _, t + 1, t, L ++ [n], _, hL2.symm, hhd2.symm, ?_⟩; simp -implicitDefEqProofs (disch := omega) only [go_sem, ↓reduceIte, Nat.reduceEqDiff, Nat.zero_add, uR, and_true, e3, hap, List.length_append]; done))
end Go.Proofs.Ytingdebioipemaa
