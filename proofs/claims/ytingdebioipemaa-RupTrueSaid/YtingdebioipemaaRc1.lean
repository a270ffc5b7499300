/- Contracts: the document's side of clauses, the small functions. -/
import Derived.Test.YtingdebioipemaaCw17
import Derived.Test.YtingdebioipemaaClE
import Derived.Test.YtingdebioipemaaAmD
namespace Go.Proofs.Ytingdebioipemaa
open Go Go.Am Go.Cl
set_option maxRecDepth 100000
variable {P : Program} {G : Nat → Option V}

theorem at_ints {l : List Int} {i : Nat} {a : Int} (h : l[i]? = some a) (hl : l.length ≤ 9223372036854775807) : i < l.length ∧ (ints l).getD i V.any = .int .i64 a ∧ IntKind.i64.wrap ((i : Int) + 1) = ((i + 1 : Nat) : Int) :=
  have hlt := (List.getElem?_eq_some_iff.1 h).1
  ⟨hlt, ints_getD h, wnext hlt hl⟩
theorem at_rows {F : List (List Int)} {i : Nat} {c : List Int} (h : F[i]? = some c) (hl : F.length ≤ 9223372036854775807) : i < F.length ∧ (F.map row).getD i V.any = .lst 1 (ints c) false ∧ IntKind.i64.wrap ((i : Int) + 1) = ((i + 1 : Nat) : Int) :=
  have hlt := (List.getElem?_eq_some_iff.1 h).1
  ⟨hlt, rows_getD h, wnext hlt hl⟩

theorem c_has (hT : TabOk P tab) (l : List Int) (n : Int) (hl : l.length ≤ 9223372036854775807) : Pure P G n_proofmarkref05_has [row l, .int .i64 n] fun u => u = .bool (decide (n ∈ l)) := by
  intro t
  simp only [row]
  refine C_keep 0 (Nat.zero_le _) (C_tab hT t_proofmarkref05_has (by simp [proofmarkref05_has]) (W_run 1000 ?_))
  simp -implicitDefEqProofs (disch := omega) only [go_sem, ↓reduceIte, reduceCtorEq, Nat.reduceEqDiff, Nat.zero_add, proofmarkref05_has, proofmarkref05_has_r0, proofmarkref05_has_r1, proofmarkref05_has_r2, proofmarkref05_has_r3, proofmarkref05_has_r4, proofmarkref05_has_r5, proofmarkref05_has_r6]
  refine sem_for l (fun i fr σ => (∀ x ∈ l.take i, x ≠ n) ∧ fget fr 0 = .lst 1 (ints l) false ∧ fget fr 1 = .int .i64 n ∧ fget fr 5 = .int .i64 ((i : Nat) : Int) ∧ σ = ⟨t, []⟩) (fun e fr σ => (e = .ret ∧ fget fr 4 = .bool true ∧ n ∈ l) ∨ (e = .ex 0 ∧ n ∉ l)) ⟨by simp, ?_⟩ (fun i a ha fr σ hJ => ?_) (fun i hi fr σ hJ => ?_) (fun e fr σ hE => ?_)
  · simp -implicitDefEqProofs (disch := omega) only [go_sem, ↓reduceIte, reduceCtorEq, Nat.reduceEqDiff, true_and, and_true]
    simp
  · obtain ⟨hno, f0, f1, f5, rfl⟩ := hJ
    obtain ⟨hlt, hD, e2⟩ := at_ints ha hl
    by_cases han : a = n
    · have hm : n ∈ l := han ▸ List.mem_of_getElem? ha
      have hb : (a == n) = true := by simp [han]
      refine W_round [(0, .lst 1 (ints l) false), (1, .int .i64 n), (5, .int .i64 ((i : Nat) : Int))] ⟨f0, f1, f5, trivial⟩  1000 ?_
      simp -implicitDefEqProofs (disch := omega) only [go_sem, need_of, ↓reduceIte, reduceCtorEq, Nat.reduceEqDiff, Nat.zero_add, decide_true, Nat.le_refl, ints_length, true_implies, true_and, and_true, hlt, hD, hb]
      exact hm
    · have hb : (a = n) = False := eq_false han
      have hts := take_snoc ha
      refine W_round [(0, .lst 1 (ints l) false), (1, .int .i64 n), (5, .int .i64 ((i : Nat) : Int))] ⟨f0, f1, f5, trivial⟩  1000 ?_
      simp -implicitDefEqProofs (disch := omega) only [go_sem, need_of, ↓reduceIte, reduceCtorEq, Nat.reduceEqDiff, Nat.zero_add, decide_true, Nat.le_refl, ints_length, false_implies, true_implies, true_and, and_true, not_false_eq_true, hlt, hD, hb]
      refine ⟨_, _, Shift.refl _ _ _ _, fun x hx => ?_, ?_⟩
      · rw [hts, List.mem_append] at hx
        rcases hx with hx | hx
        · exact hno x hx
        · simp at hx; subst hx; exact han
      · simp -implicitDefEqProofs (disch := omega) only [go_sem, ↓reduceIte, reduceCtorEq, Nat.reduceEqDiff, and_true, e2]
  · obtain ⟨hno, f0, f1, f5, rfl⟩ := hJ
    rw [hi, List.take_length] at hno
    refine W_round [(0, .lst 1 (ints l) false), (1, .int .i64 n), (5, .int .i64 ((i : Nat) : Int))] ⟨f0, f1, f5, trivial⟩  1000 ?_
    simp -implicitDefEqProofs (disch := omega) only [go_sem, ↓reduceIte, reduceCtorEq, Nat.reduceEqDiff, decide_false, ints_length, true_and, hi, Nat.lt_irrefl]
    exact fun hm => hno n hm rfl
  · rcases hE with ⟨rfl, f4, hm⟩ | ⟨rfl, hm⟩
    · refine run_sem 1000 ?_
      simp -implicitDefEqProofs (disch := omega) only [go_sem, decide_true, Nat.zero_le, and_true, f4, hm]
    · refine run_sem 1000 ?_
      simp -implicitDefEqProofs (disch := omega) only [go_sem, ↓reduceIte, decide_false, Nat.zero_le, and_true, hm]
theorem c_lit (hT : TabOk P tab) (v n : Int) (hv : 0 ≤ v ∧ v ≤ 16777216) : Pure P G n_proofmarkref05_lit [.int .i64 n, .int .i64 v] fun u => u = .bool (litOk v n) := by
  intro t
  have hneg := wneg hv
  refine C_keep 0 (Nat.zero_le _) (C_tab hT t_proofmarkref05_lit (by simp [proofmarkref05_lit]) (W_run 12 ?_))
  by_cases h1 : n = 0
  · have hr : litOk v n = false := by simp [litOk, h1]
    simp -implicitDefEqProofs (disch := omega) only [go_sem, ↓reduceIte, reduceCtorEq, Nat.reduceEqDiff, Nat.zero_add, bne_self_eq_false, proofmarkref05_lit, proofmarkref05_lit_r0, proofmarkref05_lit_r1, h1]
    iterate 9 (try (refine run_sem 2 ?_; simp -implicitDefEqProofs (disch := omega) only [go_sem, ↓reduceIte, reduceCtorEq, Nat.reduceEqDiff, Nat.le_refl, true_and]))
    rw [← hr, h1]
  · have h1' : (n = 0) = False := eq_false h1
    by_cases h2 : -v ≤ n
    · have h2' : decide (-v ≤ n) = true := by simpa using h2
      by_cases h3 : n ≤ v
      · have hr : litOk v n = true := by simp [litOk, h1, h2, h3]
        simp -implicitDefEqProofs (disch := omega) only [go_sem, ↓reduceIte, reduceCtorEq, Nat.reduceAdd, Nat.reduceEqDiff, Nat.zero_add, proofmarkref05_lit, proofmarkref05_lit_r0, proofmarkref05_lit_r1, false_implies, true_implies, and_true, not_false_eq_true, h1', hneg]
        iterate 9 (try (refine run_sem 2 ?_; simp -implicitDefEqProofs (disch := omega) only [go_sem, ↓reduceIte, reduceCtorEq, Nat.reduceAdd, Nat.reduceEqDiff, Nat.zero_add, decide_true, Nat.le_refl, ge_iff_le, true_and, h2, h3]))
        rw [hr]
      · have hr : litOk v n = false := by simp [litOk, h3]
        simp -implicitDefEqProofs (disch := omega) only [go_sem, ↓reduceIte, reduceCtorEq, Nat.reduceAdd, Nat.reduceEqDiff, Nat.zero_add, proofmarkref05_lit, proofmarkref05_lit_r0, proofmarkref05_lit_r1, false_implies, true_implies, and_true, not_false_eq_true, h1', hneg]
        iterate 9 (try (refine run_sem 2 ?_; simp -implicitDefEqProofs (disch := omega) only [go_sem, ↓reduceIte, reduceCtorEq, Nat.reduceAdd, Nat.reduceEqDiff, Nat.zero_add, decide_true, decide_false, Nat.le_refl, ge_iff_le, true_and, h2, h3]))
        rw [hr]
    · have hr : litOk v n = false := by simp [litOk, h2]
      simp -implicitDefEqProofs (disch := omega) only [go_sem, ↓reduceIte, reduceCtorEq, Nat.reduceAdd, Nat.reduceEqDiff, Nat.zero_add, proofmarkref05_lit, proofmarkref05_lit_r0, proofmarkref05_lit_r1, false_implies, true_implies, and_true, not_false_eq_true, h1', hneg]
      iterate 9 (try (refine run_sem 2 ?_; simp -implicitDefEqProofs (disch := omega) only [go_sem, ↓reduceIte, reduceCtorEq, Nat.reduceAdd, Nat.reduceEqDiff, decide_false, Nat.le_refl, ge_iff_le, true_and, h2]))
      rw [hr]
end Go.Proofs.Ytingdebioipemaa
