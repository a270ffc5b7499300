/- Contracts: the document's side: right formulas; the same numbers. -/
import Derived.Test.YtpepmhmgfpkdmaaSw19
import Derived.Test.YtpepmhmgfpkdmaaAmD
namespace Go.Proofs.Ytpepmhmgfpkdmaa
open Go Go.Am Go.Cl
set_option maxRecDepth 100000
variable {P : Program} {G : Nat → Option V}

theorem at_ints {l : List Int} {i : Nat} {a : Int} (h : l[i]? = some a) (hl : l.length ≤ 9223372036854775807) : i < l.length ∧ (ints l).getD i V.any = .int .i64 a ∧ IntKind.i64.wrap ((i : Int) + 1) = ((i + 1 : Nat) : Int) :=
  have hlt := (List.getElem?_eq_some_iff.1 h).1
  ⟨hlt, ints_getD h, wnext hlt hl⟩
theorem at_rows {F : List (List Int)} {i : Nat} {c : List Int} (h : F[i]? = some c) (hl : F.length ≤ 9223372036854775807) : i < F.length ∧ (F.map row).getD i V.any = .lst 1 (ints c) false ∧ IntKind.i64.wrap ((i : Int) + 1) = ((i + 1 : Nat) : Int) :=
  have hlt := (List.getElem?_eq_some_iff.1 h).1
  ⟨hlt, rows_getD h, wnext hlt hl⟩

theorem c_lit (hT : TabOk P tab) (v n : Int) (hv : 0 ≤ v ∧ v ≤ 16777216) : Pure P G n_proofmarkref05_lit [.int .i64 n, .int .i64 v] fun u => u = .bool (litOk v n) := by
  intro t
  have hneg := wneg hv
  refine C_keep 0 (Nat.zero_le _) (C_tab hT t_proofmarkref05_lit (by simp [proofmarkref05_lit]) (W_run 12 ?_))
  by_cases h1 : n = 0
  · have hr : litOk v n = false := by simp [litOk, h1]
    simp -implicitDefEqProofs (disch := omega) only [go_sem, ↓reduceIte, reduceCtorEq, Nat.reduceEqDiff, Nat.zero_add, bne_self_eq_false, proofmarkref05_lit, proofmarkref05_lit_r0, proofmarkref05_lit_r1, h1]
    iterate 9 (try (refine run_sem 2 ?_; simp -implicitDefEqProofs (disch := omega) only [go_sem, ↓reduceIte, reduceCtorEq, Nat.reduceEqDiff, Nat.le_refl, true_and]))
    rw [← hr, h1]
  · have h1' : (n = 0) = False := eq_false h1
    by_cases h2 : -v ≤ n
    · have h2' : decide (-v ≤ n) = true := by simpa using h2
      by_cases h3 : n ≤ v
      · have hr : litOk v n = true := by simp [litOk, h1, h2, h3]
        simp -implicitDefEqProofs (disch := omega) only [go_sem, ↓reduceIte, reduceCtorEq, Nat.reduceAdd, Nat.reduceEqDiff, Nat.zero_add, proofmarkref05_lit, proofmarkref05_lit_r0, proofmarkref05_lit_r1, false_implies, true_implies, and_true, not_false_eq_true, h1', hneg]
        iterate 9 (try (refine run_sem 2 ?_; simp -implicitDefEqProofs (disch := omega) only [go_sem, ↓reduceIte, reduceCtorEq, Nat.reduceAdd, Nat.reduceEqDiff, Nat.zero_add, decide_true, Nat.le_refl, ge_iff_le, true_and, h2, h3]))
        rw [hr]
      · have hr : litOk v n = false := by simp [litOk, h3]
        simp -implicitDefEqProofs (disch := omega) only [go_sem, ↓reduceIte, reduceCtorEq, Nat.reduceAdd, Nat.reduceEqDiff, Nat.zero_add, proofmarkref05_lit, proofmarkref05_lit_r0, proofmarkref05_lit_r1, false_implies, true_implies, and_true, not_false_eq_true, h1', hneg]
        iterate 9 (try (refine run_sem 2 ?_; simp -implicitDefEqProofs (disch := omega) only [go_sem, ↓reduceIte, reduceCtorEq, Nat.reduceAdd, Nat.reduceEqDiff, Nat.zero_add, decide_true, decide_false, Nat.le_refl, ge_iff_le, true_and, h2, h3]))
        rw [hr]
    · have hr : litOk v n = false := by simp [litOk, h2]
      simp -implicitDefEqProofs (disch := omega) only [go_sem, ↓reduceIte, reduceCtorEq, Nat.reduceAdd, Nat.reduceEqDiff, Nat.zero_add, proofmarkref05_lit, proofmarkref05_lit_r0, proofmarkref05_lit_r1, false_implies, true_implies, and_true, not_false_eq_true, h1', hneg]
      iterate 9 (try (refine run_sem 2 ?_; simp -implicitDefEqProofs (disch := omega) only [go_sem, ↓reduceIte, reduceCtorEq, Nat.reduceAdd, Nat.reduceEqDiff, decide_false, Nat.le_refl, ge_iff_le, true_and, h2]))
      rw [hr]
def rfH (t : Nat) (v : Int) (F : List (List Int)) : List (Option Ob) := [some (.arr t 27 [.int .i64 v, .lst 1 (F.map row) false])]
theorem c_rRight (hT : TabOk P tab) (v : Int) (F : List (List Int)) (hF : F.length ≤ 9223372036854775807) (hc : ∀ c ∈ F, c.length ≤ 9223372036854775807) : Pure P G n_proofmarkref05_Right [fml v F] fun u => u = .bool (right v F) := by
  intro t
  simp only [fml, rows]
  refine C_keep 0 (Nat.zero_le _) (C_tab hT t_proofmarkref05_Right (by simp [proofmarkref05_Right]) (W_run 12 ?_))
  by_cases h1 : v < 0
  · have hr : right v F = false := by simp [right]; omega
    simp -implicitDefEqProofs (disch := omega) only [go_sem, ↓reduceIte, reduceCtorEq, Nat.reduceAdd, Nat.reduceEqDiff, Nat.reduceLeDiff, Nat.zero_add, Nat.add_zero, decide_true, proofmarkref05_Right, proofmarkref05_Right_r0, proofmarkref05_Right_r1, proofmarkref05_Right_r2, proofmarkref05_Right_r3, proofmarkref05_Right_r4, proofmarkref05_Right_r5, proofmarkref05_Right_r6, proofmarkref05_Right_r7, proofmarkref05_Right_r8, proofmarkref05_Right_r9, proofmarkref05_Right_r10, proofmarkref05_Right_r11, true_implies, and_true, h1]
    iterate 9 (try (refine run_sem 2 ?_; simp -implicitDefEqProofs (disch := omega) only [go_sem, ↓reduceIte, reduceCtorEq, Nat.reduceEqDiff]))
    try refine run_sem 9 ?_
    try simp -implicitDefEqProofs (disch := omega) only [go_sem, ↓reduceIte, reduceCtorEq, Nat.reduceEqDiff, Nat.zero_add, Nat.zero_le, true_and]
    rw [hr]
  by_cases h2 : v > 16777216
  · have hr : right v F = false := by simp [right]; omega
    simp -implicitDefEqProofs (disch := omega) only [go_sem, ↓reduceIte, reduceCtorEq, Nat.reduceAdd, Nat.reduceEqDiff, Nat.reduceLeDiff, Nat.zero_add, Nat.add_zero, decide_false, proofmarkref05_Right, proofmarkref05_Right_r0, proofmarkref05_Right_r1, proofmarkref05_Right_r2, proofmarkref05_Right_r3, proofmarkref05_Right_r4, proofmarkref05_Right_r5, proofmarkref05_Right_r6, proofmarkref05_Right_r7, proofmarkref05_Right_r8, proofmarkref05_Right_r9, proofmarkref05_Right_r10, proofmarkref05_Right_r11, true_implies, and_true, h1]
    iterate 9 (try (refine run_sem 2 ?_; simp -implicitDefEqProofs (disch := omega) only [go_sem, ↓reduceIte, reduceCtorEq, Nat.reduceAdd, Nat.reduceEqDiff, Nat.reduceLeDiff, Nat.zero_add, Nat.add_zero, decide_true, gt_iff_lt, true_implies, and_true, h2]))
    try refine run_sem 9 ?_
    try simp -implicitDefEqProofs (disch := omega) only [go_sem, ↓reduceIte, reduceCtorEq, Nat.reduceEqDiff, Nat.zero_add, Nat.zero_le, true_and]
    rw [hr]
  by_cases h3 : (F.length : Int) > 1048576
  · have hr : right v F = false := by simp [right]; omega
    simp -implicitDefEqProofs (disch := omega) only [go_sem, ↓reduceIte, reduceCtorEq, Nat.reduceAdd, Nat.reduceEqDiff, Nat.reduceLeDiff, Nat.zero_add, Nat.add_zero, decide_false, proofmarkref05_Right, proofmarkref05_Right_r0, proofmarkref05_Right_r1, proofmarkref05_Right_r2, proofmarkref05_Right_r3, proofmarkref05_Right_r4, proofmarkref05_Right_r5, proofmarkref05_Right_r6, proofmarkref05_Right_r7, proofmarkref05_Right_r8, proofmarkref05_Right_r9, proofmarkref05_Right_r10, proofmarkref05_Right_r11, true_implies, and_true, h1]
    iterate 9 (try (refine run_sem 2 ?_; simp -implicitDefEqProofs (disch := omega) only [go_sem, ↓reduceIte, reduceCtorEq, Nat.reduceAdd, Nat.reduceEqDiff, Nat.reduceLeDiff, Nat.zero_add, Nat.add_zero, decide_true, decide_false, Nat.le_refl, gt_iff_lt, List.length_map, true_implies, and_true, h2, h3]))
    try refine run_sem 9 ?_
    try simp -implicitDefEqProofs (disch := omega) only [go_sem, ↓reduceIte, reduceCtorEq, Nat.reduceEqDiff, Nat.zero_add, Nat.zero_le, true_and]
    rw [hr]
  simp -implicitDefEqProofs (disch := omega) only [go_sem, ↓reduceIte, reduceCtorEq, Nat.reduceAdd, Nat.reduceEqDiff, Nat.reduceLeDiff, Nat.zero_add, Nat.add_zero, decide_false, proofmarkref05_Right, proofmarkref05_Right_r0, proofmarkref05_Right_r1, proofmarkref05_Right_r2, proofmarkref05_Right_r3, proofmarkref05_Right_r4, proofmarkref05_Right_r5, proofmarkref05_Right_r6, proofmarkref05_Right_r7, proofmarkref05_Right_r8, proofmarkref05_Right_r9, proofmarkref05_Right_r10, proofmarkref05_Right_r11, true_implies, and_true, h1]
  iterate 9 (try (refine run_sem 2 ?_; simp -implicitDefEqProofs (disch := omega) only [go_sem, ↓reduceIte, reduceCtorEq, Nat.reduceAdd, Nat.reduceEqDiff, Nat.reduceLeDiff, Nat.zero_add, Nat.add_zero, decide_false, Nat.le_refl, gt_iff_lt, List.length_map, true_implies, and_true, h2, h3]))
  refine run_sem 40 ?_
  simp -implicitDefEqProofs (disch := omega) only [go_sem]
  have hv : 0 ≤ v ∧ v ≤ 16777216 := by omega
  refine sem_for F (fun i fr σ => (∀ c ∈ F.take i, c.all (litOk v) = true) ∧ fget fr 1 = .ptr 0 t 0 ∧ fget fr 3 = .int .i64 ((i : Nat) : Int) ∧ σ = ⟨t + 1, rfH t v F⟩)
    (fun e fr σ => (e = .ret ∧ fget fr 2 = .bool false ∧ right v F = false) ∨ (e = .ex 0 ∧ right v F = true)) ⟨by simp, ?_⟩ (fun i c hci fr σ hJ => ?_) (fun i hi fr σ hJ => ?_) (fun e fr σ hE => ?_)
  · simp -implicitDefEqProofs (disch := omega) only [go_sem, ↓reduceIte, reduceCtorEq, Nat.reduceEqDiff, rfH, true_and, and_true]
    simp
  · obtain ⟨hok, f1, f3, rfl⟩ := hJ
    obtain ⟨hlt, hD, e2⟩ := at_rows hci hF
    have hcm := List.mem_of_getElem? hci
    have hts := take_snoc hci
    refine W_round [(1, .ptr 0 t 0), (3, .int .i64 ((i : Nat) : Int))] ⟨f1, f3, trivial⟩  1000 ?_
    simp -implicitDefEqProofs (disch := omega) only [go_sem, ↓reduceIte, Nat.reduceAdd, Nat.reduceEqDiff, Nat.zero_add, decide_true, Nat.le_refl, rfH, List.length_map, true_implies, and_true, hlt]
    refine sem_for c (fun k fr σ => (∀ n ∈ c.take k, litOk v n = true) ∧ fget fr 1 = .ptr 0 t 0 ∧ fget fr 3 = .int .i64 ((i : Nat) : Int) ∧ fget fr 4 = .int .i64 ((k : Nat) : Int) ∧ σ = ⟨t + 1, rfH t v F⟩)
      (fun e fr σ => (e = .ret ∧ fget fr 2 = .bool false ∧ right v F = false) ∨ (e = .ex 2 ∧ c.all (litOk v) = true ∧ fget fr 1 = .ptr 0 t 0 ∧ fget fr 3 = .int .i64 ((i : Nat) : Int) ∧ σ = ⟨t + 1, rfH t v F⟩)) ⟨by simp, ?_⟩ (fun k n hnk fr σ hJ => ?_) (fun k hk fr σ hJ => ?_) (fun e fr σ hE => ?_)
    · simp -implicitDefEqProofs (disch := omega) only [go_sem, ↓reduceIte, Nat.reduceEqDiff, rfH, true_and, and_true]
      simp
    · obtain ⟨hok2, f1, f3, f4, rfl⟩ := hJ
      obtain ⟨hlt2, hD2, e3⟩ := at_ints hnk (hc c hcm)
      have hnm := List.mem_of_getElem? hnk
      have hts2 := take_snoc hnk
      have hL := c_lit (P := P) (G := G) hT v n hv
      refine W_round [(1, .ptr 0 t 0), (3, .int .i64 ((i : Nat) : Int)), (4, .int .i64 ((k : Nat) : Int))] ⟨f1, f3, f4, trivial⟩  1000 ?_
      simp -implicitDefEqProofs (disch := omega) only [go_sem, need_of, ↓reduceIte, Nat.reduceAdd, Nat.reduceEqDiff, Nat.reduceLeDiff, Nat.zero_add, Nat.add_zero, decide_true, Nat.le_refl, rfH, List.length_map, ints_length, true_implies, and_true, hlt, hD, hlt2, hD2]
      refine callPS hT t_proofmarkref05_lit hL rfl 1000 ?_
      cases hl : litOk v n with
      | false =>
        have hr : right v F = false := by
          have : F.all (fun c => c.all (litOk v)) = false := by
            rw [List.all_eq_false]
            exact ⟨c, hcm, by rw [Bool.not_eq_true, List.all_eq_false]; exact ⟨n, hnm, by simp [hl]⟩⟩
          simp [right, this]
        simp -implicitDefEqProofs (disch := omega) only [go_sem, ↓reduceIte, reduceCtorEq, Nat.reduceEqDiff, Bool.not_false, true_and, and_true]
        exact hr
      | true =>
        simp -implicitDefEqProofs (disch := omega) only [go_sem, ↓reduceIte, Nat.reduceEqDiff, Bool.not_true]
        refine ⟨_, _, Shift.refl _ _ _ _, fun x hx => ?_, ?_⟩
        · rw [hts2, List.mem_append] at hx
          rcases hx with hx | hx
          · exact hok2 x hx
          · simp at hx; subst hx; exact hl
        · simp -implicitDefEqProofs (disch := omega) only [go_sem, ↓reduceIte, Nat.reduceEqDiff, and_true, e3]
    · obtain ⟨hok2, f1, f3, f4, rfl⟩ := hJ
      rw [hk, List.take_length] at hok2
      refine W_round [(1, .ptr 0 t 0), (3, .int .i64 ((i : Nat) : Int)), (4, .int .i64 ((k : Nat) : Int))] ⟨f1, f3, f4, trivial⟩  1000 ?_
      simp -implicitDefEqProofs (disch := omega) only [go_sem, need_of, ↓reduceIte, reduceCtorEq, Nat.reduceAdd, Nat.reduceEqDiff, Nat.zero_add, decide_false, Nat.le_refl, rfH, List.length_map, ints_length, true_implies, true_and, and_true, hlt, hD, hk, Nat.lt_irrefl]
      exact List.all_eq_true.2 hok2
    · rcases hE with ⟨rfl, f2, hr⟩ | ⟨rfl, hcc, f1, f3, rfl⟩
      · refine run_sem 1000 ?_
        simp -implicitDefEqProofs (disch := omega) only [go_sem, and_true, f2, hr]
      · refine run_sem 1000 ?_
        simp -implicitDefEqProofs (disch := omega) only [go_sem, ↓reduceIte, rfH, f3]
        refine ⟨_, _, Shift.refl _ _ _ _, fun d hd => ?_, ?_⟩
        · rw [hts, List.mem_append] at hd
          rcases hd with hd | hd
          · exact hok d hd
          · simp at hd; subst hd; exact hcc
        · simp -implicitDefEqProofs (disch := omega) only [go_sem, ↓reduceIte, Nat.reduceEqDiff, and_true, f1, e2]
  · obtain ⟨hok, f1, f3, rfl⟩ := hJ
    rw [hi, List.take_length] at hok
    have hr : right v F = true := by
      have : F.all (fun c => c.all (litOk v)) = true := List.all_eq_true.2 hok
      simp [right, this]
      omega
    refine W_round [(1, .ptr 0 t 0), (3, .int .i64 ((i : Nat) : Int))] ⟨f1, f3, trivial⟩  1000 ?_
    simp -implicitDefEqProofs (disch := omega) only [go_sem, ↓reduceIte, reduceCtorEq, Nat.reduceAdd, Nat.reduceEqDiff, Nat.zero_add, decide_false, Nat.le_refl, rfH, List.length_map, true_implies, true_and, and_true, hi, Nat.lt_irrefl]
    exact hr
  · rcases hE with ⟨rfl, f2, hr⟩ | ⟨rfl, hr⟩
    · refine run_sem 1000 ?_
      simp -implicitDefEqProofs (disch := omega) only [go_sem, Nat.zero_le, and_true, f2, hr]
    · refine run_sem 1000 ?_
      simp -implicitDefEqProofs (disch := omega) only [go_sem, ↓reduceIte, Nat.zero_le, and_true, hr]
end Go.Proofs.Ytpepmhmgfpkdmaa

