/- Contracts: right formulas. -/
import Derived.Test.YtpepmhmgfpkdmaaTabB
import Derived.Test.YtpepmhmgfpkdmaaClC
import Derived.Test.YtpepmhmgfpkdmaaAmD
import Derived.KernelRfl
namespace Go.Proofs.Ytpepmhmgfpkdmaa
open Go Go.Am Go.Cl
set_option maxRecDepth 100000
variable {P : Program} {G : Nat → Option V}

def ints (c : List Int) : List V := c.map (V.int .i64)
def row (c : List Int) : V := .lst 1 (ints c) false
def rows (F : List (List Int)) : V := .lst 1 (F.map row) false
def fml (v : Int) (F : List (List Int)) : V := .agg [.int .i64 v, rows F]
theorem ints_length (c : List Int) : (ints c).length = c.length := by simp [ints]
theorem ints_get {c : List Int} {i : Nat} {n : Int} (h : c[i]? = some n) : (ints c)[i]? = some (.int .i64 n) := by simp [ints, h]
theorem ints_getD {c : List Int} {i : Nat} {n : Int} (h : c[i]? = some n) : (ints c).getD i V.any = .int .i64 n := by simp [ints, List.getD_eq_getElem?_getD, h]
theorem rows_getD {F : List (List Int)} {i : Nat} {c : List Int} (h : F[i]? = some c) : (F.map row).getD i V.any = .lst 1 (ints c) false := by simp [List.getD_eq_getElem?_getD, h, row]
theorem ints_nameless : ∀ c : List Int, namelessL (ints c) = true
  | [] => rfl
  | n :: c => by have := ints_nameless c; simpa [ints, namelessL, nameless] using this

theorem wneg {v : Int} (h : 0 ≤ v ∧ v ≤ 16777216) : IntKind.i64.wrap (0 - v) = -v := by
  rw [wrap_id] <;> (try omega)
  all_goals (first | (simp [IntKind.min, IntKind.signed, IntKind.bits]; omega) | (simp [IntKind.max, IntKind.signed, IntKind.bits]; omega))
-- simp [IntKind.min, IntKind.signed, IntKind.bits]; omega) (by simp [IntKind.max, IntKind.signed, IntKind.bits]; omega)
theorem wnext {i n : Nat} (h : i < n) (hn : n ≤ 9223372036854775807) : IntKind.i64.wrap ((i : Int) + 1) = ((i + 1 : Nat) : Int) := by
  rw [wrap_id]
  · omega
  · simp [IntKind.min, IntKind.signed, IntKind.bits]; omega
  · simp [IntKind.max, IntKind.signed, IntKind.bits]; omega

def fmH (t : Nat) (v : Int) (F : List (List Int)) : List (Option Ob) := [some (.arr t 24 [.int .i64 v, .lst 1 (F.map row) false])]

theorem c_Right (hT : TabOk P tab) (v : Int) (F : List (List Int)) (hF : F.length ≤ 9223372036854775807) (hc : ∀ c ∈ F, c.length ≤ 9223372036854775807) : Pure P G n_clause_Right [fml v F] fun u => u = .bool (right v F) := by
  intro t
  refine C_keep 0 (Nat.zero_le _) (C_tab hT t_clause_Right (by simp [clause_Right]) (W_run 12 ?_))
  by_cases h1 : v < 0
  · have hr : right v F = false := by simp [right]; omega
    simp -implicitDefEqProofs (disch := omega) only [go_sem, ↓reduceIte, reduceCtorEq, Nat.reduceAdd, Nat.reduceEqDiff, Nat.reduceLeDiff, Nat.zero_add, Nat.add_zero, decide_true, clause_Right, clause_Right_r0, clause_Right_r1, clause_Right_r2, clause_Right_r3, clause_Right_r4, clause_Right_r5, clause_Right_r6, clause_Right_r7, clause_Right_r8, clause_Right_r9, clause_Right_r10, clause_Right_r11, clause_Right_r12, clause_Right_r13, fml, rows, true_implies, and_true, h1]
    iterate 9 (try (refine run_sem 2 ?_; simp -implicitDefEqProofs (disch := omega) only [go_sem, ↓reduceIte, reduceCtorEq, Nat.reduceEqDiff]))
    try refine run_sem 9 ?_
    try simp -implicitDefEqProofs (disch := omega) only [go_sem, ↓reduceIte, reduceCtorEq, Nat.reduceEqDiff, Nat.zero_add, Nat.zero_le, true_and]
    rw [hr]

  by_cases h2 : v > 16777216
  · have hr : right v F = false := by simp [right]; omega
    simp -implicitDefEqProofs (disch := omega) only [go_sem, ↓reduceIte, reduceCtorEq, Nat.reduceAdd, Nat.reduceEqDiff, Nat.reduceLeDiff, Nat.zero_add, Nat.add_zero, decide_false, clause_Right, clause_Right_r0, clause_Right_r1, clause_Right_r2, clause_Right_r3, clause_Right_r4, clause_Right_r5, clause_Right_r6, clause_Right_r7, clause_Right_r8, clause_Right_r9, clause_Right_r10, clause_Right_r11, clause_Right_r12, clause_Right_r13, fml, rows, true_implies, and_true, h1]
    iterate 9 (try (refine run_sem 2 ?_; simp -implicitDefEqProofs (disch := omega) only [go_sem, ↓reduceIte, reduceCtorEq, Nat.reduceAdd, Nat.reduceEqDiff, Nat.reduceLeDiff, Nat.zero_add, Nat.add_zero, decide_true, gt_iff_lt, true_implies, and_true, h2]))
    try refine run_sem 9 ?_
    try simp -implicitDefEqProofs (disch := omega) only [go_sem, ↓reduceIte, reduceCtorEq, Nat.reduceEqDiff, Nat.zero_add, Nat.zero_le, true_and]
    rw [hr]

  by_cases h3 : (F.length : Int) > 1048576
  · have hr : right v F = false := by simp [right]; omega
    simp -implicitDefEqProofs (disch := omega) only [go_sem, ↓reduceIte, reduceCtorEq, Nat.reduceAdd, Nat.reduceEqDiff, Nat.reduceLeDiff, Nat.zero_add, Nat.add_zero, decide_false, clause_Right, clause_Right_r0, clause_Right_r1, clause_Right_r2, clause_Right_r3, clause_Right_r4, clause_Right_r5, clause_Right_r6, clause_Right_r7, clause_Right_r8, clause_Right_r9, clause_Right_r10, clause_Right_r11, clause_Right_r12, clause_Right_r13, fml, rows, true_implies, and_true, h1]
    iterate 9 (try (refine run_sem 2 ?_; simp -implicitDefEqProofs (disch := omega) only [go_sem, ↓reduceIte, reduceCtorEq, Nat.reduceAdd, Nat.reduceEqDiff, Nat.reduceLeDiff, Nat.zero_add, Nat.add_zero, decide_true, decide_false, Nat.le_refl, gt_iff_lt, true_implies, and_true, h2, h3, List.length_map]))
    try refine run_sem 9 ?_
    try simp -implicitDefEqProofs (disch := omega) only [go_sem, ↓reduceIte, reduceCtorEq, Nat.reduceEqDiff, Nat.zero_add, Nat.zero_le, true_and]
    rw [hr]

  simp -implicitDefEqProofs (disch := omega) only [go_sem, ↓reduceIte, reduceCtorEq, Nat.reduceAdd, Nat.reduceEqDiff, Nat.reduceLeDiff, Nat.zero_add, Nat.add_zero, decide_false, clause_Right, clause_Right_r0, clause_Right_r1, clause_Right_r2, clause_Right_r3, clause_Right_r4, clause_Right_r5, clause_Right_r6, clause_Right_r7, clause_Right_r8, clause_Right_r9, clause_Right_r10, clause_Right_r11, clause_Right_r12, clause_Right_r13, fml, rows, true_implies, and_true, h1]
  iterate 9 (try (refine run_sem 2 ?_; simp -implicitDefEqProofs (disch := omega) only [go_sem, ↓reduceIte, reduceCtorEq, Nat.reduceAdd, Nat.reduceEqDiff, Nat.reduceLeDiff, Nat.zero_add, Nat.add_zero, decide_false, Nat.le_refl, gt_iff_lt, true_implies, and_true, h2, h3, List.length_map]))
  refine run_sem 40 ?_
  simp -implicitDefEqProofs (disch := omega) only [go_sem, ↓reduceIte, reduceCtorEq, Nat.reduceEqDiff, List.length_map]
  have hv : 0 ≤ v ∧ v ≤ 16777216 := by omega
  have hneg := wneg hv
  refine sem_invE (fun m fr σ => ∃ i, i ≤ F.length ∧ m = F.length - i ∧ (∀ c ∈ F.take i, c.all (litOk v) = true) ∧ fget fr 1 = .ptr 0 t 0 ∧ fget fr 22 = .lst 1 (F.map row) false ∧ fget fr 23 = .int .i64 F.length ∧ fget fr 24 = .int .i64 i ∧ σ = ⟨t + 1, fmH t v F⟩)
    (fun e fr σ => (e = .ret ∧ fget fr 2 = .bool false ∧ right v F = false) ∨ (e = .ex 0 ∧ right v F = true))
    (m0 := F.length) ⟨0, by omega, rfl, by simp, ?_⟩ (fun m fr σ hJ => ?_) (fun e fr σ hE => ?_)
  · simp -implicitDefEqProofs (disch := omega) only [go_sem, ↓reduceIte, reduceCtorEq, Nat.reduceEqDiff, true_and, and_true, fmH]
    simp
  · obtain ⟨i, hi, rfl, hok, f1, f22, f23, f24, rfl⟩ := hJ
    refine W_run 1000 ?_
    rcases Nat.lt_or_ge i F.length with hlt | hge
    · obtain ⟨c, hci⟩ : ∃ c, F[i]? = some c := ⟨_, List.getElem?_eq_getElem hlt⟩
      have hD := rows_getD hci
      have hcm := List.mem_of_getElem? hci
      have e2 := wnext hlt hF
      have hcl := hc c hcm
      simp -implicitDefEqProofs (disch := omega) only [go_sem, need_of, ↓reduceIte, Nat.reduceEqDiff, Nat.zero_add, decide_true, Nat.le_refl, true_implies, and_true, fmH, List.length_map, ints_length, f22, f23, f24, hlt, hD]
      refine sem_invE (fun m fr σ => ∃ k, k ≤ c.length ∧ m = c.length - k ∧ (∀ n ∈ c.take k, litOk v n = true) ∧ fget fr 1 = .ptr 0 t 0 ∧ fget fr 22 = .lst 1 (F.map row) false ∧ fget fr 23 = .int .i64 F.length ∧ fget fr 24 = .int .i64 i ∧ fget fr 28 = .lst 1 (ints c) false ∧ fget fr 29 = .int .i64 c.length ∧ fget fr 30 = .int .i64 k ∧ σ = ⟨t + 1, fmH t v F⟩)
        (fun e fr σ => (e = .ret ∧ fget fr 2 = .bool false ∧ right v F = false) ∨ (e = .ex 2 ∧ c.all (litOk v) = true ∧ fget fr 1 = .ptr 0 t 0 ∧ fget fr 22 = .lst 1 (F.map row) false ∧ fget fr 23 = .int .i64 F.length ∧ fget fr 24 = .int .i64 i ∧ σ = ⟨t + 1, fmH t v F⟩))
        (m0 := c.length) ⟨0, by omega, rfl, by simp, ?_⟩ (fun m fr σ hJ => ?_) (fun e fr σ hE => ?_)
      · simp -implicitDefEqProofs (disch := omega) only [go_sem, ↓reduceIte, Nat.reduceEqDiff, true_and, and_true, fmH, f1, f22, f23, f24]
        simp
      · obtain ⟨k, hk, rfl, hok2, f1, f22, f23, f24, f28, f29, f30, rfl⟩ := hJ
        refine W_run 14 ?_
        rcases Nat.lt_or_ge k c.length with hlt2 | hge
        · obtain ⟨n, hnk⟩ : ∃ n, c[k]? = some n := ⟨_, List.getElem?_eq_getElem hlt2⟩
          have hD2 := ints_getD hnk
          have hnm := List.mem_of_getElem? hnk
          have e3 := wnext hlt2 hcl
          cases hl : litOk v n with
          | false =>
            have hr : right v F = false := by
              have : F.all (fun c => c.all (litOk v)) = false := by
                rw [List.all_eq_false]
                exact ⟨c, hcm, by rw [Bool.not_eq_true, List.all_eq_false]; exact ⟨n, hnm, by simp [hl]⟩⟩
              simp [right, this]
            simp only [litOk, decide_eq_false_iff_not] at hl
            by_cases g1 : n = 0
            · simp -implicitDefEqProofs (disch := omega) only [go_sem, need_of, ↓reduceIte, Nat.reduceEqDiff, Nat.zero_add, decide_true, Nat.le_refl, true_implies, and_true, fmH, ints_length, f28, f29, f30, hlt2, hD2, g1]
              iterate 16 (try (refine run_sem 2 ?_; simp -implicitDefEqProofs (disch := omega) only [go_sem, ↓reduceIte, reduceCtorEq, Nat.reduceEqDiff, beq_self_eq_true, true_and, and_true, f1, f22, f23, f24]))
              exact hr
            have g1' : (n == 0) = false := by simpa using g1
            by_cases g2 : n > v
            · simp -implicitDefEqProofs (disch := omega) only [go_sem, need_of, ↓reduceIte, Nat.reduceEqDiff, Nat.zero_add, decide_true, Nat.le_refl, true_implies, and_true, fmH, ints_length, f28, f29, f30, hlt2, hD2]
              iterate 16 (try (refine run_sem 2 ?_; simp -implicitDefEqProofs (disch := omega) only [go_sem, ↓reduceIte, reduceCtorEq, Nat.reduceAdd, Nat.reduceEqDiff, Nat.reduceLeDiff, Nat.zero_add, Nat.add_zero, decide_true, gt_iff_lt, true_implies, true_and, and_true, f1, f22, f23, f24, g1', g2]))
              exact hr
            have g3 : n < -v := by omega
            simp -implicitDefEqProofs (disch := omega) only [go_sem, need_of, ↓reduceIte, Nat.reduceEqDiff, Nat.zero_add, decide_true, Nat.le_refl, true_implies, and_true, fmH, ints_length, f28, f29, f30, hlt2, hD2]
            iterate 16 (try (refine run_sem 2 ?_; simp -implicitDefEqProofs (disch := omega) only [go_sem, ↓reduceIte, reduceCtorEq, Nat.reduceAdd, Nat.reduceEqDiff, Nat.reduceLeDiff, Nat.zero_add, Nat.add_zero, decide_true, decide_false, gt_iff_lt, true_implies, true_and, and_true, hneg, f1, f22, f23, f24, g1', g2, g3]))
            exact hr
          | true =>
            have hl' := hl
            simp only [litOk, decide_eq_true_eq] at hl
            have g1' : (n == 0) = false := by simpa using hl.1
            have g2 : ¬ n > v := by omega
            have g3 : ¬ n < -v := by omega
            simp -implicitDefEqProofs (disch := omega) only [go_sem, need_of, ↓reduceIte, Nat.reduceEqDiff, Nat.zero_add, decide_true, Nat.le_refl, true_implies, and_true, fmH, ints_length, f28, f29, f30, hlt2, hD2]
            iterate 16 (try (refine run_sem 2 ?_; simp -implicitDefEqProofs (disch := omega) only [go_sem, ↓reduceIte, Nat.reduceAdd, Nat.reduceEqDiff, Nat.reduceLeDiff, Nat.zero_add, Nat.add_zero, decide_false, gt_iff_lt, true_implies, and_true, hneg, f1, f30, g1', g2, g3]))
            refine ⟨c.length - (k + 1), _, _, by omega, Shift.refl _ _ _ _, k + 1, by omega, rfl, fun n hn => ?_, ?_⟩
            · rw [List.take_add_one, hnk] at hn
              simp at hn
              rcases hn with hn | rfl
              · exact hok2 n hn
              · exact hl'
            · simp -implicitDefEqProofs (disch := omega) only [go_sem, ↓reduceIte, Nat.reduceEqDiff, and_true, f1, f22, f23, f24, f28, f29, e3]
              try simp
        · have hk : k = c.length := by omega
          subst hk
          simp -implicitDefEqProofs (disch := omega) only [go_sem, ↓reduceIte, reduceCtorEq, Nat.reduceEqDiff, decide_false, true_and, and_true, fmH, f1, f22, f23, f24, f29, f30, Nat.lt_irrefl]
          rw [List.take_length] at hok2
          simpa using hok2
      · rcases hE with ⟨rfl, f2, hr⟩ | ⟨rfl, hcc, f1, f22, f23, f24, rfl⟩
        · refine run_sem 1000 ?_
          simp -implicitDefEqProofs (disch := omega) only [go_sem, and_true, f2, hr]
        · refine run_sem 1000 ?_
          simp -implicitDefEqProofs (disch := omega) only [go_sem, ↓reduceIte, fmH, f24]
          refine ⟨F.length - (i + 1), _, _, by omega, Shift.refl _ _ _ _, i + 1, by omega, rfl, fun d hd => ?_, ?_⟩
          · rw [List.take_add_one, hci] at hd
            simp only [Option.toList_some, List.mem_append, List.mem_singleton] at hd
            rcases hd with hd | rfl
            · exact hok d hd
            · exact hcc
          · simp -implicitDefEqProofs (disch := omega) only [go_sem, ↓reduceIte, Nat.reduceEqDiff, and_true, f1, f22, f23, e2]
            try simp
    · have hi : i = F.length := by omega
      subst hi
      simp -implicitDefEqProofs (disch := omega) only [go_sem, ↓reduceIte, reduceCtorEq, Nat.reduceEqDiff, decide_false, true_and, fmH, f23, f24, Nat.lt_irrefl]
      rw [List.take_length] at hok
      have : F.all (fun c => c.all (litOk v)) = true := List.all_eq_true.2 hok
      simp [right, this]
      omega
  · rcases hE with ⟨rfl, f2, hr⟩ | ⟨rfl, hr⟩
    · refine run_sem 1000 ?_
      simp -implicitDefEqProofs (disch := omega) only [go_sem, Nat.zero_le, and_true, f2, hr]
    · refine run_sem 1000 ?_
      simp -implicitDefEqProofs (disch := omega) only [go_sem, ↓reduceIte, Nat.zero_le, and_true, hr]
end Go.Proofs.Ytpepmhmgfpkdmaa

