/- Contracts: the law's own aids. -/
import Derived.Test.YtpepmhmgfpkdmaaSq1
import Derived.Test.YtpepmhmgfpkdmaaSw19
namespace Go.Proofs.Ytpepmhmgfpkdmaa
open Go Go.Am Go.Cl Go.Sat
set_option maxRecDepth 100000

def few3 (v : Int) (F : List (List Int)) (k m : Nat) : Bool := decide ((F.length : Int) ≤ k) && decide (v ≤ m) && F.all fun c => decide (c.length ≤ 20)

section
variable {P : Program} {G : Nat → Option V}
abbrev fwH (t : Nat) (v : Int) (F : List (List Int)) : List (Option Ob) := [some (.arr t 24 [.int .i64 v, .lst 1 (F.map row) false])]
abbrev fwJ (t : Nat) (v : Int) (F : List (List Int)) : Nat → Fr → H → Prop := fun i fr σ => (∀ c ∈ F.take i, c.length ≤ 20) ∧ fget fr 3 = .ptr 0 t 0 ∧ fget fr 7 = .int .i64 ((i : Nat) : Int) ∧ σ = ⟨t + 1, fwH t v F⟩
abbrev fwE (F : List (List Int)) : AE → Fr → H → Prop := fun e fr σ => (e = .ret ∧ fget fr 6 = .bool false ∧ (F.all fun c => decide (c.length ≤ 20)) = false) ∨ (e = .ex 0 ∧ (F.all fun c => decide (c.length ≤ 20)) = true)
theorem c_few (hT : TabOk P tab) (v : Int) (F : List (List Int)) (k m : Nat) (hk : k ≤ 1000) (hF : F.length ≤ 9223372036854775807) (hc : ∀ c ∈ F, c.length ≤ 9223372036854775807) :
    Pure P G n_proofmarklaw07_few [fml v F, .int .i64 (k : Int), .int .i64 (m : Int)] fun u => u = .bool (few3 v F k m) := by
  intro t
  simp only [fml, rows]
  refine C_keep 0 (Nat.zero_le _) (C_tab hT t_proofmarklaw07_few (by simp [proofmarklaw07_few]) (W_run 1000 ?_))
  rcases Nat.lt_or_ge k F.length with h | h
  · have h' : ((k : Int) < (F.length : Int)) = True := eq_true (by omega)
    have h2 : decide ((k : Int) < (F.length : Int)) = true := decide_eq_true (by omega)
    have hf : few3 v F k m = false := by unfold few3; rw [decide_eq_false (by omega)]; rfl
    simp -implicitDefEqProofs (disch := omega) only [go_sem, ↓reduceIte, reduceCtorEq, Nat.reduceAdd, Nat.reduceEqDiff, Nat.zero_add, decide_true, Nat.le_refl, Nat.zero_le, gt_iff_lt, proofmarklaw07_few, proofmarklaw07_few_r0, proofmarklaw07_few_r1, proofmarklaw07_few_r2, proofmarklaw07_few_r3, proofmarklaw07_few_r4, proofmarklaw07_few_r5, proofmarklaw07_few_r6, proofmarklaw07_few_r7, proofmarklaw07_few_r8, List.length_map, h', hf, true_implies, and_true]
  · have h' : ((k : Int) < (F.length : Int)) = False := eq_false (by omega)
    have h2 : decide ((k : Int) < (F.length : Int)) = false := decide_eq_false (by omega)
    rcases Int.lt_or_le (m : Int) v with g | g
    · have g' : ((m : Int) < v) = True := eq_true g
      have g2 : decide ((m : Int) < v) = true := decide_eq_true g
      have hf : few3 v F k m = false := by unfold few3; rw [decide_eq_false (by omega : ¬ v ≤ (m : Int))]; simp
      simp -implicitDefEqProofs (disch := omega) only [go_sem, ↓reduceIte, reduceCtorEq, Nat.reduceAdd, Nat.reduceEqDiff, Nat.reduceLeDiff, Nat.zero_add, Nat.add_zero, decide_true, decide_false, Nat.le_refl, Nat.zero_le, gt_iff_lt, proofmarklaw07_few, proofmarklaw07_few_r0, proofmarklaw07_few_r1, proofmarklaw07_few_r2, proofmarklaw07_few_r3, proofmarklaw07_few_r4, proofmarklaw07_few_r5, proofmarklaw07_few_r6, proofmarklaw07_few_r7, proofmarklaw07_few_r8, List.length_map, h', g', hf, true_implies, and_true]
    · have g' : ((m : Int) < v) = False := eq_false (by omega)
      have g2 : decide ((m : Int) < v) = false := decide_eq_false (by omega)
      have hf : few3 v F k m = F.all fun c => decide (c.length ≤ 20) := by unfold few3; rw [decide_eq_true (by omega), decide_eq_true g]; rfl
      simp -implicitDefEqProofs (disch := omega) only [go_sem, ↓reduceIte, reduceCtorEq, Nat.reduceAdd, Nat.reduceEqDiff, Nat.reduceLeDiff, Nat.zero_add, Nat.add_zero, decide_false, Nat.le_refl, gt_iff_lt, proofmarklaw07_few, proofmarklaw07_few_r0, proofmarklaw07_few_r1, proofmarklaw07_few_r2, proofmarklaw07_few_r3, proofmarklaw07_few_r4, proofmarklaw07_few_r5, proofmarklaw07_few_r6, proofmarklaw07_few_r7, proofmarklaw07_few_r8, List.length_map, h', g', hf, true_implies, and_true]
      refine sem_for F (fwJ t v F) (fwE F) ⟨by simp, rfl, rfl, rfl⟩ (fun i c hci fr σ hJ => ?_) (fun i hi fr σ hJ => ?_) (fun e fr σ hE => ?_)
      · obtain ⟨hall, f3, f7, rfl⟩ := hJ
        have hlt := (List.getElem?_eq_some_iff.1 hci).1
        have hD := rows_getD hci
        have e2 := wnext hlt (by omega)
        have hts := take_snoc hci
        rcases Nat.lt_or_ge 20 c.length with h20 | h20
        · have h20' : (20 : Int) < (c.length : Int) := by omega
          have hfa : (F.all fun c => decide (c.length ≤ 20)) = false := by
            rw [List.all_eq_false]
            exact ⟨c, List.mem_of_getElem? hci, by simp; omega⟩
          refine W_round [(3, .ptr 0 t 0), (7, .int .i64 ((i : Nat) : Int))] ⟨f3, f7, trivial⟩  1000 ?_
          simp -implicitDefEqProofs (disch := omega) only [go_sem, need_of, ↓reduceIte, Nat.reduceAdd, Nat.reduceEqDiff, Nat.zero_add, decide_true, Nat.le_refl, gt_iff_lt, List.length_map, ints_length, hlt, hD, h20']
          exact .inl ⟨rfl, rfl, hfa⟩
        · have h20' : ¬ (20 : Int) < (c.length : Int) := by omega
          refine W_round [(3, .ptr 0 t 0), (7, .int .i64 ((i : Nat) : Int))] ⟨f3, f7, trivial⟩  1000 ?_
          simp -implicitDefEqProofs (disch := omega) only [go_sem, need_of, ↓reduceIte, Nat.reduceAdd, Nat.reduceEqDiff, Nat.zero_add, decide_true, decide_false, Nat.le_refl, gt_iff_lt, List.length_map, ints_length, hlt, hD, h20']
          refine ⟨_, _, Shift.refl _ _ _ _, fun d hd => ?_, ?_⟩
          · rw [hts, List.mem_append] at hd
            rcases hd with hd | hd
            · exact hall d hd
            · simp at hd; subst hd; omega
          · simp -implicitDefEqProofs (disch := omega) only [go_sem, ↓reduceIte, Nat.reduceEqDiff, e2]
      · obtain ⟨hall, f3, f7, rfl⟩ := hJ
        rw [hi, List.take_length] at hall
        refine W_round [(3, .ptr 0 t 0), (7, .int .i64 ((i : Nat) : Int))] ⟨f3, f7, trivial⟩  1000 ?_
        simp -implicitDefEqProofs (disch := omega) only [go_sem, ↓reduceIte, Nat.reduceAdd, Nat.reduceEqDiff, Nat.zero_add, decide_false, Nat.le_refl, List.length_map, hi, Nat.lt_irrefl]
        exact .inr ⟨rfl, List.all_eq_true.2 fun c h => by simpa using hall c h⟩
      · rcases hE with ⟨rfl, f6, hh⟩ | ⟨rfl, hh⟩
        · refine run_sem 1000 ?_
          simp -implicitDefEqProofs (disch := omega) only [go_sem, Nat.zero_le, f6, hh]
        · refine run_sem 1000 ?_
          simp -implicitDefEqProofs (disch := omega) only [go_sem, ↓reduceIte, Nat.zero_le, hh]

theorem c_plain (hT : TabOk P tab) (v : Int) (F : List (List Int)) : Pure P G n_proofmarklaw07_plain [fml v F] fun u => u = fml v F := by
  intro t
  simp only [fml, rows]
  refine C_keep 0 (Nat.zero_le _) (C_tab hT t_proofmarklaw07_plain (by simp [proofmarklaw07_plain]) (W_run 1000 ?_))
  simp -implicitDefEqProofs (disch := omega) only [go_sem, ↓reduceIte, reduceCtorEq, Nat.reduceAdd, Nat.reduceEqDiff, Nat.reduceLeDiff, Nat.zero_add, Nat.add_zero, Bool.not_false, Nat.le_refl, Nat.zero_le, proofmarklaw07_plain, proofmarklaw07_plain_r0, proofmarklaw07_plain_r1]
end

variable {G : Nat → Option V}
theorem c_kind (hT : TabOk Try.prog tab) (vars : Nat) (F : List (List Int)) (fu : Nat) (hR : right vars F = true) (hv : vars ≤ 900) (hFl : F.length ≤ 1000) (hFc : ∀ c ∈ F, c.length ≤ 1000) (hfu : fu ≤ 2097152) :
    Pure Try.prog G n_proofmarklaw07_kind [fml vars F, .int .i64 (fu : Int)] fun u => u = .int .u8 (kindOf (solve vars F fu)) := by
  have hS := c_Solve (G := G) hT vars F fu hR hv hFl hFc hfu
  intro t
  simp only [fml, rows] at hS ⊢
  refine C_keep 0 (Nat.zero_le _) (C_tab hT t_proofmarklaw07_kind (by simp [proofmarklaw07_kind]) (W_run 1000 ?_))
  simp -implicitDefEqProofs (disch := omega) only [go_sem, ↓reduceIte, reduceCtorEq, Nat.reduceAdd, Nat.reduceEqDiff, Nat.zero_add, Nat.le_refl, proofmarklaw07_kind, proofmarklaw07_kind_r0, proofmarklaw07_kind_r1, proofmarklaw07_kind_r2]
  refine callPS hT t_sat_Solve hS (by simp [namelessL, nameless]) 1000 ?_
  match solve vars F fu with
  | none => simp -implicitDefEqProofs (disch := omega) only [go_sem, ↓reduceIte, reduceCtorEq, Nat.reduceAdd, Nat.reduceEqDiff, Nat.reduceLeDiff, Nat.reduceLT, Nat.zero_add, Nat.add_zero, Bool.not_false, Nat.le_refl, Nat.zero_le, ansV, kindOf]
  | some (s, true) => simp -implicitDefEqProofs (disch := omega) only [go_sem, ↓reduceIte, reduceCtorEq, Nat.reduceAdd, Nat.reduceEqDiff, Nat.reduceLeDiff, Nat.reduceLT, Nat.zero_add, Nat.add_zero, Bool.not_false, Nat.le_refl, Nat.zero_le, ansV, kindOf]
  | some (s, false) => simp -implicitDefEqProofs (disch := omega) only [go_sem, ↓reduceIte, reduceCtorEq, Nat.reduceAdd, Nat.reduceEqDiff, Nat.reduceLeDiff, Nat.reduceLT, Nat.zero_add, Nat.add_zero, Bool.not_false, Nat.le_refl, Nat.zero_le, ansV, kindOf, rows]
end Go.Proofs.Ytpepmhmgfpkdmaa

