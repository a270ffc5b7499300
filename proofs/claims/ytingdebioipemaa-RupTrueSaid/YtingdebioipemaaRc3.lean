/- Contracts: the document's side of clauses: what holds in a model. -/
import Derived.Test.YtingdebioipemaaRc2
namespace Go.Proofs.Ytingdebioipemaa
open Go Go.Am Go.Cl
set_option maxRecDepth 100000
variable {P : Program} {G : Nat → Option V}

def bools (m : List Bool) : V := .lst 1 (m.map V.bool) false
theorem bools_getD {m : List Bool} {j : Nat} (h : j < m.length) : (m.map V.bool).getD j V.any = .bool (m.getD j false) := by
  simp [List.getD_eq_getElem?_getD, List.getElem?_eq_getElem h]
theorem wnat {n : Int} (h : 0 ≤ n ∧ n ≤ 9223372036854775807) : IntKind.i64.wrap n = (n.toNat : Int) := by
  rw [wrap_id]
  · omega
  · simp [IntKind.min, IntKind.signed, IntKind.bits]; omega
  · simp [IntKind.max, IntKind.signed, IntKind.bits]; omega
theorem wself {n : Int} (h : -9223372036854775808 ≤ n ∧ n ≤ 9223372036854775807) : IntKind.i64.wrap n = n := by
  rw [wrap_id]
  · simp [IntKind.min, IntKind.signed, IntKind.bits]; omega
  · simp [IntKind.max, IntKind.signed, IntKind.bits]; omega

abbrev rclJ (t : Nat) (c : List Int) (m : List Bool) : Nat → Fr → H → Prop := fun i fr σ => (∀ n ∈ c.take i, litT m n = false) ∧ fget fr 0 = .lst 1 (ints c) false ∧ fget fr 1 = .lst 1 (m.map V.bool) false ∧ fget fr 5 = .int .i64 ((i : Nat) : Int) ∧ σ = ⟨t, []⟩
abbrev rclE (c : List Int) (m : List Bool) : AE → Fr → H → Prop := fun e fr _ => (e = .ret ∧ fget fr 4 = .bool true ∧ clauseT m c = true) ∨ (e = .ex 0 ∧ clauseT m c = false)
theorem c_rClause (hT : TabOk P tab) (c : List Int) (m : List Bool) (hc : ∀ n ∈ c, n ≠ 0 ∧ -(m.length : Int) ≤ n ∧ n ≤ m.length) (hm : m.length ≤ 16777216) (hl : c.length ≤ 9223372036854775807) :
    Pure P G n_proofmarkref05_Clause [row c, bools m] fun u => u = .bool (clauseT m c) := by
  intro t
  simp only [row, bools]
  refine C_keep 0 (Nat.zero_le _) (C_tab hT t_proofmarkref05_Clause (by simp [proofmarkref05_Clause]) (W_run 1000 ?_))
  simp -implicitDefEqProofs (disch := omega) only [go_sem, ↓reduceIte, reduceCtorEq, Nat.reduceEqDiff, Nat.zero_add, proofmarkref05_Clause, proofmarkref05_Clause_r0, proofmarkref05_Clause_r1, proofmarkref05_Clause_r2, proofmarkref05_Clause_r3, proofmarkref05_Clause_r4, proofmarkref05_Clause_r5, proofmarkref05_Clause_r6]
  refine sem_for c (rclJ t c m) (rclE c m) ⟨by simp, ?_⟩ (fun i n ha fr σ hJ => ?_) (fun i hi fr σ hJ => ?_) (fun e fr σ hE => ?_)
  · simp -implicitDefEqProofs (disch := omega) only [go_sem, ↓reduceIte, reduceCtorEq, Nat.reduceEqDiff, true_and, and_true]
    simp
  · obtain ⟨hno, f0, f1, f5, rfl⟩ := hJ
    obtain ⟨hlt, hD, e2⟩ := at_ints ha hl
    have hnm := List.mem_of_getElem? ha
    have hts := take_snoc ha
    obtain ⟨h0, h1, h2⟩ := hc n hnm
    have hyes : litT m n = true → clauseT m c = true := fun h => List.any_eq_true.2 ⟨n, hnm, h⟩
    have hnext : litT m n = false → ∀ x ∈ c.take (i + 1), litT m x = false := fun h x hx => by
      rw [hts, List.mem_append] at hx
      rcases hx with hx | hx
      · exact hno x hx
      · simp at hx; subst hx; exact h
    by_cases hp : 0 < n
    · have hj : (n - 1).toNat < m.length := by omega
      have e4 := wnat (n := n - 1) (by omega)
      have hB := bools_getD hj
      have hlit : litT m n = m.getD (n - 1).toNat false := by
        have : ¬ n < 0 := by omega
        simp [litT, hp, this]
      rw [← hlit] at hB
      generalize (n - 1).toNat = j at *
      have hp' : decide (0 < n) = true := by simpa using hp
      cases hv : litT m n with
      | true =>
        rw [hv] at hB
        refine W_round [(0, .lst 1 (ints c) false), (1, .lst 1 (m.map V.bool) false), (5, .int .i64 ((i : Nat) : Int))] ⟨f0, f1, f5, trivial⟩  14 ?_
        simp -implicitDefEqProofs (disch := omega) only [go_sem, ↓reduceIte, reduceCtorEq, Nat.reduceEqDiff, decide_true, ints_length, hlt]
        iterate 9 (try (refine run_sem 2 ?_; simp -implicitDefEqProofs (disch := omega) only [go_sem, need_of, ↓reduceIte, reduceCtorEq, Nat.reduceAdd, Nat.reduceEqDiff, Nat.zero_add, decide_true, Nat.le_refl, gt_iff_lt, List.length_map, ints_length, true_implies, and_true, hlt, hD, e4, hj, hB, hp]))
        iterate 9 (try (refine run_sem 4 ?_; simp -implicitDefEqProofs (disch := omega) only [go_sem, ↓reduceIte, reduceCtorEq, Nat.reduceEqDiff]))
        exact .inl ⟨rfl, rfl, hyes hv⟩
      | false =>
        have hn' : ¬ n < 0 := by omega
        have hn'' : decide (n < 0) = false := by simpa using hn'
        rw [hv] at hB
        refine W_round [(0, .lst 1 (ints c) false), (1, .lst 1 (m.map V.bool) false), (5, .int .i64 ((i : Nat) : Int))] ⟨f0, f1, f5, trivial⟩  14 ?_
        simp -implicitDefEqProofs (disch := omega) only [go_sem, ↓reduceIte, reduceCtorEq, Nat.reduceEqDiff, decide_true, ints_length, hlt]
        iterate 9 (try (refine run_sem 2 ?_; simp -implicitDefEqProofs (disch := omega) only [go_sem, need_of, ↓reduceIte, reduceCtorEq, Nat.reduceAdd, Nat.reduceEqDiff, Nat.zero_add, decide_true, Nat.le_refl, gt_iff_lt, List.length_map, ints_length, true_implies, and_true, hlt, hD, e4, hj, hB, hp]))
        iterate 9 (try (refine run_sem 4 ?_; simp -implicitDefEqProofs (disch := omega) only [go_sem, need_of, ↓reduceIte, reduceCtorEq, Nat.reduceAdd, Nat.reduceEqDiff, Nat.zero_add, decide_false, Nat.le_refl, ints_length, true_implies, and_true, hlt, hD, hn']))
        refine ⟨_, _, Shift.refl _ _ _ _, hnext hv, ?_⟩
        simp -implicitDefEqProofs (disch := omega) only [go_sem, ↓reduceIte, reduceCtorEq, Nat.reduceEqDiff, and_true, e2]
    · have hn : n < 0 := by omega
      have hj : (-n - 1).toNat < m.length := by omega
      have e3 := wself (n := 0 - n) (by omega)
      have e4 := wnat (n := 0 - n - 1) (by omega)
      rw [show 0 - n - 1 = -n - 1 by omega] at e4
      rw [show 0 - n = -n by omega] at e3
      have hB := bools_getD hj
      have hlit : litT m n = !m.getD (-n - 1).toNat false := by simp [litT, hn, hp]
      have hp' : decide (0 < n) = false := by simpa using hp
      have hn' : decide (n < 0) = true := by simpa using hn
      have hneg : IntKind.i64.wrap (0 - n) = -n := by rw [show 0 - n = -n by omega]; exact e3
      generalize m.getD (-n - 1).toNat false = b at *
      generalize (-n - 1).toNat = j at *
      cases b with
      | false =>
        refine W_round [(0, .lst 1 (ints c) false), (1, .lst 1 (m.map V.bool) false), (5, .int .i64 ((i : Nat) : Int))] ⟨f0, f1, f5, trivial⟩  14 ?_
        simp -implicitDefEqProofs (disch := omega) only [go_sem, ↓reduceIte, reduceCtorEq, Nat.reduceEqDiff, decide_true, ints_length, hlt]
        iterate 16 (try (refine run_sem 2 ?_; simp -implicitDefEqProofs (disch := omega) only [go_sem, need_of, ↓reduceIte, reduceCtorEq, Nat.reduceAdd, Nat.reduceEqDiff, Nat.zero_add, decide_true, decide_false, Bool.not_false, Nat.le_refl, gt_iff_lt, List.length_map, ints_length, true_implies, and_true, hlt, hD, hneg, e4, hj, hB, hp, hn]))
        iterate 9 (try (refine run_sem 4 ?_; simp -implicitDefEqProofs (disch := omega) only [go_sem, ↓reduceIte, reduceCtorEq, Nat.reduceAdd, Nat.reduceEqDiff]))
        exact .inl ⟨rfl, rfl, hyes hlit⟩
      | true =>
        refine W_round [(0, .lst 1 (ints c) false), (1, .lst 1 (m.map V.bool) false), (5, .int .i64 ((i : Nat) : Int))] ⟨f0, f1, f5, trivial⟩  14 ?_
        simp -implicitDefEqProofs (disch := omega) only [go_sem, ↓reduceIte, reduceCtorEq, Nat.reduceEqDiff, decide_true, ints_length, hlt]
        iterate 16 (try (refine run_sem 2 ?_; simp -implicitDefEqProofs (disch := omega) only [go_sem, need_of, ↓reduceIte, reduceCtorEq, Nat.reduceAdd, Nat.reduceEqDiff, Nat.zero_add, decide_true, decide_false, Bool.not_true, Nat.le_refl, gt_iff_lt, List.length_map, ints_length, true_implies, and_true, hlt, hD, hneg, e4, hj, hB, hp, hn]))
        iterate 9 (try (refine run_sem 4 ?_; simp -implicitDefEqProofs (disch := omega) only [go_sem, ↓reduceIte, reduceCtorEq, Nat.reduceAdd, Nat.reduceEqDiff]))
        refine ⟨_, _, Shift.refl _ _ _ _, hnext hlit, ?_⟩
        simp -implicitDefEqProofs (disch := omega) only [go_sem, ↓reduceIte, reduceCtorEq, Nat.reduceEqDiff, and_true, e2]
  · obtain ⟨hno, f0, f1, f5, rfl⟩ := hJ
    rw [hi, List.take_length] at hno
    have hr : clauseT m c = false := List.any_eq_false.2 fun n h => by rw [hno n h]; simp
    refine W_round [(0, .lst 1 (ints c) false), (1, .lst 1 (m.map V.bool) false), (5, .int .i64 ((i : Nat) : Int))] ⟨f0, f1, f5, trivial⟩  1000 ?_
    simp -implicitDefEqProofs (disch := omega) only [go_sem, ↓reduceIte, reduceCtorEq, Nat.reduceEqDiff, decide_false, ints_length, hi, Nat.lt_irrefl]
    exact .inr ⟨rfl, hr⟩
  · rcases hE with ⟨rfl, f4, hm⟩ | ⟨rfl, hm⟩
    · refine run_sem 1000 ?_
      simp -implicitDefEqProofs (disch := omega) only [go_sem, Nat.zero_le, and_true, f4, hm]
    · refine run_sem 1000 ?_
      simp -implicitDefEqProofs (disch := omega) only [go_sem, ↓reduceIte, Nat.zero_le, and_true, hm]
abbrev hoJ (t : Nat) (v : Int) (F : List (List Int)) (m : List Bool) : Nat → Fr → H → Prop := fun i fr σ => (∀ c ∈ F.take i, clauseT m c = true) ∧ fget fr 1 = .lst 1 (m.map V.bool) false ∧ fget fr 2 = .ptr 0 t 0 ∧ fget fr 5 = .int .i64 ((i : Nat) : Int) ∧ σ = ⟨t + 1, rfH t v F⟩
abbrev hoE (v : Int) (F : List (List Int)) (m : List Bool) : AE → Fr → H → Prop := fun e fr _ => (e = .ret ∧ fget fr 4 = .bool false ∧ holdsS v F m = false) ∨ (e = .ex 0 ∧ holdsS v F m = true)
theorem nameless_bools (m : List Bool) : namelessL (m.map V.bool) = true := by
  induction m with
  | nil => rfl
  | cons b m ih => simpa [namelessL, nameless] using ih
theorem c_rHolds (hT : TabOk P tab) (v : Int) (F : List (List Int)) (m : List Bool) (hF : F.length ≤ 9223372036854775807) (hc : ∀ c ∈ F, c.length ≤ 9223372036854775807) (hm : m.length ≤ 9223372036854775807) :
    Pure P G n_proofmarkref05_Holds [fml v F, bools m] fun u => u = .bool (holdsS v F m) := by
  intro t
  have hR := c_rRight (P := P) (G := G) hT v F hF hc
  simp only [fml, rows, bools] at hR ⊢
  refine C_keep 0 (Nat.zero_le _) (C_tab hT t_proofmarkref05_Holds (by simp [proofmarkref05_Holds]) (W_run 1000 ?_))
  simp -implicitDefEqProofs (disch := omega) only [go_sem, ↓reduceIte, reduceCtorEq, Nat.reduceAdd, Nat.reduceEqDiff, Nat.zero_add, Nat.le_refl, proofmarkref05_Holds, proofmarkref05_Holds_r0, proofmarkref05_Holds_r1, proofmarkref05_Holds_r2, proofmarkref05_Holds_r3, proofmarkref05_Holds_r4, proofmarkref05_Holds_r5, proofmarkref05_Holds_r6, proofmarkref05_Holds_r7, proofmarkref05_Holds_r8, false_implies, and_true]
  refine callPS hT t_proofmarkref05_Right hR (by simp [namelessL, nameless]) 6 ?_
  cases hr : right v F with
  | false =>
    have hh : holdsS v F m = false := by simp [holdsS, hr]
    simp -implicitDefEqProofs (disch := omega) only [go_sem, ↓reduceIte, reduceCtorEq, Nat.reduceEqDiff, Bool.not_false]
    iterate 9 (try (refine run_sem 4 ?_; simp -implicitDefEqProofs (disch := omega) only [go_sem, ↓reduceIte, reduceCtorEq, Nat.reduceEqDiff, Nat.zero_add, Nat.zero_le, true_and]))
    rw [hh]
  | true =>
    by_cases hv : (m.length : Int) = v
    · have hv2 : ((m.length : Int) = v) = True := eq_true hv
      have hrr := right_iff.1 hr
      simp -implicitDefEqProofs (disch := omega) only [go_sem, ↓reduceIte, reduceCtorEq, Nat.reduceAdd, Nat.reduceEqDiff, Nat.reduceLeDiff, Nat.zero_add, Nat.add_zero, Bool.not_true, List.length_map, true_implies, and_true]
      iterate 9 (try (refine run_sem 4 ?_; simp -implicitDefEqProofs (disch := omega) only [go_sem, ↓reduceIte, reduceCtorEq, Nat.reduceAdd, Nat.reduceEqDiff, false_implies, true_implies, true_and, not_true_eq_false, hv2]))
      refine sem_for F (hoJ t v F m) (hoE v F m) ⟨by simp, ?_⟩ (fun i c hci fr σ hJ => ?_) (fun i hi fr σ hJ => ?_) (fun e fr σ hE => ?_)
      · simp -implicitDefEqProofs (disch := omega) only [go_sem, ↓reduceIte, reduceCtorEq, Nat.reduceEqDiff, rfH, true_and, and_true]
        simp
      · obtain ⟨hok, f1, f2, f5, rfl⟩ := hJ
        obtain ⟨hlt, hD, e2⟩ := at_rows hci hF
        have hcm := List.mem_of_getElem? hci
        have hts := take_snoc hci
        have hC := c_rClause (P := P) (G := G) hT c m (fun n hn => by have := hrr.2 c hcm n hn; omega) (by omega) (hc c hcm)
        simp only [row, bools] at hC
        refine W_round [(1, .lst 1 (m.map V.bool) false), (2, .ptr 0 t 0), (5, .int .i64 ((i : Nat) : Int))] ⟨f1, f2, f5, trivial⟩  1000 ?_
        simp -implicitDefEqProofs (disch := omega) only [go_sem, need_of, ↓reduceIte, Nat.reduceAdd, Nat.reduceEqDiff, Nat.zero_add, decide_true, Nat.le_refl, rfH, List.length_map, true_implies, and_true, hlt, hD]
        refine callPS hT t_proofmarkref05_Clause hC (by simp [namelessL, nameless]) 1000 ?_
        cases hcl : clauseT m c with
        | false =>
          have hh : holdsS v F m = false := by
            have : F.all (clauseT m) = false := List.all_eq_false.2 ⟨c, hcm, by simp [hcl]⟩
            simp [holdsS, this]
          simp -implicitDefEqProofs (disch := omega) only [go_sem, ↓reduceIte, Nat.reduceEqDiff, Bool.not_false]
          exact .inl ⟨rfl, rfl, hh⟩
        | true =>
          simp -implicitDefEqProofs (disch := omega) only [go_sem, ↓reduceIte, Nat.reduceEqDiff, Bool.not_true]
          refine ⟨_, _, Shift.refl _ _ _ _, fun d hd => ?_, ?_⟩
          · rw [hts, List.mem_append] at hd
            rcases hd with hd | hd
            · exact hok d hd
            · simp at hd; subst hd; exact hcl
          · simp -implicitDefEqProofs (disch := omega) only [go_sem, ↓reduceIte, Nat.reduceEqDiff, rfH, and_true, e2]
      · obtain ⟨hok, f1, f2, f5, rfl⟩ := hJ
        rw [hi, List.take_length] at hok
        have hh : holdsS v F m = true := by
          have : F.all (clauseT m) = true := List.all_eq_true.2 hok
          simp [holdsS, hr, hv, this]
        refine W_round [(1, .lst 1 (m.map V.bool) false), (2, .ptr 0 t 0), (5, .int .i64 ((i : Nat) : Int))] ⟨f1, f2, f5, trivial⟩  1000 ?_
        simp -implicitDefEqProofs (disch := omega) only [go_sem, ↓reduceIte, Nat.reduceAdd, Nat.reduceEqDiff, Nat.zero_add, decide_false, Nat.le_refl, rfH, List.length_map, true_implies, and_true, hi, Nat.lt_irrefl]
        exact .inr ⟨rfl, hh⟩
      · rcases hE with ⟨rfl, f4, hh⟩ | ⟨rfl, hh⟩
        · refine run_sem 1000 ?_
          simp -implicitDefEqProofs (disch := omega) only [go_sem, Nat.zero_le, and_true, f4, hh]
        · refine run_sem 1000 ?_
          simp -implicitDefEqProofs (disch := omega) only [go_sem, ↓reduceIte, Nat.zero_le, and_true, hh]
    · have hv2 : ((m.length : Int) = v) = False := eq_false hv
      have hh : holdsS v F m = false := by simp [holdsS, hv]
      simp -implicitDefEqProofs (disch := omega) only [go_sem, ↓reduceIte, reduceCtorEq, Nat.reduceAdd, Nat.reduceEqDiff, Nat.reduceLeDiff, Nat.zero_add, Nat.add_zero, Bool.not_true, List.length_map, true_implies, and_true]
      iterate 9 (try (refine run_sem 4 ?_; simp -implicitDefEqProofs (disch := omega) only [go_sem, ↓reduceIte, reduceCtorEq, Nat.reduceAdd, Nat.reduceEqDiff, Nat.zero_add, Nat.zero_le, false_implies, true_implies, true_and, and_true, not_false_eq_true, hv2]))
      rw [hh]
end Go.Proofs.Ytingdebioipemaa
