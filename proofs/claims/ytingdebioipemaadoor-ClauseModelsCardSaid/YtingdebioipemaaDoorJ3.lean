/- Contracts: the document's side of clauses: right formulas, models. -/
import Derived.Test.YtingdebioipemaaDoorJ2
/- Contracts: the document's side of clauses: right formulas, models. -/
namespace Go.Proofs.YtingdebioipemaaDoor
open Go Go.Am Go.Cl
set_option maxRecDepth 100000
variable {P : Program} {G : Nat → Option V}
end Go.Proofs.YtingdebioipemaaDoor
/- Contracts: the document's side of clauses: what holds in a model. -/
namespace Go.Proofs.YtingdebioipemaaDoor
open Go Go.Am Go.Cl
set_option maxRecDepth 100000
variable {P : Program} {G : Nat → Option V}
def bools (m : List Bool) : V := .lst 1 (m.map V.bool) false
theorem bools_getD {m : List Bool} {j : Nat} (h : j < m.length) : (m.map V.bool).getD j V.any = .bool (m.getD j false) := by
  simp [List.getD_eq_getElem?_getD, List.getElem?_eq_getElem h]
theorem wnat {n : Int} (h : 0 ≤ n ∧ n ≤ 9223372036854775807) : IntKind.i64.wrap n = (n.toNat : Int) := by
  rw [wrap_id]
  · omega
  · simp [IntKind.min, IntKind.signed, IntKind.bits]; omega
  · simp [IntKind.max, IntKind.signed, IntKind.bits]; omega
theorem wself {n : Int} (h : -9223372036854775808 ≤ n ∧ n ≤ 9223372036854775807) : IntKind.i64.wrap n = n := by
  rw [wrap_id]
  · simp [IntKind.min, IntKind.signed, IntKind.bits]; omega
  · simp [IntKind.max, IntKind.signed, IntKind.bits]; omega
abbrev rclJ (t : Nat) (c : List Int) (m : List Bool) : Nat → Fr → H → Prop := fun i fr σ => (∀ n ∈ c.take i, litT m n = false) ∧ fget fr 0 = .lst 1 (ints c) false ∧ fget fr 1 = .lst 1 (m.map V.bool) false ∧ fget fr 5 = .int .i64 ((i : Nat) : Int) ∧ σ = ⟨t, []⟩
abbrev rclE (c : List Int) (m : List Bool) : AE → Fr → H → Prop := fun e fr _ => (e = .ret ∧ fget fr 4 = .bool true ∧ clauseT m c = true) ∨ (e = .ex 0 ∧ clauseT m c = false)
theorem c_rClause (hT : TabOk P tab) (c : List Int) (m : List Bool) (hc : ∀ n ∈ c, n ≠ 0 ∧ -(m.length : Int) ≤ n ∧ n ≤ m.length) (hm : m.length ≤ 16777216) (hl : c.length ≤ 9223372036854775807) :
    Pure P G n_proofmarkref05_Clause [row c, bools m] fun u => u = .bool (clauseT m c) := by
  intro t
  simp only [row, bools]
  refine C_keep 0 (Nat.zero_le _) (C_tab hT t_proofmarkref05_Clause (by simp [proofmarkref05_Clause]) (W_run 1000 ?_))
  simp -implicitDefEqProofs (disch := omega) only [go_sem, ↓reduceIte, reduceCtorEq, Nat.reduceEqDiff, Nat.zero_add, proofmarkref05_Clause, zqh_0, zqh_1, zqh_2, zqh_3, zqh_4, zqh_5, zqh_6]
  refine sem_for c (rclJ t c m) (rclE c m) ⟨by simp, ?_⟩ (fun i n ha fr σ hJ => ?_) (fun i hi fr σ hJ => ?_) (fun e fr σ hE => ?_)
  · simp -implicitDefEqProofs (disch := omega) only [go_sem, ↓reduceIte, reduceCtorEq, Nat.reduceEqDiff, true_and, and_true]
    simp
  · obtain ⟨hno, f0, f1, f5, rfl⟩ := hJ
    obtain ⟨hlt, hD, e2⟩ := at_ints ha hl
    have hnm := List.mem_of_getElem? ha
    have hts := take_snoc ha
    obtain ⟨h0, h1, h2⟩ := hc n hnm
    have hyes : litT m n = true → clauseT m c = true := fun h => List.any_eq_true.2 ⟨n, hnm, h⟩
    have hnext : litT m n = false → ∀ x ∈ c.take (i + 1), litT m x = false := fun h x hx => by
      rw [hts, List.mem_append] at hx
      rcases hx with hx | hx
      · exact hno x hx
      · simp at hx; subst hx; exact h
    by_cases hp : 0 < n
    · have hj : (n - 1).toNat < m.length := by omega
      have e4 := wnat (n := n - 1) (by omega)
      have hB := bools_getD hj
      have hlit : litT m n = m.getD (n - 1).toNat false := by
        have : ¬ n < 0 := by omega
        simp [litT, hp, this]
      rw [← hlit] at hB
      generalize (n - 1).toNat = j at *
      have hp' : decide (0 < n) = true := by simpa using hp
      cases hv : litT m n with
      | true =>
        rw [hv] at hB
        refine W_round [(0, .lst 1 (ints c) false), (1, .lst 1 (m.map V.bool) false), (5, .int .i64 ((i : Nat) : Int))] ⟨f0, f1, f5, trivial⟩  14 ?_
        simp -implicitDefEqProofs (disch := omega) only [go_sem, ↓reduceIte, reduceCtorEq, Nat.reduceEqDiff, decide_true, ints_length, hlt]
        iterate 9 (try (refine run_sem 2 ?_; simp -implicitDefEqProofs (disch := omega) only [go_sem, need_of, ↓reduceIte, reduceCtorEq, Nat.reduceAdd, Nat.reduceEqDiff, Nat.zero_add, decide_true, Nat.le_refl, gt_iff_lt, List.length_map, ints_length, true_implies, and_true, hlt, hD, e4, hj, hB, hp]))
        iterate 9 (try (refine run_sem 4 ?_; simp -implicitDefEqProofs (disch := omega) only [go_sem, ↓reduceIte, reduceCtorEq, Nat.reduceEqDiff]))
        exact .inl ⟨rfl, rfl, hyes hv⟩
      | false =>
        have hn' : ¬ n < 0 := by omega
        have hn'' : decide (n < 0) = false := by simpa using hn'
        rw [hv] at hB
        refine W_round [(0, .lst 1 (ints c) false), (1, .lst 1 (m.map V.bool) false), (5, .int .i64 ((i : Nat) : Int))] ⟨f0, f1, f5, trivial⟩  14 ?_
        simp -implicitDefEqProofs (disch := omega) only [go_sem, ↓reduceIte, reduceCtorEq, Nat.reduceEqDiff, decide_true, ints_length, hlt]
        iterate 9 (try (refine run_sem 2 ?_; simp -implicitDefEqProofs (disch := omega) only [go_sem, need_of, ↓reduceIte, reduceCtorEq, Nat.reduceAdd, Nat.reduceEqDiff, Nat.zero_add, decide_true, Nat.le_refl, gt_iff_lt, List.length_map, ints_length, true_implies, and_true, hlt, hD, e4, hj, hB, hp]))
        iterate 9 (try (refine run_sem 4 ?_; simp -implicitDefEqProofs (disch := omega) only [go_sem, need_of, ↓reduceIte, reduceCtorEq, Nat.reduceAdd, Nat.reduceEqDiff, Nat.zero_add, decide_false, Nat.le_refl, ints_length, true_implies, and_true, hlt, hD, hn']))
        refine ⟨_, _, Shift.refl _ _ _ _, hnext hv, ?_⟩
        simp -implicitDefEqProofs (disch := omega) only [go_sem, ↓reduceIte, reduceCtorEq, Nat.reduceEqDiff, and_true, e2]
    · have hn : n < 0 := by omega
      have hj : (-n - 1).toNat < m.length := by omega
      have e3 := wself (n := 0 - n) (by omega)
      have e4 := wnat (n := 0 - n - 1) (by omega)
      rw [show 0 - n - 1 = -n - 1 by omega] at e4
      rw [show 0 - n = -n by omega] at e3
      have hB := bools_getD hj
      have hlit : litT m n = !m.getD (-n - 1).toNat false := by simp [litT, hn, hp]
      have hp' : decide (0 < n) = false := by simpa using hp
      have hn' : decide (n < 0) = true := by simpa using hn
      have hneg : IntKind.i64.wrap (0 - n) = -n := by rw [show 0 - n = -n by omega]; exact e3
      generalize m.getD (-n - 1).toNat false = b at *
      generalize (-n - 1).toNat = j at *
      cases b with
      | false =>
        refine W_round [(0, .lst 1 (ints c) false), (1, .lst 1 (m.map V.bool) false), (5, .int .i64 ((i : Nat) : Int))] ⟨f0, f1, f5, trivial⟩  14 ?_
        simp -implicitDefEqProofs (disch := omega) only [go_sem, ↓reduceIte, reduceCtorEq, Nat.reduceEqDiff, decide_true, ints_length, hlt]
        iterate 16 (try (refine run_sem 2 ?_; simp -implicitDefEqProofs (disch := omega) only [go_sem, need_of, ↓reduceIte, reduceCtorEq, Nat.reduceAdd, Nat.reduceEqDiff, Nat.zero_add, decide_true, decide_false, Bool.not_false, Nat.le_refl, gt_iff_lt, List.length_map, ints_length, true_implies, and_true, hlt, hD, hneg, e4, hj, hB, hp, hn]))
        iterate 9 (try (refine run_sem 4 ?_; simp -implicitDefEqProofs (disch := omega) only [go_sem, ↓reduceIte, reduceCtorEq, Nat.reduceAdd, Nat.reduceEqDiff]))
        exact .inl ⟨rfl, rfl, hyes hlit⟩
      | true =>
        refine W_round [(0, .lst 1 (ints c) false), (1, .lst 1 (m.map V.bool) false), (5, .int .i64 ((i : Nat) : Int))] ⟨f0, f1, f5, trivial⟩  14 ?_
        simp -implicitDefEqProofs (disch := omega) only [go_sem, ↓reduceIte, reduceCtorEq, Nat.reduceEqDiff, decide_true, ints_length, hlt]
        iterate 16 (try (refine run_sem 2 ?_; simp -implicitDefEqProofs (disch := omega) only [go_sem, need_of, ↓reduceIte, reduceCtorEq, Nat.reduceAdd, Nat.reduceEqDiff, Nat.zero_add, decide_true, decide_false, Bool.not_true, Nat.le_refl, gt_iff_lt, List.length_map, ints_length, true_implies, and_true, hlt, hD, hneg, e4, hj, hB, hp, hn]))
        iterate 9 (try (refine run_sem 4 ?_; simp -implicitDefEqProofs (disch := omega) only [go_sem, ↓reduceIte, reduceCtorEq, Nat.reduceAdd, Nat.reduceEqDiff]))
        refine ⟨_, _, Shift.refl _ _ _ _, hnext hlit, ?_⟩
        simp -implicitDefEqProofs (disch := omega) only [go_sem, ↓reduceIte, reduceCtorEq, Nat.reduceEqDiff, and_true, e2]
  · obtain ⟨hno, f0, f1, f5, rfl⟩ := hJ
    rw [hi, List.take_length] at hno
    have hr : clauseT m c = false := List.any_eq_false.2 fun n h => by rw [hno n h]; simp
    refine W_round [(0, .lst 1 (ints c) false), (1, .lst 1 (m.map V.bool) false), (5, .int .i64 ((i : Nat) : Int))] ⟨f0, f1, f5, trivial⟩  1000 ?_
    simp -implicitDefEqProofs (disch := omega) only [go_sem, ↓reduceIte, reduceCtorEq, Nat.reduceEqDiff, decide_false, ints_length, hi, Nat.lt_irrefl]
    exact .inr ⟨rfl, hr⟩
  · rcases hE with ⟨rfl, f4, hm⟩ | ⟨rfl, hm⟩
    · refine run_sem 1000 ?_
      simp -implicitDefEqProofs (disch := omega) only [go_sem, Nat.zero_le, and_true, f4, hm]
    · refine run_sem 1000 ?_
      simp -implicitDefEqProofs (disch := omega) only [go_sem, ↓reduceIte, Nat.zero_le, and_true, hm]
theorem nameless_bools (m : List Bool) : namelessL (m.map V.bool) = true := by
  induction m with
  | nil => rfl
  | cons b m ih => simpa [namelessL, nameless] using ih
end Go.Proofs.YtingdebioipemaaDoor
/- Contracts: the document's side of clauses: clean ones. -/
namespace Go.Proofs.YtingdebioipemaaDoor
open Go Go.Am Go.Cl
set_option maxRecDepth 100000
variable {P : Program} {G : Nat → Option V}
end Go.Proofs.YtingdebioipemaaDoor
/- Contracts: the document's side of clauses: literals let hold; the literals gone through. -/
namespace Go.Proofs.YtingdebioipemaaDoor
open Go Go.Am Go.Cl
set_option maxRecDepth 100000
variable {P : Program} {G : Nat → Option V}
end Go.Proofs.YtingdebioipemaaDoor
/- Contracts: the document's side of clauses: literals let hold; a clause gone through. -/
namespace Go.Proofs.YtingdebioipemaaDoor
open Go Go.Am Go.Cl
set_option maxRecDepth 100000
variable {P : Program} {G : Nat → Option V}
end Go.Proofs.YtingdebioipemaaDoor
/- Contracts: the document's side of clauses: literals let hold; the clauses gone through. -/
namespace Go.Proofs.YtingdebioipemaaDoor
open Go Go.Am Go.Cl
set_option maxRecDepth 100000
variable {P : Program} {G : Nat → Option V}
end Go.Proofs.YtingdebioipemaaDoor
/- Contracts: the document's side of clauses: literals let hold. -/
namespace Go.Proofs.YtingdebioipemaaDoor
open Go Go.Am Go.Cl
set_option maxRecDepth 100000
variable {P : Program} {G : Nat → Option V}
end Go.Proofs.YtingdebioipemaaDoor
