/- What a cell is known to be. -/
import Derived.Test.YtfligilbnpcnaaaGreatDoorWo3
namespace Go.Proofs.YtfligilbnpcnaaaGreatDoor
open Go Go.Am
set_option maxRecDepth 100000
set_option maxHeartbeats 1000000
variable {P : Program} {G : Nat → Option V}

/-- A function handed over tells a truth of cells, and only reads. -/
def TellsC (P : Program) (G : Nat → Option V) (base : Nat) (f : V) (o : List (Option Ob)) (p : Cl → Bool) : Prop :=
  ∀ t n, CV P G base f [n.v] ⟨t, o⟩ fun v σ => v = .bool (p n) ∧ ∃ t', t ≤ t' ∧ σ = ⟨t', o⟩
/-- The first place of which it is true; -1: none. -/
def fstC (p : Cl → Bool) : List Cl → Nat → Int
  | [], _ => -1
  | n :: c, i => if p n then i else fstC p c (i + 1)
theorem fstC_neg {p : Cl → Bool} : ∀ {c : List Cl} {i : Nat}, (∀ n ∈ c, p n = false) → fstC p c i = -1
  | [], _, _ => rfl
  | n :: c, i, h => by rw [fstC, h n (by simp), if_neg (by simp), fstC_neg fun m hm => h m (by simp [hm])]
theorem fstC_at {p : Cl → Bool} : ∀ {c : List Cl} {i k : Nat} {n : Cl}, (∀ m ∈ c.take k, p m = false) → c[k]? = some n → p n = true → fstC p c i = ((i + k : Nat) : Int)
  | [], _, _, _, _, h, _ => by simp at h
  | m :: c, i, 0, n, _, h, hp => by simp at h; subst h; simp [fstC, hp]
  | m :: c, i, k + 1, n, h, hk, hp => by
    rw [fstC, h m (by simp), if_neg (by simp), fstC_at (k := k) (fun m hm => h m (by simp [hm])) (by simpa using hk) hp]
    congr 1; omega
theorem cells_get {l : List Cl} {i : Nat} {x : Cl} (h : l[i]? = some x) : (l.map Cl.v).getD i .any = x.v := by simp [List.getD_eq_getElem?_getD, h]

theorem c_IndexC (hT : TabOk P tab) {base t : Nat} {o : List (Option Ob)} {f : V} {p : Cl → Bool} {c : List Cl} {z : Bool} (hp : TellsC P G base f o p) (hl : c.length ≤ 1000000) :
    C P G base n_slices_IndexFunc_value_Cell_value_Cell [.lst 4 (c.map Cl.v) z, f] ⟨t, o⟩ fun v σ => v = .int .i64 (fstC p c 0) ∧ ∃ t', t ≤ t' ∧ σ = ⟨t', o⟩ := by
  refine C_tab hT t_slices_IndexFunc_value_Cell_value_Cell (by simp [slices_IndexFunc_value_Cell_value_Cell]) (W_run 1000 ?_)
  simp -implicitDefEqProofs (disch := omega) only [go_sem, ↓reduceIte, reduceCtorEq, Nat.reduceEqDiff, Nat.zero_add, slices_IndexFunc_value_Cell_value_Cell, zqm_0, zqm_1, zqm_2, zqm_3, zqm_4, zqm_5, zqm_6, zqm_7, List.length_map]
  refine sem_invE (fun m fr σ => ∃ i t', i ≤ c.length ∧ m = c.length - i ∧ (∀ n ∈ c.take i, p n = false) ∧ t ≤ t' ∧ fget fr 0 = .lst 4 (c.map Cl.v) z ∧ fget fr 1 = f ∧ fget fr 7 = .int .i64 c.length ∧ fget fr 8 = .int .i64 i ∧ σ = ⟨t', o⟩)
    (fun e fr σ => ∃ t', t ≤ t' ∧ σ = ⟨t', o⟩ ∧ ((e = .ret ∧ fget fr 4 = .int .i64 (fstC p c 0)) ∨ (e = .ex 0 ∧ fstC p c 0 = -1)))
    (m0 := c.length) ⟨0, t, by omega, rfl, by simp, by omega, ?_⟩ (fun m fr σ hJ => ?_) (fun e fr σ hE => ?_)
  · simp -implicitDefEqProofs (disch := omega) only [go_sem, ↓reduceIte, reduceCtorEq, Nat.reduceEqDiff]
    simp
  · obtain ⟨i, t', hi, rfl, hno, ht, f0, f1, f7, f8, rfl⟩ := hJ
    refine W_run 1000 ?_
    rcases Nat.lt_or_ge i c.length with hlt | hge
    · obtain ⟨n, hni⟩ : ∃ n, c[i]? = some n := ⟨_, List.getElem?_eq_getElem hlt⟩
      have hD := cells_get hni
      have e2 := w_nx hlt (by omega)
      simp -implicitDefEqProofs (disch := omega) only [go_sem, need_of, ↓reduceIte, reduceCtorEq, Nat.reduceAdd, Nat.reduceEqDiff, Nat.succ_ne_zero, Nat.zero_add, decide_true, Nat.le_refl, List.length_map, f0, f1, f7, f8, hlt, hD, Cl.v, List.length_cons, List.length_nil, List.take_succ_cons, List.take_zero]
      refine CV.use 1000 (hp t' n) fun v σ hv => ?_
      obtain ⟨rfl, t2, ht2, rfl⟩ := hv
      cases hpn : p n with
      | true =>
        simp -implicitDefEqProofs (disch := omega) only [go_sem, ↓reduceIte, reduceCtorEq, Nat.reduceEqDiff]
        rw [fstC_at hno hni hpn]
        exact ⟨t2, by omega, rfl, by simp⟩
      | false =>
        simp -implicitDefEqProofs (disch := omega) only [go_sem, ↓reduceIte, Nat.reduceEqDiff, f8]
        refine ⟨c.length - (i + 1), _, _, by omega, Shift.refl _ _ _ _, i + 1, t2, by omega, rfl, fun m hm => ?_, by omega, ?_⟩
        · rw [take_snoc2 hni] at hm
          simp at hm
          rcases hm with hm | rfl
          · exact hno m hm
          · exact hpn
        · simp -implicitDefEqProofs (disch := omega) only [go_sem, ↓reduceIte, reduceCtorEq, Nat.reduceEqDiff, Nat.succ_ne_zero, f0, f1, f7, e2]
    · have hi : i = c.length := by omega
      subst hi
      simp -implicitDefEqProofs (disch := omega) only [go_sem, ↓reduceIte, reduceCtorEq, Nat.reduceEqDiff, decide_false, f7, f8, Nat.lt_irrefl]
      rw [List.take_length] at hno
      exact ⟨t', ht, rfl, fstC_neg hno⟩
  · obtain ⟨t', ht, rfl, hE⟩ := hE
    rcases hE with ⟨rfl, f4⟩ | ⟨rfl, hh⟩
    · refine run_sem 1000 ?_
      simp -implicitDefEqProofs (disch := omega) only [go_sem, f4]
      exact ⟨t', ht, rfl⟩
    · refine run_sem 1000 ?_
      simp -implicitDefEqProofs (disch := omega) only [go_sem, ↓reduceIte, hh]
      exact ⟨t', ht, rfl⟩

def isC (a w x : Int) (c : Cl) : Bool := decide (c.arr = a ∧ c.ver = w ∧ c.at' = x)
def eH (v0 v1 v2 v3 : Nat) (e : List V) (a w x : Int) : List (Option Ob) := [some (.arr v0 26 e), some (.arr v1 3 [.int .i64 a]), some (.arr v2 2 [.int .i64 w]), some (.arr v3 2 [.int .i64 x])]
theorem c_CellIs (hT : TabOk P tab) {v0 v1 v2 v3 t : Nat} {e : List V} {a w x : Int} (c : Cl) :
    C P G 0 n_value_Env_Cell_S1 [c.v, .ptr 1 v1 0, .ptr 2 v2 0, .ptr 3 v3 0] ⟨t, eH v0 v1 v2 v3 e a w x⟩ fun v σ => v = .bool (isC a w x c) ∧ ∃ t', t ≤ t' ∧ σ = ⟨t', eH v0 v1 v2 v3 e a w x⟩ := by
  refine C_keep 4 (Nat.zero_le _) (C_tab hT t_value_Env_Cell_S1 (by simp [value_Env_Cell_S1]) (W_run 14 ?_))
  by_cases h1 : c.arr = a
  · have h1' : decide (c.arr = a) = true := by simpa using h1
    by_cases h2 : c.ver = w
    · have h2' : decide (c.ver = w) = true := by simpa using h2
      simp -implicitDefEqProofs (disch := omega) only [go_sem, ↓reduceIte, reduceCtorEq, Nat.reduceAdd, Nat.reduceEqDiff, Nat.reduceLeDiff, Nat.zero_add, Nat.add_zero, Nat.le_refl, beq_self_eq_true, value_Env_Cell_S1, zqn_0, zqn_1, eH, Cl.v, isC, List.length_nil, List.length_cons, List.nil_append, List.cons_append, true_implies, true_and, and_self, h1, h2]
      iterate 9 (try (refine run_sem 4 ?_; simp -implicitDefEqProofs (disch := omega) only [go_sem, ↓reduceIte, reduceCtorEq, Nat.reduceAdd, Nat.reduceEqDiff, Nat.reduceLeDiff, Nat.zero_add, Nat.le_refl, beq_self_eq_true, List.length_nil, List.length_cons, true_implies, true_and, and_true, and_self]))
      exact ⟨rfl, t + 1, by omega, rfl⟩
    · have h2' : decide (c.ver = w) = false := by simpa using h2
      simp -implicitDefEqProofs (disch := omega) only [go_sem, ↓reduceIte, reduceCtorEq, Nat.reduceAdd, Nat.reduceEqDiff, Nat.reduceLeDiff, Nat.zero_add, Nat.add_zero, decide_false, Nat.le_refl, beq_self_eq_true, value_Env_Cell_S1, zqn_0, zqn_1, eH, Cl.v, isC, List.length_nil, List.length_cons, List.nil_append, List.cons_append, true_implies, false_and, and_false, and_self, h1, h2]
      iterate 9 (try (refine run_sem 4 ?_; simp -implicitDefEqProofs (disch := omega) only [go_sem, ↓reduceIte, reduceCtorEq, Nat.reduceAdd, Nat.reduceEqDiff, Nat.reduceLeDiff, Nat.zero_add, Nat.le_refl, List.length_nil, List.length_cons, not_false_eq_true, false_implies, true_implies, true_and, and_true, and_self, h2]))
      exact ⟨t + 1, by omega, rfl⟩
  · have h1' : decide (c.arr = a) = false := by simpa using h1
    simp -implicitDefEqProofs (disch := omega) only [go_sem, ↓reduceIte, reduceCtorEq, Nat.reduceAdd, Nat.reduceEqDiff, Nat.reduceLeDiff, Nat.zero_add, Nat.add_zero, decide_false, Nat.le_refl, value_Env_Cell_S1, zqn_0, zqn_1, eH, Cl.v, isC, List.length_nil, List.length_cons, List.nil_append, List.cons_append, not_false_eq_true, false_implies, true_implies, true_and, false_and, and_self, h1]
    iterate 9 (try (refine run_sem 4 ?_; simp -implicitDefEqProofs (disch := omega) only [go_sem, ↓reduceIte, reduceCtorEq, Nat.reduceAdd, Nat.reduceEqDiff, Nat.reduceLeDiff, Nat.zero_add, List.length_nil, List.length_cons, true_and, and_true]))
    exact ⟨t + 1, by omega, rfl⟩
end Go.Proofs.YtfligilbnpcnaaaGreatDoor

