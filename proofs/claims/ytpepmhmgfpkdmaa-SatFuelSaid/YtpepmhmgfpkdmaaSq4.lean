/- Contracts: an answer is the same as itself. -/
import Derived.Test.YtpepmhmgfpkdmaaSq3
namespace Go.Proofs.Ytpepmhmgfpkdmaa
open Go Go.Am Go.Cl Go.Sat
set_option maxRecDepth 100000
variable {P : Program} {G : Nat → Option V}

theorem bls_getD {l : List Bool} {i : Nat} (h : i < l.length) : (bls l).getD i V.any = .bool (l.getD i false) := by simp [bls, List.getD_eq_getElem?_getD, h]

def ansC (k : Int) (z1 : Nat) (m : List Bool) (t1 : Bool) (z2 : Nat) (p : List (List Int)) (t2 : Bool) (u : Int) : List V := [.int .u8 k, .lst z1 (bls m) t1, .lst z2 (p.map row) t2, .int .i64 u]
def smH (t : Nat) (k : Int) (z1 : Nat) (m : List Bool) (t1 : Bool) (z2 : Nat) (p : List (List Int)) (t2 : Bool) (u : Int) : List (Option Ob) := [some (.arr t 32 (ansC k z1 m t1 z2 p t2 u)), some (.arr (t + 1) 32 (ansC k z1 m t1 z2 p t2 u))]

theorem c_same (hT : TabOk P tab) {k u : Int} {m : List Bool} {p : List (List Int)} {z1 z2 : Nat} {t1 t2 : Bool} (hz1 : m = [] ∨ z1 = 1) (hz2 : p = [] ∨ z2 = 1) (hm : m.length ≤ 8388608) (hp : p.length ≤ 8388608) (hc : ∀ c ∈ p, c.length ≤ 8388608) :
    Pure P G n_proofmarklaw07_same [.agg (ansC k z1 m t1 z2 p t2 u), .agg (ansC k z1 m t1 z2 p t2 u)] fun x => x = .bool true := by
  intro t
  refine C_keep 0 (Nat.zero_le _) (C_tab hT t_proofmarklaw07_same (by simp [proofmarklaw07_same]) (W_run 1000 ?_))
  simp -implicitDefEqProofs (disch := omega) only [go_sem, ↓reduceIte, reduceCtorEq, Nat.reduceAdd, Nat.reduceEqDiff, Nat.reduceLeDiff, Nat.zero_add, Nat.add_zero, Nat.le_refl, bne_self_eq_false, proofmarklaw07_same, proofmarklaw07_same_r0, proofmarklaw07_same_r1, proofmarklaw07_same_r2, proofmarklaw07_same_r3, proofmarklaw07_same_r4, proofmarklaw07_same_r5, proofmarklaw07_same_r6, proofmarklaw07_same_r7, proofmarklaw07_same_r8, proofmarklaw07_same_r9, proofmarklaw07_same_r10, proofmarklaw07_same_r11, proofmarklaw07_same_r12, proofmarklaw07_same_r13, ansC, List.length_map, bls_length, true_implies, and_true, bne_self_eq_false]
  refine sem_upto m.length (fun i fr σ => fget fr 2 = .ptr 0 t 0 ∧ fget fr 3 = .ptr 1 (t + 1) 0 ∧ fget fr 5 = .int .i64 (i : Int) ∧ σ = ⟨t + 1 + 1, smH t k z1 m t1 z2 p t2 u⟩) (fun e fr σ => e = .ex 0 ∧ fget fr 2 = .ptr 0 t 0 ∧ fget fr 3 = .ptr 1 (t + 1) 0 ∧ σ = ⟨t + 1 + 1, smH t k z1 m t1 z2 p t2 u⟩) ⟨rfl, rfl, rfl, rfl⟩ (fun i hi fr σ hJ => ?_) (fun i hi fr σ hJ => ?_) (fun e fr σ hE => ?_)
  · obtain ⟨f2, f3, f5, rfl⟩ := hJ
    have hz : z1 = 1 := hz1.resolve_left fun e => by rw [e] at hi; simp at hi
    subst hz
    have hlt : (i : Int) < (m.length : Int) := by omega
    have e2 := wnext hi (by omega)
    have hD := bls_getD hi
    refine W_round [(2, .ptr 0 t 0), (3, .ptr 1 (t + 1) 0), (5, .int .i64 (i : Int))] ⟨f2, f3, f5, trivial⟩  1000 ?_
    simp -implicitDefEqProofs (disch := omega) only [go_sem, need_of, ↓reduceIte, Nat.reduceAdd, Nat.reduceEqDiff, Nat.reduceLeDiff, Nat.zero_add, decide_true, Nat.le_refl, bne_self_eq_false, smH, ansC, bls_length, true_implies, and_true, hlt, hi, hD, e2, bne_self_eq_false]
    try exact ⟨_, _, Shift.refl _ _ _ _, rfl, rfl, rfl, rfl⟩
  · obtain ⟨f2, f3, f5, rfl⟩ := hJ
    have hge : ¬ (i : Int) < (m.length : Int) := by omega
    refine W_round [(2, .ptr 0 t 0), (3, .ptr 1 (t + 1) 0), (5, .int .i64 (i : Int))] ⟨f2, f3, f5, trivial⟩  1000 ?_
    simp -implicitDefEqProofs (disch := omega) only [go_sem, ↓reduceIte, Nat.reduceAdd, Nat.reduceEqDiff, Nat.reduceLeDiff, Nat.zero_add, decide_false, smH, ansC, bls_length, true_implies, and_true, hge]
  · obtain ⟨rfl, f2, f3, rfl⟩ := hE
    refine sem_exit [(2, .ptr 0 t 0), (3, .ptr 1 (t + 1) 0)] ⟨f2, f3, trivial⟩  1000 ?_
    simp -implicitDefEqProofs (disch := omega) only [go_sem, ↓reduceIte, Nat.reduceEqDiff, smH, ansC]
    refine sem_upto p.length (fun i fr σ => fget fr 2 = .ptr 0 t 0 ∧ fget fr 3 = .ptr 1 (t + 1) 0 ∧ fget fr 6 = .int .i64 (i : Int) ∧ σ = ⟨t + 1 + 1, smH t k z1 m t1 z2 p t2 u⟩) (fun e fr σ => e = .ex 2) ⟨rfl, rfl, rfl, rfl⟩ (fun i hi fr σ hJ => ?_) (fun i hi fr σ hJ => ?_) (fun e fr σ hE => ?_)
    · obtain ⟨f2, f3, f6, rfl⟩ := hJ
      have hz : z2 = 1 := hz2.resolve_left fun e => by rw [e] at hi; simp at hi
      subst hz
      obtain ⟨c, hci⟩ : ∃ c, p[i]? = some c := ⟨_, List.getElem?_eq_getElem hi⟩
      have hlt : (i : Int) < (p.length : Int) := by omega
      have e2 := wnext hi (by omega)
      have hD := rows_getD hci
      have hcl := hc c (List.mem_of_getElem? hci)
      have hS := c_SameInts (P := P) (G := G) hT c c (by omega) (by omega)
      simp only [row, decide_true] at hS
      refine W_round [(2, .ptr 0 t 0), (3, .ptr 1 (t + 1) 0), (6, .int .i64 (i : Int))] ⟨f2, f3, f6, trivial⟩  1000 ?_
      simp -implicitDefEqProofs (disch := omega) only [go_sem, need_of, ↓reduceIte, Nat.reduceAdd, Nat.reduceEqDiff, Nat.reduceLeDiff, Nat.zero_add, decide_true, Nat.le_refl, smH, ansC, List.length_map, true_implies, and_true, hlt, hi, hD]
      refine callPS hT t_proofmarkkit_SameInts hS (by simp [namelessL, nameless]) 1000 ?_
      simp -implicitDefEqProofs (disch := omega) only [go_sem, ↓reduceIte, Nat.reduceEqDiff, Bool.not_true, e2]
      exact ⟨_, _, Shift.refl _ _ _ _, rfl, rfl, rfl, rfl⟩
    · obtain ⟨f2, f3, f6, rfl⟩ := hJ
      have hge : ¬ (i : Int) < (p.length : Int) := by omega
      refine W_round [(2, .ptr 0 t 0), (3, .ptr 1 (t + 1) 0), (6, .int .i64 (i : Int))] ⟨f2, f3, f6, trivial⟩  1000 ?_
      simp -implicitDefEqProofs (disch := omega) only [go_sem, ↓reduceIte, Nat.reduceAdd, Nat.reduceEqDiff, Nat.reduceLeDiff, Nat.zero_add, decide_false, smH, ansC, List.length_map, true_implies, and_true, hge]
    · subst hE
      refine run_sem 1000 ?_
      simp -implicitDefEqProofs (disch := omega) only [go_sem, ↓reduceIte, Nat.zero_le, and_true]
end Go.Proofs.Ytpepmhmgfpkdmaa

