/- What a cell is known to be: the program's Env.Cell. -/
import Derived.Test.YtfligilbnpcnaaaGreatDoorWo4
namespace Go.Proofs.YtfligilbnpcnaaaGreatDoor
open Go Go.Am
set_option maxRecDepth 100000
set_option maxHeartbeats 1000000
variable {P : Program} {G : Nat → Option V}

theorem fstC_lt {p : Cl → Bool} : ∀ {c : List Cl} {i : Nat}, fstC p c i = -1 ∨ ∃ k n, c[k]? = some n ∧ fstC p c i = ((i + k : Nat) : Int)
  | [], _ => .inl rfl
  | n :: c, i => by
    unfold fstC
    split
    · exact .inr ⟨0, n, rfl, rfl⟩
    · rcases fstC_lt (p := p) (c := c) (i := i + 1) with h | ⟨k, m, h1, h2⟩
      · exact .inl h
      · exact .inr ⟨k + 1, m, by simpa using h1, by rw [h2]; congr 1; omega⟩
/-- What a cell is. -/
def cellE (C : List Cl) (a w x : Int) : Int := if fstC (isC a w x) C 0 < 0 then 0 else ((C[(fstC (isC a w x) C 0).toNat]?).map Cl.n).getD 0
theorem c_Cell (hT : TabOk P tab) (S : List Int) (tS : Bool) (C' : List Cl) (hC : C'.length ≤ 1000000) (tC : Bool) (a w x : Int) : Pure P G n_value_Env_Cell [envV S tS 4 C' tC, .int .i64 a, .int .i64 w, .int .i64 x] fun v => v = .int .i64 (cellE C' a w x) := by
  intro t
  refine C_keep 0 (Nat.zero_le _) (C_tab hT t_value_Env_Cell (by simp [value_Env_Cell]) (W_run 1000 ?_))
  simp -implicitDefEqProofs (disch := omega) only [go_sem, ↓reduceIte, reduceCtorEq, Nat.reduceAdd, Nat.reduceEqDiff, Nat.zero_add, Nat.le_refl, value_Env_Cell, zq9_0, zq9_1, zq9_2, zq9_3, zq9_4, envV, List.length_nil, List.length_cons, List.nil_append, List.cons_append, true_implies, and_true]
  refine call hT t_slices_IndexFunc_value_Cell_value_Cell (c_IndexC (p := isC a w x) (o := eH t (t + 1) (t + 1 + 1) (t + 1 + 1 + 1) [.lst 1 (nints S) tS, .lst 4 (C'.map Cl.v) tC] a w x) hT (fun t' n => CV.of hT t_value_Env_Cell_S1 (c_CellIs hT n)) hC) 1000 fun v σ hv => ?_
  obtain ⟨rfl, t2, ht2, rfl⟩ := hv
  rcases fstC_lt (p := isC a w x) (c := C') (i := 0) with h | ⟨k, n, h1, h2⟩
  · have e : cellE C' a w x = 0 := by rw [cellE, h]; rfl
    rw [h, e]
    simp -implicitDefEqProofs (disch := omega) only [go_sem, ↓reduceIte, reduceCtorEq, Nat.reduceAdd, Nat.reduceEqDiff, Int.reduceLT, Nat.zero_add, decide_true, Nat.zero_le, eH, List.length_nil, List.length_cons, and_true]
  · have e : cellE C' a w x = n.n := by rw [cellE, h2, if_neg (by omega)]; simp [h1]
    have hD := cells_get h1
    have hlt := (List.getElem?_eq_some_iff.1 h1).1
    rw [h2, e]
    rw [Nat.zero_add]
    simp -implicitDefEqProofs (disch := omega) only [go_sem, need_of, ↓reduceIte, reduceCtorEq, Nat.reduceAdd, Nat.reduceEqDiff, Nat.zero_add, Nat.le_refl, Nat.zero_le, eH, List.length_map, List.length_nil, List.length_cons, true_implies, true_and, and_true, hD, hlt, Cl.v]
    intro hk
    omega
end Go.Proofs.YtfligilbnpcnaaaGreatDoor

