/- One term's value: the closure of the program's All. -/
import Derived.Test.YtfligilbnpcnaaaGreatDoorWo6
namespace Go.Proofs.YtfligilbnpcnaaaGreatDoor
open Go Go.Am
set_option maxRecDepth 100000
set_option maxHeartbeats 1000000
variable {P : Program} {G : Nat → Option V}

/-- The value of a term whose parts are known. -/
def oneV (S : List Int) (C : List Cl) (K : List (Int × Int)) (d : Nd) : Int :=
  if d.kind = 1 then d.n else if d.kind = 2 then symE S d.n else if d.kind = 3 then cellE C d.a d.n ((kAt K d.y).getD 0) else doW d.op ((kAt K d.x).getD 0) ((kAt K d.y).getD 0)
def allH (ve vm vk : Nat) (S : List Int) (tS : Bool) (C : List Cl) (tC : Bool) (K : List (Int × Int)) : List (Option Ob) :=
  [some (.arr ve 26 [.lst 1 (nints S) tS, .lst 4 (C.map Cl.v) tC]), some (.map vm (kEs K)), some (.arr vk 72 [.mp 6 vm])]
theorem kGt_9 {fmt : Int → List UInt8} {v0 v1 v2 v3 v4 : Nat} {L : List Nd} {ex : List (Option Ob)} {x0 x1 x2 x3 : Option Ob} : (kG fmt v0 v1 v2 v3 v4 L ++ x0 :: x1 :: x2 :: x3 :: ex).take 9 = kG fmt v0 v1 v2 v3 v4 L ++ [x0, x1, x2, x3] := rfl
theorem getD_map (o : Option Int) : (o.map (V.int .i64)).getD (.int .i64 0) = .int .i64 (o.getD 0) := by cases o <;> rfl
theorem kAt_i64 {K : List (Int × Int)} (hK : ∀ p ∈ K, i64 p.2) (x : Int) : i64 ((kAt K x).getD 0) := by
  unfold kAt
  cases h : K.find? fun p => decide (x = p.1) with
  | none => simp [i64]
  | some p => simpa using hK p (List.mem_of_find?_eq_some h)
theorem c_One {b : Nat} (hb : b ≤ 9) (hT : TabOk P tab) {fmt : Int → List UInt8} {v0 v1 v2 v3 v4 ve vm vk t : Nat} {L : List Nd} {y8 : Option Ob} (S : List Int) (tS : Bool) (C' : List Cl) (hC : C'.length ≤ 1000000) (tC : Bool) (K : List (Int × Int)) (hK : ∀ p ∈ K, i64 p.2) (d : Nd) (hk : d.kind = 1 ∨ d.kind = 2 ∨ d.kind = 3 ∨ d.kind = 4) (ho : 0 ≤ d.op ∧ d.op ≤ 255) :
    C P G b n_value_All_S1 [.agg d.cells, .ptr 5 ve 0, .ptr 7 vk 0] ⟨t, kG fmt v0 v1 v2 v3 v4 L ++ (allH ve vm vk S tS C' tC K ++ [y8])⟩ fun v σ => v = .int .i64 (oneV S C' K d) ∧ ∃ t', t ≤ t' ∧ σ = ⟨t', kG fmt v0 v1 v2 v3 v4 L ++ (allH ve vm vk S tS C' tC K ++ [y8])⟩ := by
  refine C_keep 9 hb (C_tab hT t_value_All_S1 (by simp [value_All_S1]) (W_run 1000 ?_))
  rcases hk with k | k | k | k
  · have e : oneV S C' K d = d.n := by rw [oneV, if_pos k]
    rw [e]
    simp -implicitDefEqProofs (disch := omega) only [go_sem, ↓reduceIte, reduceCtorEq, Nat.reduceAdd, Nat.reduceEqDiff, Nat.reduceLeDiff, Nat.zero_add, Nat.add_zero, beq_self_eq_true, value_All_S1, zqp_0, zqp_1, zqp_2, zqp_3, zqp_4, zqp_5, zqp_6, zqp_7, zqp_8, Nd.cells, kG_len, kG_app, kG_9, kGt_9, allH, List.length_nil, List.length_cons, List.nil_append, List.cons_append, true_implies, true_and, and_true, k]
    exact ⟨t + 1, by omega, rfl⟩
  · have e : oneV S C' K d = symE S d.n := by rw [oneV, if_neg (by omega), if_pos k]
    rw [e]
    simp -implicitDefEqProofs (disch := omega) only [go_sem, ↓reduceIte, reduceCtorEq, Nat.reduceAdd, Nat.reduceEqDiff, Nat.reduceLeDiff, Nat.zero_add, Nat.add_zero, Nat.le_refl, beq_self_eq_true, value_All_S1, zqp_0, zqp_1, zqp_2, zqp_3, zqp_4, zqp_5, zqp_6, zqp_7, zqp_8, Nd.cells, kG_len, kG_app, kG_5, kG_9, allH, List.length_nil, List.length_cons, List.nil_append, List.cons_append, false_implies, true_implies, and_true, k, Int.reduceBEq]
    refine callPS hT t_value_Env_Sym (c_Sym hT S tS 4 C' tC d.n) (by simp [namelessL, nameless]) 1000 ?_
    simp -implicitDefEqProofs (disch := omega) only [go_sem, ↓reduceIte, reduceCtorEq, Nat.reduceAdd, Nat.reduceEqDiff, Nat.reduceLeDiff, Nat.zero_add, kG_len, kGt_9, List.length_nil, List.length_cons, true_and, and_true]
    exact ⟨t + 1, by omega, rfl⟩
  · have e : oneV S C' K d = cellE C' d.a d.n ((kAt K d.y).getD 0) := by rw [oneV, if_neg (by omega), if_neg (by omega), if_pos k]
    rw [e]
    simp -implicitDefEqProofs (disch := omega) only [go_sem, ↓reduceIte, reduceCtorEq, Nat.reduceAdd, Nat.reduceEqDiff, Nat.reduceLeDiff, Nat.zero_add, Nat.add_zero, Nat.le_refl, beq_self_eq_true, value_All_S1, zqp_0, zqp_1, zqp_2, zqp_3, zqp_4, zqp_5, zqp_6, zqp_7, zqp_8, Nd.cells, kG_len, kG_app, kG_5, kG_6, kG_7, kG_9, allH, mget_kEs, keysOk_kEs, getD_map, List.length_nil, List.length_cons, List.nil_append, List.cons_append, false_implies, true_implies, and_true, k, Int.reduceBEq]
    refine callPS hT t_value_Env_Cell (c_Cell hT S tS C' hC tC d.a d.n _) (by simp [namelessL, nameless]) 1000 ?_
    simp -implicitDefEqProofs (disch := omega) only [go_sem, ↓reduceIte, reduceCtorEq, Nat.reduceAdd, Nat.reduceEqDiff, Nat.reduceLeDiff, Nat.zero_add, kG_len, kGt_9, List.length_nil, List.length_cons, true_and, and_true]
    exact ⟨t + 1, by omega, rfl⟩
  · have e : oneV S C' K d = doW d.op ((kAt K d.x).getD 0) ((kAt K d.y).getD 0) := by rw [oneV, if_neg (by omega), if_neg (by omega), if_neg (by omega)]
    rw [e]
    simp -implicitDefEqProofs (disch := omega) only [go_sem, ↓reduceIte, reduceCtorEq, Nat.reduceAdd, Nat.reduceEqDiff, Nat.reduceLeDiff, Nat.zero_add, Nat.add_zero, Nat.le_refl, value_All_S1, zqp_0, zqp_1, zqp_2, zqp_3, zqp_4, zqp_5, zqp_6, zqp_7, zqp_8, Nd.cells, kG_len, kG_app, kG_6, kG_7, kG_9, allH, mget_kEs, keysOk_kEs, getD_map, List.length_nil, List.length_cons, List.nil_append, List.cons_append, true_implies, and_true, k, Int.reduceBEq]
    refine callPS hT t_word_Do (c_Do hT ho.1 ho.2 (kAt_i64 hK _) (kAt_i64 hK _)) rfl 1000 ?_
    simp -implicitDefEqProofs (disch := omega) only [go_sem, ↓reduceIte, reduceCtorEq, Nat.reduceAdd, Nat.reduceEqDiff, Nat.reduceLeDiff, Nat.zero_add, kG_len, kGt_9, List.length_nil, List.length_cons, true_and, and_true]
    exact ⟨t + 1, by omega, rfl⟩
end Go.Proofs.YtfligilbnpcnaaaGreatDoor

