/- The facts of an operation. -/
import Derived.Test.YtfligilbnpcnaaaGreatDoorWo1
namespace Go.Proofs.YtfligilbnpcnaaaGreatDoor
open Go Go.Am
set_option maxRecDepth 100000
set_option maxHeartbeats 1000000
variable {P : Program} {G : Nat → Option V}
theorem nil1 : Value.nilFunc.oneCell' = true := rfl
def fact (f : V) (b c : Bool) (n : Int) (d : Bool) : V := .agg [f, .bool b, .bool c, .int .i64 n, .bool d]
theorem of_0 (hT : TabOk P tab) : Pure P G n_word_of [.int .u8 0] fun v => v = fact (.val .nilFunc) false false 0 false := by
  intro t
  refine C_keep 0 (Nat.zero_le _) (C_tab hT t_word_of (by simp [word_of]) (W_run 1000 ?_))
  simp -implicitDefEqProofs (disch := omega) only [go_sem, ↓reduceIte, reduceCtorEq, Nat.reduceAdd, Nat.reduceEqDiff, Nat.reduceLeDiff, Nat.reduceLT, Int.reduceToNat, Int.reduceLE, Nat.zero_add, Nat.add_zero, Nat.zero_mul, decide_false, Bool.not_false, Nat.le_refl, Nat.zero_le, ge_iff_le, word_of, zq17_0, zq17_1, zq17_2, zq17_3, zq17_4, List.length_nil, List.length_cons, List.nil_append, List.cons_append, nil1, show IntKind.i64.wrap 0 = 0 from rfl, false_implies, and_true, fact]
theorem of_1 (hT : TabOk P tab) : Pure P G n_word_of [.int .u8 1] fun v => v = fact (.fn (.func n_word_of_S1) [] []) true true (0) true := by
  intro t
  refine C_keep 0 (Nat.zero_le _) (C_tab hT t_word_of (by simp [word_of]) (W_run 1000 ?_))
  simp -implicitDefEqProofs (disch := omega) only [go_sem, ↓reduceIte, reduceCtorEq, Nat.reduceAdd, Nat.reduceEqDiff, Nat.reduceLeDiff, Nat.reduceLT, Int.reduceToNat, Int.reduceLE, Nat.zero_add, Nat.one_mul, decide_false, Bool.not_false, Nat.le_refl, Nat.zero_le, ge_iff_le, word_of, zq17_0, zq17_1, zq17_2, zq17_3, zq17_4, List.length_nil, List.length_cons, List.nil_append, List.cons_append, nil1, show IntKind.i64.wrap 1 = 1 from rfl, false_implies, and_true, fact]
theorem of_2 (hT : TabOk P tab) : Pure P G n_word_of [.int .u8 2] fun v => v = fact (.fn (.func n_word_of_S2) [] []) false false (0) true := by
  intro t
  refine C_keep 0 (Nat.zero_le _) (C_tab hT t_word_of (by simp [word_of]) (W_run 1000 ?_))
  simp -implicitDefEqProofs (disch := omega) only [go_sem, ↓reduceIte, reduceCtorEq, Nat.reduceAdd, Nat.reduceEqDiff, Nat.reduceLeDiff, Nat.reduceLT, Nat.reduceMul, Int.reduceToNat, Int.reduceLE, Nat.zero_add, decide_false, Bool.not_false, Nat.le_refl, Nat.zero_le, ge_iff_le, word_of, zq17_0, zq17_1, zq17_2, zq17_3, zq17_4, List.length_nil, List.length_cons, List.nil_append, List.cons_append, nil1, show IntKind.i64.wrap 2 = 2 from rfl, false_implies, and_true, fact]
theorem of_3 (hT : TabOk P tab) : Pure P G n_word_of [.int .u8 3] fun v => v = fact (.fn (.func n_word_of_S3) [] []) true true (1) true := by
  intro t
  refine C_keep 0 (Nat.zero_le _) (C_tab hT t_word_of (by simp [word_of]) (W_run 1000 ?_))
  simp -implicitDefEqProofs (disch := omega) only [go_sem, ↓reduceIte, reduceCtorEq, Nat.reduceAdd, Nat.reduceEqDiff, Nat.reduceLeDiff, Nat.reduceLT, Nat.reduceMul, Int.reduceToNat, Int.reduceLE, Nat.zero_add, decide_false, Bool.not_false, Nat.le_refl, Nat.zero_le, ge_iff_le, word_of, zq17_0, zq17_1, zq17_2, zq17_3, zq17_4, List.length_nil, List.length_cons, List.nil_append, List.cons_append, nil1, show IntKind.i64.wrap 3 = 3 from rfl, false_implies, and_true, fact]
theorem of_4 (hT : TabOk P tab) : Pure P G n_word_of [.int .u8 4] fun v => v = fact (.fn (.func n_word_div) [] []) false false (1) true := by
  intro t
  refine C_keep 0 (Nat.zero_le _) (C_tab hT t_word_of (by simp [word_of]) (W_run 1000 ?_))
  simp -implicitDefEqProofs (disch := omega) only [go_sem, ↓reduceIte, reduceCtorEq, Nat.reduceAdd, Nat.reduceEqDiff, Nat.reduceLeDiff, Nat.reduceLT, Nat.reduceMul, Int.reduceToNat, Int.reduceLE, Nat.zero_add, decide_false, Bool.not_false, Nat.le_refl, Nat.zero_le, ge_iff_le, word_of, zq17_0, zq17_1, zq17_2, zq17_3, zq17_4, List.length_nil, List.length_cons, List.nil_append, List.cons_append, nil1, show IntKind.i64.wrap 4 = 4 from rfl, false_implies, and_true, fact]
theorem of_5 (hT : TabOk P tab) : Pure P G n_word_of [.int .u8 5] fun v => v = fact (.fn (.func n_word_rem) [] []) false false (0) true := by
  intro t
  refine C_keep 0 (Nat.zero_le _) (C_tab hT t_word_of (by simp [word_of]) (W_run 1000 ?_))
  simp -implicitDefEqProofs (disch := omega) only [go_sem, ↓reduceIte, reduceCtorEq, Nat.reduceAdd, Nat.reduceEqDiff, Nat.reduceLeDiff, Nat.reduceLT, Nat.reduceMul, Int.reduceToNat, Int.reduceLE, Nat.zero_add, decide_false, Bool.not_false, Nat.le_refl, Nat.zero_le, ge_iff_le, word_of, zq17_0, zq17_1, zq17_2, zq17_3, zq17_4, List.length_nil, List.length_cons, List.nil_append, List.cons_append, nil1, show IntKind.i64.wrap 5 = 5 from rfl, false_implies, and_true, fact]
theorem of_6 (hT : TabOk P tab) : Pure P G n_word_of [.int .u8 6] fun v => v = fact (.fn (.func n_word_divU) [] []) false false (1) true := by
  intro t
  refine C_keep 0 (Nat.zero_le _) (C_tab hT t_word_of (by simp [word_of]) (W_run 1000 ?_))
  simp -implicitDefEqProofs (disch := omega) only [go_sem, ↓reduceIte, reduceCtorEq, Nat.reduceAdd, Nat.reduceEqDiff, Nat.reduceLeDiff, Nat.reduceLT, Nat.reduceMul, Int.reduceToNat, Int.reduceLE, Nat.zero_add, decide_false, Bool.not_false, Nat.le_refl, Nat.zero_le, ge_iff_le, word_of, zq17_0, zq17_1, zq17_2, zq17_3, zq17_4, List.length_nil, List.length_cons, List.nil_append, List.cons_append, nil1, show IntKind.i64.wrap 6 = 6 from rfl, false_implies, and_true, fact]
theorem of_7 (hT : TabOk P tab) : Pure P G n_word_of [.int .u8 7] fun v => v = fact (.fn (.func n_word_remU) [] []) false false (0) true := by
  intro t
  refine C_keep 0 (Nat.zero_le _) (C_tab hT t_word_of (by simp [word_of]) (W_run 1000 ?_))
  simp -implicitDefEqProofs (disch := omega) only [go_sem, ↓reduceIte, reduceCtorEq, Nat.reduceAdd, Nat.reduceEqDiff, Nat.reduceLeDiff, Nat.reduceLT, Nat.reduceMul, Int.reduceToNat, Int.reduceLE, Nat.zero_add, decide_false, Bool.not_false, Nat.le_refl, Nat.zero_le, ge_iff_le, word_of, zq17_0, zq17_1, zq17_2, zq17_3, zq17_4, List.length_nil, List.length_cons, List.nil_append, List.cons_append, nil1, show IntKind.i64.wrap 7 = 7 from rfl, false_implies, and_true, fact]
theorem of_8 (hT : TabOk P tab) : Pure P G n_word_of [.int .u8 8] fun v => v = fact (.fn (.func n_word_of_S4) [] []) true true (-1) true := by
  intro t
  refine C_keep 0 (Nat.zero_le _) (C_tab hT t_word_of (by simp [word_of]) (W_run 1000 ?_))
  simp -implicitDefEqProofs (disch := omega) only [go_sem, ↓reduceIte, reduceCtorEq, Nat.reduceAdd, Nat.reduceEqDiff, Nat.reduceLeDiff, Nat.reduceLT, Nat.reduceMul, Int.reduceToNat, Int.reduceLE, Nat.zero_add, decide_false, Bool.not_false, Nat.le_refl, Nat.zero_le, ge_iff_le, word_of, zq17_0, zq17_1, zq17_2, zq17_3, zq17_4, List.length_nil, List.length_cons, List.nil_append, List.cons_append, nil1, show IntKind.i64.wrap 8 = 8 from rfl, false_implies, and_true, fact]
theorem of_9 (hT : TabOk P tab) : Pure P G n_word_of [.int .u8 9] fun v => v = fact (.fn (.func n_word_of_S5) [] []) true true (0) true := by
  intro t
  refine C_keep 0 (Nat.zero_le _) (C_tab hT t_word_of (by simp [word_of]) (W_run 1000 ?_))
  simp -implicitDefEqProofs (disch := omega) only [go_sem, ↓reduceIte, reduceCtorEq, Nat.reduceAdd, Nat.reduceEqDiff, Nat.reduceLeDiff, Nat.reduceLT, Nat.reduceMul, Int.reduceToNat, Int.reduceLE, Nat.zero_add, decide_false, Bool.not_false, Nat.le_refl, Nat.zero_le, ge_iff_le, word_of, zq17_0, zq17_1, zq17_2, zq17_3, zq17_4, List.length_nil, List.length_cons, List.nil_append, List.cons_append, nil1, show IntKind.i64.wrap 9 = 9 from rfl, false_implies, and_true, fact]
theorem of_10 (hT : TabOk P tab) : Pure P G n_word_of [.int .u8 10] fun v => v = fact (.fn (.func n_word_of_S6) [] []) true true (0) true := by
  intro t
  refine C_keep 0 (Nat.zero_le _) (C_tab hT t_word_of (by simp [word_of]) (W_run 1000 ?_))
  simp -implicitDefEqProofs (disch := omega) only [go_sem, ↓reduceIte, reduceCtorEq, Nat.reduceAdd, Nat.reduceEqDiff, Nat.reduceLeDiff, Nat.reduceLT, Nat.reduceMul, Int.reduceToNat, Int.reduceLE, Nat.zero_add, decide_false, Bool.not_false, Nat.le_refl, Nat.zero_le, ge_iff_le, word_of, zq17_0, zq17_1, zq17_2, zq17_3, zq17_4, List.length_nil, List.length_cons, List.nil_append, List.cons_append, nil1, show IntKind.i64.wrap 10 = 10 from rfl, false_implies, and_true, fact]
theorem of_11 (hT : TabOk P tab) : Pure P G n_word_of [.int .u8 11] fun v => v = fact (.fn (.func n_word_of_S7) [] []) false false (0) true := by
  intro t
  refine C_keep 0 (Nat.zero_le _) (C_tab hT t_word_of (by simp [word_of]) (W_run 1000 ?_))
  simp -implicitDefEqProofs (disch := omega) only [go_sem, ↓reduceIte, reduceCtorEq, Nat.reduceAdd, Nat.reduceEqDiff, Nat.reduceLeDiff, Nat.reduceLT, Nat.reduceMul, Int.reduceToNat, Int.reduceLE, Nat.zero_add, decide_false, Bool.not_false, Nat.le_refl, Nat.zero_le, ge_iff_le, word_of, zq17_0, zq17_1, zq17_2, zq17_3, zq17_4, List.length_nil, List.length_cons, List.nil_append, List.cons_append, nil1, show IntKind.i64.wrap 11 = 11 from rfl, false_implies, and_true, fact]
theorem of_12 (hT : TabOk P tab) : Pure P G n_word_of [.int .u8 12] fun v => v = fact (.fn (.func n_word_of_S8) [] []) false false (0) true := by
  intro t
  refine C_keep 0 (Nat.zero_le _) (C_tab hT t_word_of (by simp [word_of]) (W_run 1000 ?_))
  simp -implicitDefEqProofs (disch := omega) only [go_sem, ↓reduceIte, reduceCtorEq, Nat.reduceAdd, Nat.reduceEqDiff, Nat.reduceLeDiff, Nat.reduceLT, Nat.reduceMul, Int.reduceToNat, Int.reduceLE, Nat.zero_add, decide_false, Bool.not_false, Nat.le_refl, Nat.zero_le, ge_iff_le, word_of, zq17_0, zq17_1, zq17_2, zq17_3, zq17_4, List.length_nil, List.length_cons, List.nil_append, List.cons_append, nil1, show IntKind.i64.wrap 12 = 12 from rfl, false_implies, and_true, fact]
theorem of_13 (hT : TabOk P tab) : Pure P G n_word_of [.int .u8 13] fun v => v = fact (.fn (.func n_word_of_S9) [] []) false false (0) true := by
  intro t
  refine C_keep 0 (Nat.zero_le _) (C_tab hT t_word_of (by simp [word_of]) (W_run 1000 ?_))
  simp -implicitDefEqProofs (disch := omega) only [go_sem, ↓reduceIte, reduceCtorEq, Nat.reduceAdd, Nat.reduceEqDiff, Nat.reduceLeDiff, Nat.reduceLT, Nat.reduceMul, Int.reduceToNat, Int.reduceLE, Nat.zero_add, decide_false, Bool.not_false, Nat.le_refl, Nat.zero_le, ge_iff_le, word_of, zq17_0, zq17_1, zq17_2, zq17_3, zq17_4, List.length_nil, List.length_cons, List.nil_append, List.cons_append, nil1, show IntKind.i64.wrap 13 = 13 from rfl, false_implies, and_true, fact]
theorem of_14 (hT : TabOk P tab) : Pure P G n_word_of [.int .u8 14] fun v => v = fact (.fn (.func n_word_of_S10) [] []) false false (0) false := by
  intro t
  refine C_keep 0 (Nat.zero_le _) (C_tab hT t_word_of (by simp [word_of]) (W_run 1000 ?_))
  simp -implicitDefEqProofs (disch := omega) only [go_sem, ↓reduceIte, reduceCtorEq, Nat.reduceAdd, Nat.reduceEqDiff, Nat.reduceLeDiff, Nat.reduceLT, Nat.reduceMul, Int.reduceToNat, Int.reduceLE, Nat.zero_add, decide_false, Bool.not_false, Nat.le_refl, Nat.zero_le, ge_iff_le, word_of, zq17_0, zq17_1, zq17_2, zq17_3, zq17_4, List.length_nil, List.length_cons, List.nil_append, List.cons_append, nil1, show IntKind.i64.wrap 14 = 14 from rfl, false_implies, and_true, fact]
theorem of_15 (hT : TabOk P tab) : Pure P G n_word_of [.int .u8 15] fun v => v = fact (.fn (.func n_word_of_S11) [] []) false false (0) false := by
  intro t
  refine C_keep 0 (Nat.zero_le _) (C_tab hT t_word_of (by simp [word_of]) (W_run 1000 ?_))
  simp -implicitDefEqProofs (disch := omega) only [go_sem, ↓reduceIte, reduceCtorEq, Nat.reduceAdd, Nat.reduceEqDiff, Nat.reduceLeDiff, Nat.reduceLT, Nat.reduceMul, Int.reduceToNat, Int.reduceLE, Nat.zero_add, decide_false, Bool.not_false, Nat.le_refl, Nat.zero_le, ge_iff_le, word_of, zq17_0, zq17_1, zq17_2, zq17_3, zq17_4, List.length_nil, List.length_cons, List.nil_append, List.cons_append, nil1, show IntKind.i64.wrap 15 = 15 from rfl, false_implies, and_true, fact]
theorem of_16 (hT : TabOk P tab) : Pure P G n_word_of [.int .u8 16] fun v => v = fact (.fn (.func n_word_of_S12) [] []) true false (0) false := by
  intro t
  refine C_keep 0 (Nat.zero_le _) (C_tab hT t_word_of (by simp [word_of]) (W_run 1000 ?_))
  simp -implicitDefEqProofs (disch := omega) only [go_sem, ↓reduceIte, reduceCtorEq, Nat.reduceAdd, Nat.reduceEqDiff, Nat.reduceLeDiff, Nat.reduceLT, Nat.reduceMul, Int.reduceToNat, Int.reduceLE, Nat.zero_add, decide_false, Bool.not_false, Nat.le_refl, Nat.zero_le, ge_iff_le, word_of, zq17_0, zq17_1, zq17_2, zq17_3, zq17_4, List.length_nil, List.length_cons, List.nil_append, List.cons_append, nil1, show IntKind.i64.wrap 16 = 16 from rfl, false_implies, and_true, fact]
theorem of_more (hT : TabOk P tab) {op : Int} (h : 17 ≤ op) (h2 : op ≤ 255) : Pure P G n_word_of [.int .u8 op] fun v => v = fact (.val .nilFunc) false false 0 false := by
  intro t
  refine C_keep 0 (Nat.zero_le _) (C_tab hT t_word_of (by simp [word_of]) (W_run 1000 ?_))
  have hw : IntKind.i64.wrap op = op := wrap_i64 (by omega) (by omega)
  simp -implicitDefEqProofs (disch := omega) only [go_sem, ↓reduceIte, reduceCtorEq, Nat.reduceAdd, Nat.reduceEqDiff, Nat.reduceLeDiff, Nat.zero_add, decide_true, Bool.not_false, Nat.le_refl, Nat.zero_le, ge_iff_le, word_of, zq17_0, zq17_1, zq17_2, zq17_3, zq17_4, List.length_nil, List.length_cons, List.nil_append, List.cons_append, nil1, hw, h, false_implies, and_true, fact]
/-- What an operation makes. -/
def doW (op a b : Int) : Int :=
  if op = 1 then IntKind.i64.wrap (a + b) else
  if op = 2 then IntKind.i64.wrap (a - b) else
  if op = 3 then IntKind.i64.wrap (a * b) else
  if op = 4 then divS a b else
  if op = 5 then remS a b else
  if op = 6 then divN a b else
  if op = 7 then remN a b else
  if op = 8 then andI .i64 a b else
  if op = 9 then orI .i64 a b else
  if op = 10 then xorI .i64 a b else
  if op = 11 then IntKind.i64.wrap (a * 2 ^ min (andI .i64 b 63).toNat 64) else
  if op = 12 then IntKind.i64.wrap ((IntKind.u64.wrap a).fdiv (2 ^ min (andI .i64 b 63).toNat 64)) else
  if op = 13 then a.fdiv (2 ^ min (andI .i64 b 63).toNat 64) else
  if op = 14 then (if a < b then 1 else 0) else
  if op = 15 then (if IntKind.u64.wrap a < IntKind.u64.wrap b then 1 else 0) else
  if op = 16 then (if a = b then 1 else 0) else
  0
theorem do_nil (hT : TabOk P tab) {op a b : Int} (h : Pure P G n_word_of [.int .u8 op] fun v => v = fact (.val .nilFunc) false false 0 false) : Pure P G n_word_Do [.int .u8 op, .int .i64 a, .int .i64 b] fun v => v = .int .i64 0 := by
  intro t
  refine C_keep 0 (Nat.zero_le _) (C_tab hT t_word_Do (by simp [word_Do]) (W_run 1000 ?_))
  simp -implicitDefEqProofs (disch := omega) only [go_sem, ↓reduceIte, reduceCtorEq, Nat.reduceAdd, Nat.reduceEqDiff, Nat.zero_add, word_Do, zqq_0, zqq_1, zqq_2, zqq_3, zqq_4]
  refine callPS hT t_word_of h rfl 1000 ?_
  simp -implicitDefEqProofs (disch := omega) only [go_sem, ↓reduceIte, reduceCtorEq, Nat.reduceAdd, Nat.reduceEqDiff, Nat.reduceLeDiff, Nat.zero_add, Nat.add_zero, Bool.not_false, Nat.le_refl, Nat.zero_le, fact, List.length_nil, List.length_cons, List.nil_append, List.cons_append, nil1, true_implies, and_true]
theorem do_fn (hT : TabOk P tab) {op a b n : Int} {f : Nat} {A : AF} {c1 c2 c3 : Bool} {d : Int → Int → Int} (hf : tab f = some A) (h : Pure P G n_word_of [.int .u8 op] fun v => v = fact (.fn (.func f) [] []) c1 c2 n c3) (hd : Pure P G f [.int .i64 a, .int .i64 b] fun v => v = .int .i64 (d a b)) : Pure P G n_word_Do [.int .u8 op, .int .i64 a, .int .i64 b] fun v => v = .int .i64 (d a b) := by
  intro t
  refine C_keep 0 (Nat.zero_le _) (C_tab hT t_word_Do (by simp [word_Do]) (W_run 1000 ?_))
  simp -implicitDefEqProofs (disch := omega) only [go_sem, ↓reduceIte, reduceCtorEq, Nat.reduceAdd, Nat.reduceEqDiff, Nat.zero_add, word_Do, zqq_0, zqq_1, zqq_2, zqq_3, zqq_4]
  refine callPS hT t_word_of h rfl 1000 ?_
  simp -implicitDefEqProofs (disch := omega) only [go_sem, ↓reduceIte, reduceCtorEq, Nat.reduceAdd, Nat.reduceEqDiff, Nat.reduceLeDiff, Nat.zero_add, Nat.add_zero, Bool.not_false, Nat.le_refl, fact, List.length_nil, List.length_cons, List.nil_append, List.cons_append, nil1, true_implies, and_true]
  refine callPS hT hf hd rfl 1000 ?_
  simp -implicitDefEqProofs (disch := omega) only [go_sem, ↓reduceIte, reduceCtorEq, Nat.reduceEqDiff, Nat.zero_add, Nat.zero_le]
theorem c_Do (hT : TabOk P tab) {op a b : Int} (h0 : 0 ≤ op) (h1 : op ≤ 255) (ha : i64 a) (hb : i64 b) : Pure P G n_word_Do [.int .u8 op, .int .i64 a, .int .i64 b] fun v => v = .int .i64 (doW op a b) := by
  by_cases hm : 17 ≤ op
  · have e : doW op a b = 0 := by unfold doW; repeat rw [if_neg (by omega)]
    rw [e]
    exact do_nil hT (of_more hT hm h1)
  · have : op = 0 ∨ op = 1 ∨ op = 2 ∨ op = 3 ∨ op = 4 ∨ op = 5 ∨ op = 6 ∨ op = 7 ∨ op = 8 ∨ op = 9 ∨ op = 10 ∨ op = 11 ∨ op = 12 ∨ op = 13 ∨ op = 14 ∨ op = 15 ∨ op = 16 := by omega
    rcases this with rfl | rfl | rfl | rfl | rfl | rfl | rfl | rfl | rfl | rfl | rfl | rfl | rfl | rfl | rfl | rfl | rfl
    · exact do_nil hT (of_0 hT)
    · exact do_fn hT t_word_of_S1 (of_1 hT) (w_S1 hT a b ha hb)
    · exact do_fn hT t_word_of_S2 (of_2 hT) (w_S2 hT a b ha hb)
    · exact do_fn hT t_word_of_S3 (of_3 hT) (w_S3 hT a b ha hb)
    · exact do_fn hT t_word_div (of_4 hT) (w_div hT a b ha hb)
    · exact do_fn hT t_word_rem (of_5 hT) (w_rem hT a b ha hb)
    · exact do_fn hT t_word_divU (of_6 hT) (w_divU hT a b ha hb)
    · exact do_fn hT t_word_remU (of_7 hT) (w_remU hT a b ha hb)
    · exact do_fn hT t_word_of_S4 (of_8 hT) (w_S4 hT a b ha hb)
    · exact do_fn hT t_word_of_S5 (of_9 hT) (w_S5 hT a b ha hb)
    · exact do_fn hT t_word_of_S6 (of_10 hT) (w_S6 hT a b ha hb)
    · exact do_fn hT t_word_of_S7 (of_11 hT) (w_S7 hT a b ha hb)
    · exact do_fn hT t_word_of_S8 (of_12 hT) (w_S8 hT a b ha hb)
    · exact do_fn hT t_word_of_S9 (of_13 hT) (w_S9 hT a b ha hb)
    · exact do_fn hT t_word_of_S10 (of_14 hT) (w_S10 hT a b ha hb)
    · exact do_fn hT t_word_of_S11 (of_15 hT) (w_S11 hT a b ha hb)
    · exact do_fn hT t_word_of_S12 (of_16 hT) (w_S12 hT a b ha hb)
end Go.Proofs.YtfligilbnpcnaaaGreatDoor

