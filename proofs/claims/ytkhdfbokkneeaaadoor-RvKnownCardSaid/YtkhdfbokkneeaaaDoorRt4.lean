/- The library's Sort, Compact and DeleteFunc at rows of two bytes: walked. -/
import Derived.Test.YtkhdfbokkneeaaaDoorTabB
import Derived.Test.YtkhdfbokkneeaaaDoorAmD
import Derived.KernelRfl
namespace Go.Proofs.YtkhdfbokkneeaaaDoor
open Go Go.Am
set_option maxRecDepth 100000
variable {P : Program} {G : Nat → Option V}

theorem cast2 : ((2 : Nat) : Int) = 2 := rfl
theorem cast1 : ((1 : Nat) : Int) = 1 := rfl
theorem c_isNaN (hT : TabOk P tab) (a : Int) : Pure P G n_cmp_isNaN_uint8 [.int .u8 a] fun u => u = .bool false := by
  intro t
  refine C_keep 0 (Nat.zero_le _) (C_tab hT t_cmp_isNaN_uint8 (by simp [cmp_isNaN_uint8]) (W_run 1000 ?_))
  simp -implicitDefEqProofs (disch := omega) only [go_sem, ↓reduceIte, reduceCtorEq, Nat.reduceEqDiff, Nat.le_refl, bne_self_eq_false, cmp_isNaN_uint8, cmp_isNaN_uint8_r0, cmp_isNaN_uint8_r1, and_true, List.length_nil]
theorem c_Less (hT : TabOk P tab) (a b : Int) : Pure P G n_cmp_Less_uint8 [.int .u8 a, .int .u8 b] fun u => u = .bool (decide (a < b)) := by
  intro t
  refine C_keep 0 (Nat.zero_le _) (C_tab hT t_cmp_Less_uint8 (by simp [cmp_Less_uint8]) (W_run 1000 ?_))
  simp -implicitDefEqProofs (disch := omega) only [go_sem, ↓reduceIte, reduceCtorEq, Nat.reduceEqDiff, Nat.zero_add, cmp_Less_uint8, cmp_Less_uint8_r0, cmp_Less_uint8_r1]
  refine callPS hT t_cmp_isNaN_uint8 (c_isNaN hT a) rfl 1000 ?_
  simp -implicitDefEqProofs (disch := omega) only [go_sem, ↓reduceIte, reduceCtorEq, Nat.reduceAdd, Nat.reduceEqDiff, Nat.le_refl, and_true, List.length_nil]
def h3 (X B : Option Ob) (w : Nat) (cs : List V) : List (Option Ob) := [X, B, some (.arr w 5 cs)]
theorem c_ins2 (hT : TabOk P tab) {t w : Nat} {X B : Option Ob} (a b : Int) :
    C P G 0 n_slices_insertionSortOrdered_uint8 [.sl 2 w 0 1 2 none, .int .i64 0, .int .i64 2] ⟨t, h3 X B w [.int .u8 a, .int .u8 b]⟩ fun v σ => v = .tup [] ∧ σ = ⟨t, h3 X B w (if b < a then [.int .u8 b, .int .u8 a] else [.int .u8 a, .int .u8 b])⟩ := by
  have hL := c_Less (P := P) (G := G) hT b a
  have w1 : IntKind.i64.wrap (0 + 1) = 1 := by decide
  have w2 : IntKind.i64.wrap (1 + 1) = 2 := by decide
  have w3 : IntKind.i64.wrap (1 - 1) = 0 := by decide
  refine C_tab hT t_slices_insertionSortOrdered_uint8 (by simp [slices_insertionSortOrdered_uint8]) (W_run 1000 ?_)
  simp -implicitDefEqProofs (disch := omega) only [go_sem, ↓reduceIte, reduceCtorEq, Nat.reduceAdd, Nat.reduceEqDiff, Nat.zero_add, slices_insertionSortOrdered_uint8, slices_insertionSortOrdered_uint8_r0, slices_insertionSortOrdered_uint8_r1, slices_insertionSortOrdered_uint8_r2, slices_insertionSortOrdered_uint8_r3, slices_insertionSortOrdered_uint8_r4, slices_insertionSortOrdered_uint8_r5, slices_insertionSortOrdered_uint8_r6, h3, w1]
  refine sem_rounds 2 40 ?_
  by_cases h : b < a
  · have h' : decide (b < a) = true := decide_eq_true h
    rw [h'] at hL
    rw [if_pos h]
    simp -implicitDefEqProofs (disch := omega) only [go_sem, ↓reduceIte, reduceCtorEq, Nat.reduceEqDiff, Int.reduceLT, decide_true]
    refine sem_rounds 2 4 ?_
    simp -implicitDefEqProofs (disch := omega) only [go_sem]
    iterate 9 (try (refine run_sem 4 ?_; simp -implicitDefEqProofs (disch := omega) only [go_sem, ↓reduceIte, reduceCtorEq, Nat.reduceAdd, Nat.reduceEqDiff, Nat.reduceLeDiff, Nat.reduceLT, Int.reduceToNat, Int.reduceLE, Int.reduceLT, Nat.zero_add, Nat.add_zero, Nat.mul_one, decide_true, Nat.le_refl, gt_iff_lt, true_implies, and_true, List.length_cons, List.length_nil, w3]))
    refine callPS hT t_cmp_Less_uint8 hL rfl 4 ?_
    simp -implicitDefEqProofs (disch := omega) only [go_sem, ↓reduceIte, reduceCtorEq, Nat.reduceEqDiff]
    iterate 16 (try (refine run_sem 9 ?_; simp -implicitDefEqProofs (disch := omega) only [go_sem, ↓reduceIte, reduceCtorEq, Nat.reduceAdd, Nat.reduceEqDiff, Nat.reduceLeDiff, Nat.reduceLT, Int.reduceToNat, Int.reduceLE, Nat.zero_add, Nat.add_zero, Nat.mul_one, decide_false, Bool.not_false, Nat.le_refl, Nat.zero_le, gt_iff_lt, true_implies, and_true, Bool.not_false, Int.lt_irrefl, List.length_cons, List.length_nil, w2, w3]))
  · have h' : decide (b < a) = false := decide_eq_false h
    rw [h'] at hL
    rw [if_neg h]
    simp -implicitDefEqProofs (disch := omega) only [go_sem, ↓reduceIte, reduceCtorEq, Nat.reduceEqDiff, Int.reduceLT, decide_true]
    refine sem_rounds 2 4 ?_
    simp -implicitDefEqProofs (disch := omega) only [go_sem]
    iterate 9 (try (refine run_sem 4 ?_; simp -implicitDefEqProofs (disch := omega) only [go_sem, ↓reduceIte, reduceCtorEq, Nat.reduceAdd, Nat.reduceEqDiff, Nat.reduceLeDiff, Nat.reduceLT, Int.reduceToNat, Int.reduceLE, Int.reduceLT, Nat.zero_add, Nat.add_zero, Nat.mul_one, decide_true, Nat.le_refl, gt_iff_lt, true_implies, and_true, List.length_cons, List.length_nil, w3]))
    refine callPS hT t_cmp_Less_uint8 hL rfl 4 ?_
    simp -implicitDefEqProofs (disch := omega) only [go_sem, ↓reduceIte, reduceCtorEq, Nat.reduceEqDiff]
    iterate 16 (try (refine run_sem 9 ?_; simp -implicitDefEqProofs (disch := omega) only [go_sem, ↓reduceIte, reduceCtorEq, Nat.reduceEqDiff, decide_false, and_true, Int.lt_irrefl, w2]))
theorem c_pdq2 (hT : TabOk P tab) {t w : Nat} {X B : Option Ob} (a b l : Int) :
    C P G 0 n_slices_pdqsortOrdered_uint8 [.sl 2 w 0 1 2 none, .int .i64 0, .int .i64 2, .int .i64 l] ⟨t, h3 X B w [.int .u8 a, .int .u8 b]⟩ fun v σ => v = .tup [] ∧ σ = ⟨t, h3 X B w (if b < a then [.int .u8 b, .int .u8 a] else [.int .u8 a, .int .u8 b])⟩ := by
  have w1 : IntKind.i64.wrap (2 - 0) = 2 := by decide
  refine C_tab hT t_slices_pdqsortOrdered_uint8 (by simp [slices_pdqsortOrdered_uint8]) (W_run 1000 ?_)
  simp -implicitDefEqProofs (disch := omega) only [go_sem, ↓reduceIte, reduceCtorEq, Nat.reduceAdd, Nat.reduceEqDiff, Nat.zero_add, slices_pdqsortOrdered_uint8, slices_pdqsortOrdered_uint8_r0, slices_pdqsortOrdered_uint8_r1, slices_pdqsortOrdered_uint8_r2, slices_pdqsortOrdered_uint8_r3, slices_pdqsortOrdered_uint8_r4, slices_pdqsortOrdered_uint8_r5, slices_pdqsortOrdered_uint8_r6, slices_pdqsortOrdered_uint8_r7, slices_pdqsortOrdered_uint8_r8, slices_pdqsortOrdered_uint8_r9, slices_pdqsortOrdered_uint8_r10, slices_pdqsortOrdered_uint8_r11, slices_pdqsortOrdered_uint8_r12, slices_pdqsortOrdered_uint8_r13, slices_pdqsortOrdered_uint8_r14, slices_pdqsortOrdered_uint8_r15, slices_pdqsortOrdered_uint8_r16, slices_pdqsortOrdered_uint8_r17, slices_pdqsortOrdered_uint8_r18, slices_pdqsortOrdered_uint8_r19, slices_pdqsortOrdered_uint8_r20, slices_pdqsortOrdered_uint8_r21, slices_pdqsortOrdered_uint8_r22, slices_pdqsortOrdered_uint8_r23, slices_pdqsortOrdered_uint8_r24, slices_pdqsortOrdered_uint8_r25, slices_pdqsortOrdered_uint8_r26, slices_pdqsortOrdered_uint8_r27, slices_pdqsortOrdered_uint8_r28, slices_pdqsortOrdered_uint8_r29, slices_pdqsortOrdered_uint8_r30, h3]
  refine sem_rounds 1 40 ?_
  simp -implicitDefEqProofs (disch := omega) only [go_sem, ↓reduceIte, reduceCtorEq, Nat.reduceEqDiff, Int.reduceLE, decide_true, w1]
  refine call hT t_slices_insertionSortOrdered_uint8 (c_ins2 hT a b) 40 fun v σ hv => ?_
  obtain ⟨rfl, rfl⟩ := hv
  simp -implicitDefEqProofs (disch := omega) only [go_sem, ↓reduceIte, reduceCtorEq, Nat.reduceEqDiff, h3, and_true]
def isTwo : V → Bool
  | .int .i64 n => decide (n = 2)
  | _ => false
theorem isTwo_ok (v : V) (h : isTwo v = true) : nameless v = true ∧ v = .int .i64 2 := by
  unfold isTwo at h
  split at h
  · simp at h; subst h; exact ⟨rfl, rfl⟩
  · cases h
theorem c_Len (hT : TabOk P tab) : Pure P G n_math_bits_Len [.int .u64 2] fun u => u = .int .i64 2 :=
  run_pure hT 100 10 (.int .i64 2) isTwo isTwo_ok rfl (by kernel_rfl)
theorem c_Sort2 (hT : TabOk P tab) {t w : Nat} {X B : Option Ob} (a b : Int) :
    C P G 0 n_slices_Sort_uint8_uint8 [.sl 2 w 0 1 2 none] ⟨t, h3 X B w [.int .u8 a, .int .u8 b]⟩ fun v σ => v = .tup [] ∧ σ = ⟨t, h3 X B w (if b < a then [.int .u8 b, .int .u8 a] else [.int .u8 a, .int .u8 b])⟩ := by
  have w1 : IntKind.u64.wrap 2 = 2 := by decide
  refine C_tab hT t_slices_Sort_uint8_uint8 (by simp [slices_Sort_uint8_uint8]) (W_run 1000 ?_)
  simp -implicitDefEqProofs (disch := omega) only [go_sem, ↓reduceIte, reduceCtorEq, Nat.reduceEqDiff, slices_Sort_uint8_uint8, slices_Sort_uint8_uint8_r0, slices_Sort_uint8_uint8_r1, h3, cast2, w1]
  refine callPS hT t_math_bits_Len (c_Len hT) rfl 40 ?_
  simp -implicitDefEqProofs (disch := omega) only [go_sem, ↓reduceIte, reduceCtorEq, Nat.reduceEqDiff]
  refine call hT t_slices_pdqsortOrdered_uint8 (c_pdq2 hT a b 2) 40 fun v σ hv => ?_
  obtain ⟨rfl, rfl⟩ := hv
  simp -implicitDefEqProofs (disch := omega) only [go_sem, ↓reduceIte, reduceCtorEq, Nat.reduceEqDiff, h3, and_true]
theorem c_Compact2 (hT : TabOk P tab) {t w : Nat} {X B : Option Ob} (a b : Int) :
    C P G 0 n_slices_Compact_uint8_uint8 [.sl 2 w 0 1 2 none] ⟨t, h3 X B w [.int .u8 a, .int .u8 b]⟩ fun v σ => (a = b ∧ v = .sl 2 w 0 1 1 none ∧ σ = ⟨t, h3 X B w [.int .u8 a, .int .u8 0]⟩) ∨ (a ≠ b ∧ v = .sl 2 w 0 1 2 none ∧ σ = ⟨t, h3 X B w [.int .u8 a, .int .u8 b]⟩) := by
  have w2 : IntKind.i64.wrap (1 + 1) = 2 := by decide
  have w3 : IntKind.i64.wrap (1 - 1) = 0 := by decide
  refine C_tab hT t_slices_Compact_uint8_uint8 (by simp [slices_Compact_uint8_uint8]) (W_run 1000 ?_)
  simp -implicitDefEqProofs (disch := omega) only [go_sem, ↓reduceIte, reduceCtorEq, Nat.reduceEqDiff, decide_false, slices_Compact_uint8_uint8, slices_Compact_uint8_uint8_r0, slices_Compact_uint8_uint8_r1, slices_Compact_uint8_uint8_r2, slices_Compact_uint8_uint8_r3, slices_Compact_uint8_uint8_r4, slices_Compact_uint8_uint8_r5, slices_Compact_uint8_uint8_r6, slices_Compact_uint8_uint8_r7, slices_Compact_uint8_uint8_r8, slices_Compact_uint8_uint8_r9, slices_Compact_uint8_uint8_r10, slices_Compact_uint8_uint8_r11, slices_Compact_uint8_uint8_r12, slices_Compact_uint8_uint8_r13, slices_Compact_uint8_uint8_r14, slices_Compact_uint8_uint8_r15, slices_Compact_uint8_uint8_r16, h3, cast2, Int.lt_irrefl]
  refine sem_rounds 2 60 ?_
  by_cases h : b = a
  · have h' : (b == a) = true := by simp [h]
    simp -implicitDefEqProofs (disch := omega) only [go_sem, ↓reduceIte, reduceCtorEq, Nat.reduceAdd, Nat.reduceEqDiff, Nat.reduceLeDiff, Nat.reduceLT, Nat.reduceSub, Int.reduceToNat, Int.reduceLE, Int.reduceLT, Nat.succ_ne_zero, Nat.zero_add, Nat.add_zero, Nat.mul_one, decide_true, Nat.le_refl, beq_self_eq_true, cast2, true_implies, true_and, and_true, not_true_eq_false, List.length_cons, List.length_nil, w3, h]
    refine sem_rounds 1 40 ?_
    simp -implicitDefEqProofs (disch := omega) only [go_sem, ↓reduceIte, reduceCtorEq, Nat.reduceEqDiff, Nat.reduceLeDiff, Nat.reduceLT, Nat.reduceSub, Int.reduceToNat, Int.reduceLE, Nat.succ_ne_zero, Nat.zero_add, Nat.mul_one, decide_false, Bool.not_false, cast1, and_true, Bool.not_false, Int.lt_irrefl]
    simp only [evW]
    simp -implicitDefEqProofs (disch := omega) only [go_sem, ↓reduceIte, reduceCtorEq, Nat.reduceAdd, Nat.reduceEqDiff, Nat.reduceLeDiff, Nat.reduceLT, Nat.reduceSub, Int.reduceToNat, Int.reduceLE, Nat.zero_add, Nat.add_zero, Nat.mul_one, Nat.le_refl, Nat.zero_le, and_true, List.length_cons, List.length_nil, List.take_succ_cons, List.take_zero, List.drop_succ_cons, List.drop_zero, List.replicate_succ, List.replicate_zero, List.flatten_cons, List.flatten_nil, List.cons_append, List.nil_append, List.append_nil]
  · have h' : (b = a) = False := eq_false h
    simp -implicitDefEqProofs (disch := omega) only [go_sem, ↓reduceIte, reduceCtorEq, Nat.reduceAdd, Nat.reduceEqDiff, Nat.reduceLeDiff, Nat.reduceLT, Nat.reduceSub, Int.reduceToNat, Int.reduceLE, Int.reduceLT, Nat.succ_ne_zero, Nat.zero_add, Nat.add_zero, Nat.mul_one, decide_true, decide_false, Nat.le_refl, cast2, false_implies, true_implies, true_and, and_true, not_false_eq_true, Int.lt_irrefl, List.length_cons, List.length_nil, w2, w3, h']
    exact .inr fun e => h e.symm
theorem k_z (hT : TabOk P tab) (a : Int) (z : Bool) (hz : decide (a = 0) = z) : Pure P G n_rv_Reads_S1 [.int .u8 a] fun u => u = .bool z := by
  intro t
  refine C_keep 0 (Nat.zero_le _) (C_tab hT t_rv_Reads_S1 (by simp [rv_Reads_S1]) (W_run 1000 ?_))
  simp -implicitDefEqProofs (disch := omega) only [go_sem, ↓reduceIte, reduceCtorEq, Nat.reduceEqDiff, Nat.le_refl, rv_Reads_S1, rv_Reads_S1_r0, rv_Reads_S1_r1, true_and, List.length_nil]
  rw [← hz]; rfl
theorem c_Idx2 (hT : TabOk P tab) {t w : Nat} {X B : Option Ob} (a b : Int) (h : a < b) (h0 : 0 ≤ a) :
    C P G 0 n_slices_IndexFunc_uint8_uint8 [.sl 2 w 0 1 2 none, .fn (.func n_rv_Reads_S1) [] []] ⟨t, h3 X B w [.int .u8 a, .int .u8 b]⟩ fun v σ => v = .int .i64 (if a = 0 then 0 else -1) ∧ σ = ⟨t, h3 X B w [.int .u8 a, .int .u8 b]⟩ := by
  have w2 : IntKind.i64.wrap (1 + 1) = 2 := by decide
  have w3 : IntKind.i64.wrap (0 + 1) = 1 := by decide
  refine C_tab hT t_slices_IndexFunc_uint8_uint8 (by simp [slices_IndexFunc_uint8_uint8]) (W_run 1000 ?_)
  simp -implicitDefEqProofs (disch := omega) only [go_sem, ↓reduceIte, reduceCtorEq, Nat.reduceEqDiff, Nat.zero_add, slices_IndexFunc_uint8_uint8, slices_IndexFunc_uint8_uint8_r0, slices_IndexFunc_uint8_uint8_r1, slices_IndexFunc_uint8_uint8_r2, slices_IndexFunc_uint8_uint8_r3, slices_IndexFunc_uint8_uint8_r4, slices_IndexFunc_uint8_uint8_r5, slices_IndexFunc_uint8_uint8_r6, slices_IndexFunc_uint8_uint8_r7, h3, cast2]
  refine sem_rounds 3 60 ?_
  simp -implicitDefEqProofs (disch := omega) only [go_sem, ↓reduceIte, reduceCtorEq, Nat.reduceAdd, Nat.reduceEqDiff, Nat.reduceLeDiff, Nat.reduceLT, Int.reduceToNat, Int.reduceLE, Int.reduceLT, Nat.zero_add, Nat.add_zero, Nat.mul_one, decide_true, true_implies, and_true, List.length_cons, List.length_nil]
  by_cases ha : a = 0
  · refine callPS hT t_rv_Reads_S1 (k_z hT a true (decide_eq_true ha)) rfl 60 ?_
    simp -implicitDefEqProofs (disch := omega) only [go_sem, ↓reduceIte, reduceCtorEq, Nat.reduceEqDiff, and_true, ha]
  · refine callPS hT t_rv_Reads_S1 (k_z hT a false (decide_eq_false ha)) rfl 60 ?_
    simp -implicitDefEqProofs (disch := omega) only [go_sem, ↓reduceIte, reduceCtorEq, Nat.reduceAdd, Nat.reduceEqDiff, Nat.reduceLT, Int.reduceToNat, Int.reduceLE, Int.reduceLT, Nat.zero_add, Nat.mul_one, decide_true, Nat.le_refl, true_implies, and_true, List.length_cons, List.length_nil, w3, ha]
    refine callPS hT t_rv_Reads_S1 (k_z hT b false (decide_eq_false (by omega))) rfl 60 ?_
    simp -implicitDefEqProofs (disch := omega) only [go_sem, ↓reduceIte, reduceCtorEq, Nat.reduceEqDiff, decide_false, and_true, Int.lt_irrefl, w2]
theorem c_Idx1 (hT : TabOk P tab) {t w : Nat} {X B : Option Ob} (a : Int) (cs : List V) (hcs : cs.length = 1) :
    C P G 0 n_slices_IndexFunc_uint8_uint8 [.sl 2 w 0 1 1 none, .fn (.func n_rv_Reads_S1) [] []] ⟨t, h3 X B w (.int .u8 a :: cs)⟩ fun v σ => v = .int .i64 (if a = 0 then 0 else -1) ∧ σ = ⟨t, h3 X B w (.int .u8 a :: cs)⟩ := by
  have w3 : IntKind.i64.wrap (0 + 1) = 1 := by decide
  refine C_tab hT t_slices_IndexFunc_uint8_uint8 (by simp [slices_IndexFunc_uint8_uint8]) (W_run 1000 ?_)
  simp -implicitDefEqProofs (disch := omega) only [go_sem, ↓reduceIte, reduceCtorEq, Nat.reduceEqDiff, Nat.zero_add, slices_IndexFunc_uint8_uint8, slices_IndexFunc_uint8_uint8_r0, slices_IndexFunc_uint8_uint8_r1, slices_IndexFunc_uint8_uint8_r2, slices_IndexFunc_uint8_uint8_r3, slices_IndexFunc_uint8_uint8_r4, slices_IndexFunc_uint8_uint8_r5, slices_IndexFunc_uint8_uint8_r6, slices_IndexFunc_uint8_uint8_r7, h3, cast1]
  refine sem_rounds 3 60 ?_
  simp -implicitDefEqProofs (disch := omega) only [go_sem, ↓reduceIte, reduceCtorEq, Nat.reduceEqDiff, Nat.reduceLeDiff, Nat.reduceLT, Int.reduceToNat, Int.reduceLE, Int.reduceLT, Nat.zero_add, Nat.add_zero, Nat.mul_one, decide_true, true_implies, and_true, List.length_cons]
  by_cases ha : a = 0
  · refine callPS hT t_rv_Reads_S1 (k_z hT a true (decide_eq_true ha)) rfl 60 ?_
    simp -implicitDefEqProofs (disch := omega) only [go_sem, ↓reduceIte, reduceCtorEq, Nat.reduceEqDiff, and_true, ha]
  · refine callPS hT t_rv_Reads_S1 (k_z hT a false (decide_eq_false ha)) rfl 60 ?_
    simp -implicitDefEqProofs (disch := omega) only [go_sem, ↓reduceIte, reduceCtorEq, Nat.reduceEqDiff, decide_false, and_true, Int.lt_irrefl, w3, ha]
theorem c_Del2 (hT : TabOk P tab) {t w : Nat} {X B : Option Ob} (a b : Int) (h : a < b) (h0 : 0 ≤ a) :
    C P G 0 n_slices_DeleteFunc_uint8_uint8 [.sl 2 w 0 1 2 none, .fn (.func n_rv_Reads_S1) [] []] ⟨t, h3 X B w [.int .u8 a, .int .u8 b]⟩ fun v σ => ∃ t', t ≤ t' ∧ ((a = 0 ∧ v = .sl 2 w 0 1 1 none ∧ σ = ⟨t', h3 X B w [.int .u8 b, .int .u8 0]⟩) ∨ (a ≠ 0 ∧ v = .sl 2 w 0 1 2 none ∧ σ = ⟨t', h3 X B w [.int .u8 a, .int .u8 b]⟩)) := by
  have w2 : IntKind.i64.wrap (1 + 1) = 2 := by decide
  have w3 : IntKind.i64.wrap (0 + 1) = 1 := by decide
  refine C_tab hT t_slices_DeleteFunc_uint8_uint8 (by simp [slices_DeleteFunc_uint8_uint8]) (W_run 1000 ?_)
  simp -implicitDefEqProofs (disch := omega) only [go_sem, ↓reduceIte, reduceCtorEq, Nat.reduceEqDiff, Nat.zero_add, slices_DeleteFunc_uint8_uint8, slices_DeleteFunc_uint8_uint8_r0, slices_DeleteFunc_uint8_uint8_r1, slices_DeleteFunc_uint8_uint8_r2, slices_DeleteFunc_uint8_uint8_r3, slices_DeleteFunc_uint8_uint8_r4, slices_DeleteFunc_uint8_uint8_r5, slices_DeleteFunc_uint8_uint8_r6, slices_DeleteFunc_uint8_uint8_r7, slices_DeleteFunc_uint8_uint8_r8, slices_DeleteFunc_uint8_uint8_r9, slices_DeleteFunc_uint8_uint8_r10, slices_DeleteFunc_uint8_uint8_r11, slices_DeleteFunc_uint8_uint8_r12, h3]
  refine call hT t_slices_IndexFunc_uint8_uint8 (c_Idx2 hT a b h h0) 60 fun v σ hv => ?_
  obtain ⟨rfl, rfl⟩ := hv
  by_cases ha : a = 0
  · rw [if_pos ha]
    simp -implicitDefEqProofs (disch := omega) only [go_sem, ↓reduceIte, reduceCtorEq, Nat.reduceEqDiff, h3, Int.reduceBEq, w3, Int.reduceNeg]
    refine sem_rounds 3 60 ?_
    simp -implicitDefEqProofs (disch := omega) only [go_sem, ↓reduceIte, reduceCtorEq, Nat.reduceAdd, Nat.reduceEqDiff, Nat.reduceLT, Int.reduceToNat, Int.reduceLE, Int.reduceLT, Nat.zero_add, Nat.mul_one, decide_true, Nat.le_refl, cast2, true_implies, and_true, List.length_cons, List.length_nil]
    refine callPS hT t_rv_Reads_S1 (k_z hT b false (decide_eq_false (by omega))) rfl 60 ?_
    simp -implicitDefEqProofs (disch := omega) only [go_sem, ↓reduceIte, reduceCtorEq, Nat.reduceAdd, Nat.reduceEqDiff, Nat.reduceLeDiff, Nat.reduceLT, Nat.reduceSub, Int.reduceToNat, Int.reduceLE, Nat.succ_ne_zero, Nat.zero_add, Nat.add_zero, Nat.mul_one, decide_false, Bool.not_false, Nat.zero_le, List.take_zero, List.drop_succ_cons, List.drop_zero, List.cons_append, List.nil_append, cast2, and_true, Bool.not_false, Int.lt_irrefl, List.length_cons, List.length_nil, w2, w3]
    try simp only [evW]
    try simp -implicitDefEqProofs (disch := omega) only [go_sem, ↓reduceIte, reduceCtorEq, Nat.reduceAdd, Nat.reduceEqDiff, Nat.reduceLeDiff, Nat.reduceLT, Nat.reduceSub, Int.reduceToNat, Int.reduceLE, Nat.zero_add, Nat.add_zero, Nat.mul_one, Nat.le_refl, Nat.zero_le, List.take_succ_cons, List.take_zero, List.drop_succ_cons, List.drop_zero, List.replicate_succ, List.replicate_zero, List.flatten_cons, List.flatten_nil, List.cons_append, List.nil_append, List.append_nil, true_and, and_true, not_true_eq_false, List.length_cons, List.length_nil, ha]
    exact ⟨t, Nat.le_refl _, rfl⟩
  · rw [if_neg ha]
    simp -implicitDefEqProofs (disch := omega) only [go_sem, ↓reduceIte, reduceCtorEq, Nat.reduceEqDiff, beq_self_eq_true, h3, true_and, and_true, not_false_eq_true, ha, Int.reduceNeg]
    exact ⟨t, Nat.le_refl _, rfl⟩
theorem c_Del1 (hT : TabOk P tab) {t w : Nat} {X B : Option Ob} (a b : Int) :
    C P G 0 n_slices_DeleteFunc_uint8_uint8 [.sl 2 w 0 1 1 none, .fn (.func n_rv_Reads_S1) [] []] ⟨t, h3 X B w [.int .u8 a, .int .u8 b]⟩ fun v σ => ∃ t', t ≤ t' ∧ ((a = 0 ∧ v = .sl 2 w 0 1 0 none ∧ σ = ⟨t', h3 X B w [.int .u8 0, .int .u8 b]⟩) ∨ (a ≠ 0 ∧ v = .sl 2 w 0 1 1 none ∧ σ = ⟨t', h3 X B w [.int .u8 a, .int .u8 b]⟩)) := by
  have w3 : IntKind.i64.wrap (0 + 1) = 1 := by decide
  refine C_tab hT t_slices_DeleteFunc_uint8_uint8 (by simp [slices_DeleteFunc_uint8_uint8]) (W_run 1000 ?_)
  simp -implicitDefEqProofs (disch := omega) only [go_sem, ↓reduceIte, reduceCtorEq, Nat.reduceEqDiff, Nat.zero_add, slices_DeleteFunc_uint8_uint8, slices_DeleteFunc_uint8_uint8_r0, slices_DeleteFunc_uint8_uint8_r1, slices_DeleteFunc_uint8_uint8_r2, slices_DeleteFunc_uint8_uint8_r3, slices_DeleteFunc_uint8_uint8_r4, slices_DeleteFunc_uint8_uint8_r5, slices_DeleteFunc_uint8_uint8_r6, slices_DeleteFunc_uint8_uint8_r7, slices_DeleteFunc_uint8_uint8_r8, slices_DeleteFunc_uint8_uint8_r9, slices_DeleteFunc_uint8_uint8_r10, slices_DeleteFunc_uint8_uint8_r11, slices_DeleteFunc_uint8_uint8_r12, h3]
  refine call hT t_slices_IndexFunc_uint8_uint8 (c_Idx1 hT a [.int .u8 b] rfl) 60 fun v σ hv => ?_
  obtain ⟨rfl, rfl⟩ := hv
  by_cases ha : a = 0
  · rw [if_pos ha]
    simp -implicitDefEqProofs (disch := omega) only [go_sem, ↓reduceIte, reduceCtorEq, Nat.reduceEqDiff, h3, Int.reduceBEq, w3, Int.reduceNeg]
    refine sem_rounds 3 60 ?_
    simp -implicitDefEqProofs (disch := omega) only [go_sem, ↓reduceIte, reduceCtorEq, Nat.reduceEqDiff, Nat.reduceLT, Nat.reduceSub, Int.reduceToNat, Int.reduceLE, Nat.add_zero, Nat.mul_one, decide_false, Bool.not_false, Nat.zero_le, cast1, and_true, Bool.not_false, Int.lt_irrefl]
    try simp only [evW]
    try simp -implicitDefEqProofs (disch := omega) only [go_sem, ↓reduceIte, reduceCtorEq, Nat.reduceAdd, Nat.reduceEqDiff, Nat.reduceLeDiff, Nat.reduceLT, Nat.reduceSub, Int.reduceToNat, Int.reduceLE, Nat.zero_add, Nat.add_zero, Nat.mul_one, Nat.zero_le, List.take_zero, List.drop_succ_cons, List.drop_zero, List.replicate_succ, List.replicate_zero, List.flatten_cons, List.flatten_nil, List.cons_append, List.nil_append, List.append_nil, true_and, and_true, not_true_eq_false, List.length_cons, List.length_nil, ha]
    exact ⟨t, Nat.le_refl _, rfl⟩
  · rw [if_neg ha]
    simp -implicitDefEqProofs (disch := omega) only [go_sem, ↓reduceIte, reduceCtorEq, Nat.reduceEqDiff, beq_self_eq_true, h3, true_and, and_true, not_false_eq_true, ha, Int.reduceNeg]
    exact ⟨t, Nat.le_refl _, rfl⟩
end Go.Proofs.YtkhdfbokkneeaaaDoor
