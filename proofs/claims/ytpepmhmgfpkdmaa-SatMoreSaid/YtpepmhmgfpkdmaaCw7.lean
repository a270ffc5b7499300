/- Contracts: clean clauses. -/
import Derived.Test.YtpepmhmgfpkdmaaShM
namespace Go.Proofs.Ytpepmhmgfpkdmaa
open Go Go.Am Go.Cl
set_option maxRecDepth 100000
variable {G : Nat → Option V}

/-- What is wrong from one place on. -/
def chkAt (q : List Int) (i : Nat) : Bool := chk (if i = 0 then none else q[i - 1]?) (q.drop i)
theorem chkAt_end (q : List Int) : chkAt q q.length = false := by
  unfold chkAt; rw [List.drop_length]; rfl
theorem chkAt_next {q : List Int} {i : Nat} {n : Int} (h : q[i]? = some n) : chkAt q i = ((decide (n = 0) || decide (n = mn) || decide ((if i = 0 then none else q[i - 1]?) = some (neg n))) || chkAt q (i + 1)) := by
  have hl := (List.getElem?_eq_some_iff.1 h).1
  have hd : q.drop i = n :: q.drop (i + 1) := by
    rw [List.drop_eq_getElem_cons hl]
    congr 1
    exact (List.getElem?_eq_some_iff.1 h).2
  unfold chkAt
  rw [hd, chk, if_neg (by omega : ¬ i + 1 = 0), Nat.add_sub_cancel, h]
theorem neg_self {n : Int} (h : -9223372036854775808 ≤ n ∧ n ≤ 9223372036854775807) : (n < 0 ∧ n = neg n) ↔ n = mn := by
  unfold neg mn; split <;> omega

abbrev clJ (o0 : List (Option Ob)) (q : List Int) (w t : Nat) (cells : List V) : Nat → Fr → H → Prop := fun m fr σ => ∃ i, i ≤ q.length ∧ m = q.length - i ∧ chkAt q i = chk none q ∧ fget fr 4 = .sl o0.length w 0 1 q.length none ∧ fget fr 13 = .sl o0.length w 0 1 q.length none ∧ fget fr 14 = .int .i64 q.length ∧ fget fr 15 = .int .i64 i ∧ σ = ⟨t, o0 ++ [some (.arr w 3 (ints q ++ cells))]⟩
abbrev clE (o0 : List (Option Ob)) (q : List Int) (w t : Nat) (cells : List V) : AE → Fr → H → Prop := fun e fr σ => (e = .ret ∧ chk none q = true ∧ fget fr 2 = .lst 0 [] true ∧ fget fr 3 = .bool false ∧ σ = ⟨t, o0 ++ [some (.arr w 3 (ints q ++ cells))]⟩) ∨ (e = .ex 0 ∧ chk none q = false ∧ fget fr 4 = .sl o0.length w 0 1 q.length none ∧ σ = ⟨t, o0 ++ [some (.arr w 3 (ints q ++ cells))]⟩)
theorem clean_round {P : Program} (hT : TabOk P tab) {o0 : List (Option Ob)} {base : Nat} {q : List Int} {w t : Nat} {cells : List V} (hb : ∀ n ∈ q, -9223372036854775808 ≤ n ∧ n ≤ 9223372036854775807) (hl : q.length ≤ 1000000) {m : Nat} {fr : Fr} {σ : H} (hJ : clJ o0 q w t cells m fr σ) :
    W P G 48 base (AC.seq (AC.reg clause_Clean_r5 [])   (AC.seq (AC.cond (Arg.t 16)   AC.skip   (AC.exit 0))   (AC.seq (AC.block 1 (AC.seq (AC.reg clause_Clean_r6 [17, 18, 19])   (AC.seq (AC.reg clause_Clean_r7 [20, 21, 22, 23, 24, 25, 26, 27, 28, 29, 30, 31, 32, 33, 34, 35, 36, 37, 38, 39, 40, 41, 42, 43, 44])   (AC.cond (Arg.t 45)   (AC.seq (AC.reg clause_Clean_r8 [])   AC.ret)   AC.skip))))   (AC.reg clause_Clean_r9 [46])))) fr σ (seqQ (fun fr σ => ∃ m' fr' σ', m' < m ∧ Shift G 48 base fr σ fr' σ' ∧ clJ o0 q w t cells m' fr' σ') (clE o0 q w t cells)) := by
  obtain ⟨i, hi, rfl, hok, f4, f13, f14, f15, rfl⟩ := hJ
  rcases Nat.lt_or_ge i q.length with hlt | hge
  · obtain ⟨n, hni⟩ : ∃ n, q[i]? = some n := ⟨_, List.getElem?_eq_getElem hlt⟩
    have hD := ints_getDA cells hni
    have hbn := hb n (List.mem_of_getElem? hni)
    have e2 := wnext hlt (by omega)
    have hneg := wneg64 hbn
    have hns := neg_self hbn
    have hch := chkAt_next hni
    rw [hok] at hch
    by_cases g1 : n = 0
    · have hbadE : chk none q = true := by rw [hch]; simp [g1]
      have g1' : (n == 0) = true := by simpa using g1
      refine W_round [(4, .sl o0.length w 0 1 q.length none), (13, .sl o0.length w 0 1 q.length none), (14, .int .i64 q.length), (15, .int .i64 i)] ⟨f4, f13, f14, f15, trivial⟩  14 ?_
      simp -implicitDefEqProofs (disch := omega) only [go_sem, need_of, ↓reduceIte, Nat.reduceEqDiff, Nat.zero_add, Nat.mul_one, decide_true, clause_Clean_r5, clause_Clean_r6, clause_Clean_r7, clause_Clean_r8, clause_Clean_r9, ints_length, List.length_append, List.getElem?_concat_length, true_implies, true_and, and_true, hlt, hD]
      iterate 24 (try (refine run_sem 2 ?_; simp -implicitDefEqProofs (disch := omega) only [go_sem, ↓reduceIte, Nat.reduceEqDiff, g1']))
      try refine run_sem 9 ?_
      try simp -implicitDefEqProofs (disch := omega) only [go_sem, need_of, ↓reduceIte, reduceCtorEq, Nat.reduceAdd, Nat.reduceEqDiff, Nat.reduceLeDiff, Nat.reduceLT, Nat.reduceSub, Nat.reduceMul, Int.reduceToNat, Int.reduceLE, Int.reduceLT, Int.reduceEq, Int.reduceNe, Nat.succ_ne_zero, Nat.zero_add, Nat.add_zero, Nat.mul_one, Nat.one_mul, Nat.zero_mul, decide_true, decide_false, Bool.not_true, Bool.not_false, Nat.le_refl, Nat.zero_le, ge_iff_le, gt_iff_lt, Nat.reduceBEq, Nat.reduceBNe, beq_self_eq_true, bne_self_eq_false, Option.isSome_some, Option.isSome_none, Option.getD_some, Option.getD_none, clause_Clean, clause_Clean_r0, clause_Clean_r1, clause_Clean_r2, clause_Clean_r3, clause_Clean_r4, clause_Clean_r5, clause_Clean_r6, clause_Clean_r7, clause_Clean_r8, clause_Clean_r9, clause_Clean_r10, ints_length, List.length_append, List.getElem?_concat_length, false_implies, true_implies, true_and, and_true, not_true_eq_false, not_false_eq_true]
      exact .inl ⟨rfl, hbadE, rfl, rfl, rfl⟩
    have g1' : (n == 0) = false := by simpa using g1
    by_cases g2 : n = mn
    · have hbadE : chk none q = true := by rw [hch]; simp [g2]
      obtain ⟨g3, g4⟩ := hns.2 g2
      have g4' : (n == neg n) = true := by simpa using g4
      have g3' : decide (n < 0) = true := by simpa using g3
      refine W_round [(4, .sl o0.length w 0 1 q.length none), (13, .sl o0.length w 0 1 q.length none), (14, .int .i64 q.length), (15, .int .i64 i)] ⟨f4, f13, f14, f15, trivial⟩  14 ?_
      simp -implicitDefEqProofs (disch := omega) only [go_sem, need_of, ↓reduceIte, Nat.reduceEqDiff, Nat.zero_add, Nat.mul_one, decide_true, clause_Clean_r5, clause_Clean_r6, clause_Clean_r7, clause_Clean_r8, clause_Clean_r9, ints_length, List.length_append, List.getElem?_concat_length, true_implies, true_and, and_true, hlt, hD]
      iterate 24 (try (refine run_sem 2 ?_; simp -implicitDefEqProofs (disch := omega) only [go_sem, ↓reduceIte, Nat.reduceAdd, Nat.reduceEqDiff, Nat.zero_add, decide_true, hneg, g1', g4', g3]))
      try refine run_sem 9 ?_
      try simp -implicitDefEqProofs (disch := omega) only [go_sem, need_of, ↓reduceIte, reduceCtorEq, Nat.reduceAdd, Nat.reduceEqDiff, Nat.reduceLeDiff, Nat.reduceLT, Nat.reduceSub, Nat.reduceMul, Int.reduceToNat, Int.reduceLE, Int.reduceLT, Int.reduceEq, Int.reduceNe, Nat.succ_ne_zero, Nat.zero_add, Nat.add_zero, Nat.mul_one, Nat.one_mul, Nat.zero_mul, decide_true, decide_false, Bool.not_true, Bool.not_false, Nat.le_refl, Nat.zero_le, ge_iff_le, gt_iff_lt, Nat.reduceBEq, Nat.reduceBNe, beq_self_eq_true, bne_self_eq_false, Option.isSome_some, Option.isSome_none, Option.getD_some, Option.getD_none, clause_Clean, clause_Clean_r0, clause_Clean_r1, clause_Clean_r2, clause_Clean_r3, clause_Clean_r4, clause_Clean_r5, clause_Clean_r6, clause_Clean_r7, clause_Clean_r8, clause_Clean_r9, clause_Clean_r10, ints_length, List.length_append, List.getElem?_concat_length, false_implies, true_implies, true_and, and_true, not_true_eq_false, not_false_eq_true]
      exact .inl ⟨rfl, hbadE, rfl, rfl, rfl⟩
    have h4 : n < 0 → (n == neg n) = false := fun h => by
      rw [beq_eq_false_iff_ne]; exact fun e => g2 (hns.1 ⟨h, e⟩)
    by_cases g3 : n < 0
    · have g3' : decide (n < 0) = true := by simpa using g3
      have g4' := h4 g3
      rcases Nat.eq_zero_or_pos i with hz | hp
      · have hgood : chkAt q (i + 1) = chk none q := by rw [hch]; simp [g1, g2, hz]
        have hi0 : ¬ (0 < (i : Int)) := by omega
        have hi0' : decide (0 < (i : Int)) = false := by simpa using hi0
        refine W_round [(4, .sl o0.length w 0 1 q.length none), (13, .sl o0.length w 0 1 q.length none), (14, .int .i64 q.length), (15, .int .i64 i)] ⟨f4, f13, f14, f15, trivial⟩  14 ?_
        simp -implicitDefEqProofs (disch := omega) only [go_sem, need_of, ↓reduceIte, Nat.reduceEqDiff, Nat.zero_add, Nat.mul_one, decide_true, clause_Clean_r5, clause_Clean_r6, clause_Clean_r7, clause_Clean_r8, clause_Clean_r9, ints_length, List.length_append, List.getElem?_concat_length, true_implies, true_and, and_true, hlt, hD]
        iterate 24 (try (refine run_sem 2 ?_; simp -implicitDefEqProofs (disch := omega) only [go_sem, ↓reduceIte, Nat.reduceAdd, Nat.reduceEqDiff, Nat.zero_add, decide_true, decide_false, gt_iff_lt, hneg, g1', g3, g4', hi0]))
        try refine run_sem 9 ?_
        try simp -implicitDefEqProofs (disch := omega) only [go_sem, need_of, ↓reduceIte, reduceCtorEq, Nat.reduceAdd, Nat.reduceEqDiff, Nat.reduceLeDiff, Nat.reduceLT, Nat.reduceSub, Nat.reduceMul, Int.reduceToNat, Int.reduceLE, Int.reduceLT, Int.reduceEq, Int.reduceNe, Nat.succ_ne_zero, Nat.zero_add, Nat.add_zero, Nat.mul_one, Nat.one_mul, Nat.zero_mul, decide_true, decide_false, Bool.not_true, Bool.not_false, Nat.le_refl, Nat.zero_le, ge_iff_le, gt_iff_lt, Nat.reduceBEq, Nat.reduceBNe, beq_self_eq_true, bne_self_eq_false, Option.isSome_some, Option.isSome_none, Option.getD_some, Option.getD_none, clause_Clean, clause_Clean_r0, clause_Clean_r1, clause_Clean_r2, clause_Clean_r3, clause_Clean_r4, clause_Clean_r5, clause_Clean_r6, clause_Clean_r7, clause_Clean_r8, clause_Clean_r9, clause_Clean_r10, ints_length, List.length_append, List.getElem?_concat_length, false_implies, true_implies, true_and, and_true, not_true_eq_false, not_false_eq_true]
        refine ⟨q.length - (i + 1), _, _, by omega, Shift.refl _ _ _ _, i + 1, by omega, rfl, hgood, ?_⟩
        simp -implicitDefEqProofs (disch := omega) only [go_sem, ↓reduceIte, Nat.reduceEqDiff, and_true, e2]
      · have hi0 : 0 < (i : Int) := by omega
        have hi0' : decide (0 < (i : Int)) = true := by simpa using hi0
        obtain ⟨p, hpi⟩ : ∃ p, q[i - 1]? = some p := ⟨_, List.getElem?_eq_getElem (by omega)⟩
        have hDp := ints_getDA cells hpi
        have e4 : IntKind.i64.wrap ((i : Int) - 1) = ((i - 1 : Nat) : Int) := by
          rw [wrap_id]
          · omega
          · simp [IntKind.min, IntKind.signed, IntKind.bits]; omega
          · simp [IntKind.max, IntKind.signed, IntKind.bits]; omega
        have hl1 : i - 1 < q.length := by omega
        by_cases g5 : p = neg n
        · have hbadE : chk none q = true := by rw [hch, if_neg (by omega), hpi]; simp [g5]
          have g5' : (p == neg n) = true := by simpa using g5
          refine W_round [(4, .sl o0.length w 0 1 q.length none), (13, .sl o0.length w 0 1 q.length none), (14, .int .i64 q.length), (15, .int .i64 i)] ⟨f4, f13, f14, f15, trivial⟩  14 ?_
          simp -implicitDefEqProofs (disch := omega) only [go_sem, need_of, ↓reduceIte, Nat.reduceEqDiff, Nat.zero_add, Nat.mul_one, decide_true, clause_Clean_r5, clause_Clean_r6, clause_Clean_r7, clause_Clean_r8, clause_Clean_r9, ints_length, List.length_append, List.getElem?_concat_length, true_implies, true_and, and_true, hlt, hD]
          iterate 24 (try (refine run_sem 2 ?_; simp -implicitDefEqProofs (disch := omega) only [go_sem, need_of, ↓reduceIte, Nat.reduceAdd, Nat.reduceEqDiff, Nat.zero_add, Nat.mul_one, decide_true, gt_iff_lt, ints_length, List.length_append, List.getElem?_concat_length, true_implies, true_and, and_true, hneg, g1', g3, g4', hi0, e4, hDp, hl1, g5']))
          try refine run_sem 9 ?_
          try simp -implicitDefEqProofs (disch := omega) only [go_sem, need_of, ↓reduceIte, reduceCtorEq, Nat.reduceAdd, Nat.reduceEqDiff, Nat.reduceLeDiff, Nat.reduceLT, Nat.reduceSub, Nat.reduceMul, Int.reduceToNat, Int.reduceLE, Int.reduceLT, Int.reduceEq, Int.reduceNe, Nat.succ_ne_zero, Nat.zero_add, Nat.add_zero, Nat.mul_one, Nat.one_mul, Nat.zero_mul, decide_true, decide_false, Bool.not_true, Bool.not_false, Nat.le_refl, Nat.zero_le, ge_iff_le, gt_iff_lt, Nat.reduceBEq, Nat.reduceBNe, beq_self_eq_true, bne_self_eq_false, Option.isSome_some, Option.isSome_none, Option.getD_some, Option.getD_none, clause_Clean, clause_Clean_r0, clause_Clean_r1, clause_Clean_r2, clause_Clean_r3, clause_Clean_r4, clause_Clean_r5, clause_Clean_r6, clause_Clean_r7, clause_Clean_r8, clause_Clean_r9, clause_Clean_r10, ints_length, List.length_append, List.getElem?_concat_length, false_implies, true_implies, true_and, and_true, not_true_eq_false, not_false_eq_true]
          exact .inl ⟨rfl, hbadE, rfl, rfl, rfl⟩
        · have hgood : chkAt q (i + 1) = chk none q := by rw [hch, if_neg (by omega), hpi]; simp [g1, g2, g5]
          have g5' : (p == neg n) = false := by simpa using g5
          refine W_round [(4, .sl o0.length w 0 1 q.length none), (13, .sl o0.length w 0 1 q.length none), (14, .int .i64 q.length), (15, .int .i64 i)] ⟨f4, f13, f14, f15, trivial⟩  14 ?_
          simp -implicitDefEqProofs (disch := omega) only [go_sem, need_of, ↓reduceIte, Nat.reduceEqDiff, Nat.zero_add, Nat.mul_one, decide_true, clause_Clean_r5, clause_Clean_r6, clause_Clean_r7, clause_Clean_r8, clause_Clean_r9, ints_length, List.length_append, List.getElem?_concat_length, true_implies, true_and, and_true, hlt, hD]
          iterate 24 (try (refine run_sem 2 ?_; simp -implicitDefEqProofs (disch := omega) only [go_sem, need_of, ↓reduceIte, Nat.reduceAdd, Nat.reduceEqDiff, Nat.zero_add, Nat.mul_one, decide_true, gt_iff_lt, ints_length, List.length_append, List.getElem?_concat_length, true_implies, true_and, and_true, hneg, g1', g3, g4', hi0, e4, hDp, hl1, g5']))
          try refine run_sem 9 ?_
          try simp -implicitDefEqProofs (disch := omega) only [go_sem, need_of, ↓reduceIte, reduceCtorEq, Nat.reduceAdd, Nat.reduceEqDiff, Nat.reduceLeDiff, Nat.reduceLT, Nat.reduceSub, Nat.reduceMul, Int.reduceToNat, Int.reduceLE, Int.reduceLT, Int.reduceEq, Int.reduceNe, Nat.succ_ne_zero, Nat.zero_add, Nat.add_zero, Nat.mul_one, Nat.one_mul, Nat.zero_mul, decide_true, decide_false, Bool.not_true, Bool.not_false, Nat.le_refl, Nat.zero_le, ge_iff_le, gt_iff_lt, Nat.reduceBEq, Nat.reduceBNe, beq_self_eq_true, bne_self_eq_false, Option.isSome_some, Option.isSome_none, Option.getD_some, Option.getD_none, clause_Clean, clause_Clean_r0, clause_Clean_r1, clause_Clean_r2, clause_Clean_r3, clause_Clean_r4, clause_Clean_r5, clause_Clean_r6, clause_Clean_r7, clause_Clean_r8, clause_Clean_r9, clause_Clean_r10, ints_length, List.length_append, List.getElem?_concat_length, false_implies, true_implies, true_and, and_true, not_true_eq_false, not_false_eq_true]
          refine ⟨q.length - (i + 1), _, _, by omega, Shift.refl _ _ _ _, i + 1, by omega, rfl, hgood, ?_⟩
          simp -implicitDefEqProofs (disch := omega) only [go_sem, ↓reduceIte, Nat.reduceEqDiff, and_true, e2]
    · have g3' : decide (n < 0) = false := by simpa using g3
      rcases Nat.eq_zero_or_pos i with hz | hp
      · have hgood : chkAt q (i + 1) = chk none q := by rw [hch]; simp [g1, g2, hz]
        have hi0 : ¬ (0 < (i : Int)) := by omega
        have hi0' : decide (0 < (i : Int)) = false := by simpa using hi0
        refine W_round [(4, .sl o0.length w 0 1 q.length none), (13, .sl o0.length w 0 1 q.length none), (14, .int .i64 q.length), (15, .int .i64 i)] ⟨f4, f13, f14, f15, trivial⟩  14 ?_
        simp -implicitDefEqProofs (disch := omega) only [go_sem, need_of, ↓reduceIte, Nat.reduceEqDiff, Nat.zero_add, Nat.mul_one, decide_true, clause_Clean_r5, clause_Clean_r6, clause_Clean_r7, clause_Clean_r8, clause_Clean_r9, ints_length, List.length_append, List.getElem?_concat_length, true_implies, true_and, and_true, hlt, hD]
        iterate 24 (try (refine run_sem 2 ?_; simp -implicitDefEqProofs (disch := omega) only [go_sem, ↓reduceIte, Nat.reduceAdd, Nat.reduceEqDiff, Nat.zero_add, decide_false, gt_iff_lt, g1', g3, hi0]))
        try refine run_sem 9 ?_
        try simp -implicitDefEqProofs (disch := omega) only [go_sem, need_of, ↓reduceIte, reduceCtorEq, Nat.reduceAdd, Nat.reduceEqDiff, Nat.reduceLeDiff, Nat.reduceLT, Nat.reduceSub, Nat.reduceMul, Int.reduceToNat, Int.reduceLE, Int.reduceLT, Int.reduceEq, Int.reduceNe, Nat.succ_ne_zero, Nat.zero_add, Nat.add_zero, Nat.mul_one, Nat.one_mul, Nat.zero_mul, decide_true, decide_false, Bool.not_true, Bool.not_false, Nat.le_refl, Nat.zero_le, ge_iff_le, gt_iff_lt, Nat.reduceBEq, Nat.reduceBNe, beq_self_eq_true, bne_self_eq_false, Option.isSome_some, Option.isSome_none, Option.getD_some, Option.getD_none, clause_Clean, clause_Clean_r0, clause_Clean_r1, clause_Clean_r2, clause_Clean_r3, clause_Clean_r4, clause_Clean_r5, clause_Clean_r6, clause_Clean_r7, clause_Clean_r8, clause_Clean_r9, clause_Clean_r10, ints_length, List.length_append, List.getElem?_concat_length, false_implies, true_implies, true_and, and_true, not_true_eq_false, not_false_eq_true]
        refine ⟨q.length - (i + 1), _, _, by omega, Shift.refl _ _ _ _, i + 1, by omega, rfl, hgood, ?_⟩
        simp -implicitDefEqProofs (disch := omega) only [go_sem, ↓reduceIte, Nat.reduceEqDiff, and_true, e2]
      · have hi0 : 0 < (i : Int) := by omega
        have hi0' : decide (0 < (i : Int)) = true := by simpa using hi0
        obtain ⟨p, hpi⟩ : ∃ p, q[i - 1]? = some p := ⟨_, List.getElem?_eq_getElem (by omega)⟩
        have hDp := ints_getDA cells hpi
        have e4 : IntKind.i64.wrap ((i : Int) - 1) = ((i - 1 : Nat) : Int) := by
          rw [wrap_id]
          · omega
          · simp [IntKind.min, IntKind.signed, IntKind.bits]; omega
          · simp [IntKind.max, IntKind.signed, IntKind.bits]; omega
        have hl1 : i - 1 < q.length := by omega
        by_cases g5 : p = neg n
        · have hbadE : chk none q = true := by rw [hch, if_neg (by omega), hpi]; simp [g5]
          have g5' : (p == neg n) = true := by simpa using g5
          refine W_round [(4, .sl o0.length w 0 1 q.length none), (13, .sl o0.length w 0 1 q.length none), (14, .int .i64 q.length), (15, .int .i64 i)] ⟨f4, f13, f14, f15, trivial⟩  14 ?_
          simp -implicitDefEqProofs (disch := omega) only [go_sem, need_of, ↓reduceIte, Nat.reduceEqDiff, Nat.zero_add, Nat.mul_one, decide_true, clause_Clean_r5, clause_Clean_r6, clause_Clean_r7, clause_Clean_r8, clause_Clean_r9, ints_length, List.length_append, List.getElem?_concat_length, true_implies, true_and, and_true, hlt, hD]
          iterate 24 (try (refine run_sem 2 ?_; simp -implicitDefEqProofs (disch := omega) only [go_sem, need_of, ↓reduceIte, Nat.reduceAdd, Nat.reduceEqDiff, Nat.zero_add, Nat.mul_one, decide_true, decide_false, gt_iff_lt, ints_length, List.length_append, List.getElem?_concat_length, true_implies, true_and, and_true, hneg, g1', g3, hi0, e4, hDp, hl1, g5']))
          try refine run_sem 9 ?_
          try simp -implicitDefEqProofs (disch := omega) only [go_sem, need_of, ↓reduceIte, reduceCtorEq, Nat.reduceAdd, Nat.reduceEqDiff, Nat.reduceLeDiff, Nat.reduceLT, Nat.reduceSub, Nat.reduceMul, Int.reduceToNat, Int.reduceLE, Int.reduceLT, Int.reduceEq, Int.reduceNe, Nat.succ_ne_zero, Nat.zero_add, Nat.add_zero, Nat.mul_one, Nat.one_mul, Nat.zero_mul, decide_true, decide_false, Bool.not_true, Bool.not_false, Nat.le_refl, Nat.zero_le, ge_iff_le, gt_iff_lt, Nat.reduceBEq, Nat.reduceBNe, beq_self_eq_true, bne_self_eq_false, Option.isSome_some, Option.isSome_none, Option.getD_some, Option.getD_none, clause_Clean, clause_Clean_r0, clause_Clean_r1, clause_Clean_r2, clause_Clean_r3, clause_Clean_r4, clause_Clean_r5, clause_Clean_r6, clause_Clean_r7, clause_Clean_r8, clause_Clean_r9, clause_Clean_r10, ints_length, List.length_append, List.getElem?_concat_length, false_implies, true_implies, true_and, and_true, not_true_eq_false, not_false_eq_true]
          exact .inl ⟨rfl, hbadE, rfl, rfl, rfl⟩
        · have hgood : chkAt q (i + 1) = chk none q := by rw [hch, if_neg (by omega), hpi]; simp [g1, g2, g5]
          have g5' : (p == neg n) = false := by simpa using g5
          refine W_round [(4, .sl o0.length w 0 1 q.length none), (13, .sl o0.length w 0 1 q.length none), (14, .int .i64 q.length), (15, .int .i64 i)] ⟨f4, f13, f14, f15, trivial⟩  14 ?_
          simp -implicitDefEqProofs (disch := omega) only [go_sem, need_of, ↓reduceIte, Nat.reduceEqDiff, Nat.zero_add, Nat.mul_one, decide_true, clause_Clean_r5, clause_Clean_r6, clause_Clean_r7, clause_Clean_r8, clause_Clean_r9, ints_length, List.length_append, List.getElem?_concat_length, true_implies, true_and, and_true, hlt, hD]
          iterate 24 (try (refine run_sem 2 ?_; simp -implicitDefEqProofs (disch := omega) only [go_sem, need_of, ↓reduceIte, Nat.reduceAdd, Nat.reduceEqDiff, Nat.zero_add, Nat.mul_one, decide_true, decide_false, gt_iff_lt, ints_length, List.length_append, List.getElem?_concat_length, true_implies, true_and, and_true, hneg, g1', g3, hi0, e4, hDp, hl1, g5']))
          try refine run_sem 9 ?_
          try simp -implicitDefEqProofs (disch := omega) only [go_sem, need_of, ↓reduceIte, reduceCtorEq, Nat.reduceAdd, Nat.reduceEqDiff, Nat.reduceLeDiff, Nat.reduceLT, Nat.reduceSub, Nat.reduceMul, Int.reduceToNat, Int.reduceLE, Int.reduceLT, Int.reduceEq, Int.reduceNe, Nat.succ_ne_zero, Nat.zero_add, Nat.add_zero, Nat.mul_one, Nat.one_mul, Nat.zero_mul, decide_true, decide_false, Bool.not_true, Bool.not_false, Nat.le_refl, Nat.zero_le, ge_iff_le, gt_iff_lt, Nat.reduceBEq, Nat.reduceBNe, beq_self_eq_true, bne_self_eq_false, Option.isSome_some, Option.isSome_none, Option.getD_some, Option.getD_none, clause_Clean, clause_Clean_r0, clause_Clean_r1, clause_Clean_r2, clause_Clean_r3, clause_Clean_r4, clause_Clean_r5, clause_Clean_r6, clause_Clean_r7, clause_Clean_r8, clause_Clean_r9, clause_Clean_r10, ints_length, List.length_append, List.getElem?_concat_length, false_implies, true_implies, true_and, and_true, not_true_eq_false, not_false_eq_true]
          refine ⟨q.length - (i + 1), _, _, by omega, Shift.refl _ _ _ _, i + 1, by omega, rfl, hgood, ?_⟩
          simp -implicitDefEqProofs (disch := omega) only [go_sem, ↓reduceIte, Nat.reduceEqDiff, and_true, e2]
  · have hi : i = q.length := by omega
    refine W_round [(4, .sl o0.length w 0 1 q.length none), (13, .sl o0.length w 0 1 q.length none), (14, .int .i64 q.length), (15, .int .i64 i)] ⟨f4, f13, f14, f15, trivial⟩  1000 ?_
    simp -implicitDefEqProofs (disch := omega) only [go_sem, ↓reduceIte, Nat.reduceEqDiff, decide_false, clause_Clean_r5, clause_Clean_r6, clause_Clean_r7, clause_Clean_r8, clause_Clean_r9, hi, Nat.lt_irrefl]
    rw [hi, chkAt_end] at hok
    exact .inr ⟨rfl, hok.symm, rfl, rfl⟩

theorem namelessL_append : ∀ {l m : List V}, namelessL l = true → namelessL m = true → namelessL (l ++ m) = true
  | [], _, _, h => h
  | v :: l, m, h, k => by
    simp only [namelessL, Bool.and_eq_true, List.cons_append] at h ⊢
    exact ⟨h.1, namelessL_append h.2 k⟩

theorem c_CleanO (hT : TabOk Try.prog tab) (c : List Int) (hb : ∀ n ∈ c, -9223372036854775808 ≤ n ∧ n ≤ 9223372036854775807) (hl : c.length ≤ 1000000) {base t : Nat} {o0 : List (Option Ob)} {a : V} (hbase : base ≤ o0.length)
    (hclone : ∀ b, C Try.prog G b n_slices_Clone_int_int [a] ⟨t, o0⟩ fun v σ => ∃ t' w, t ≤ t' ∧ v = .sl o0.length w 0 1 c.length none ∧ σ = ⟨t', o0 ++ [some (.arr w 3 (ints c))]⟩) :
    C Try.prog G base n_clause_Clean [a] ⟨t, o0⟩ fun u σ => ∃ t' w x, t ≤ t' ∧ σ = ⟨t', o0 ++ [some (.arr w 3 x)]⟩ ∧ namelessL x = true ∧ ((u = .tup [.lst 0 [] true, .bool false] ∧ cleanS c = ([], false)) ∨ ∃ q cells, cleanS c = (q, true) ∧ x = ints q ++ cells ∧ u = .tup [.sl o0.length w 0 1 q.length none, .bool true]) := by
  refine C_tab hT t_clause_Clean (by simp [clause_Clean]) (W_run 1000 ?_)
  simp -implicitDefEqProofs (disch := omega) only [go_sem, ↓reduceIte, reduceCtorEq, Nat.reduceEqDiff, clause_Clean, clause_Clean_r0, clause_Clean_r1, clause_Clean_r2, clause_Clean_r3, clause_Clean_r4, clause_Clean_r5, clause_Clean_r6, clause_Clean_r7, clause_Clean_r8, clause_Clean_r9, clause_Clean_r10]
  refine call hT t_slices_Clone_int_int (hclone _) 1000 fun u σ hu => ?_
  obtain ⟨t1, w, ht1, rfl, rfl⟩ := hu
  simp -implicitDefEqProofs (disch := omega) only [go_sem, ↓reduceIte, reduceCtorEq, Nat.reduceEqDiff]
  obtain ⟨s, hsl, hsp, hsm, hs⟩ := c_SortC (G := G) (base := base) (k := o0.length) (v := w) (t := t1) (o := o0 ++ [some (.arr w 3 (ints c))]) hbase (by simp) hb hl
  rw [set_snoc] at hs
  refine call hT t_slices_SortFunc_int_int hs 1000 fun u σ hu => ?_
  obtain ⟨rfl, rfl⟩ := hu
  simp -implicitDefEqProofs (disch := omega) only [go_sem, ↓reduceIte, reduceCtorEq, Nat.reduceEqDiff]
  rw [← hsl]
  have hcp := c_Compact (G := G) (base := base) (k := o0.length) (v := w) (t := t1) (T := 3) (zs := s) (o := o0 ++ [some (.arr w 3 (ints s))]) hbase (by simp) (by omega)
  refine call hT t_slices_Compact_int_int hcp 1000 fun u σ hu => ?_
  obtain ⟨rfl, cells, hcn, rfl⟩ := hu
  rw [set_snoc]
  have hcl := cleanP hsp hsm
  have hq : ∀ n ∈ cmpct s, -9223372036854775808 ≤ n ∧ n ≤ 9223372036854775807 := fun n hn => hb n ((hsm n).1 (mem_cmpct.1 hn))
  have hle := cmpct_le s
  generalize cmpct s = q at hcl hq hle ⊢
  simp -implicitDefEqProofs (disch := omega) only [go_sem, ↓reduceIte, reduceCtorEq, Nat.reduceEqDiff]
  refine sem_invE (clJ o0 q w t1 cells) (clE o0 q w t1 cells) (m0 := q.length) ⟨0, by omega, rfl, rfl, ?_⟩ (fun m fr σ hJ => clean_round hT hq (by omega) hJ) (fun e fr σ hE => ?_)
  · simp -implicitDefEqProofs (disch := omega) only [go_sem, ↓reduceIte, reduceCtorEq, Nat.reduceEqDiff]
    simp
  · have hnl : namelessL (ints q ++ cells) = true := namelessL_append (ints_nameless q) hcn
    rcases hE with ⟨rfl, hbd, f2, f3, rfl⟩ | ⟨rfl, hgd, f4, rfl⟩
    · rw [hbd, if_pos rfl] at hcl
      refine run_sem 1000 ?_
      simp -implicitDefEqProofs (disch := omega) only [go_sem, f2, f3]
      exact ⟨t1, w, _, ht1, ⟨rfl, rfl⟩, hnl, .inl hcl.symm⟩
    · rw [hgd, if_neg (by simp)] at hcl
      refine run_sem 1000 ?_
      simp -implicitDefEqProofs (disch := omega) only [go_sem, ↓reduceIte, Nat.reduceEqDiff, f4]
      exact ⟨t1, w, _, ht1, ⟨rfl, rfl⟩, hnl, .inr ⟨q, cells, hcl.symm, rfl, rfl⟩⟩
end Go.Proofs.Ytpepmhmgfpkdmaa

