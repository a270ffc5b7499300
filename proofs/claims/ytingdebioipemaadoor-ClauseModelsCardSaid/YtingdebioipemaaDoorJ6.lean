/- Contracts: clean clauses. -/
import Derived.Test.YtingdebioipemaaDoorSh3
import Derived.Test.YtingdebioipemaaDoorJ4
/- Contracts: clean clauses. -/
namespace Go.Proofs.YtingdebioipemaaDoor
open Go Go.Am Go.Cl
set_option maxRecDepth 100000
variable {G : Nat → Option V}
def chkAt (q : List Int) (i : Nat) : Bool := chk (if i = 0 then none else q[i - 1]?) (q.drop i)
theorem chkAt_end (q : List Int) : chkAt q q.length = false := by
  unfold chkAt; rw [List.drop_length]; rfl
theorem chkAt_next {q : List Int} {i : Nat} {n : Int} (h : q[i]? = some n) : chkAt q i = ((decide (n = 0) || decide (n = mn) || decide ((if i = 0 then none else q[i - 1]?) = some (neg n))) || chkAt q (i + 1)) := by
  have hl := (List.getElem?_eq_some_iff.1 h).1
  have hd : q.drop i = n :: q.drop (i + 1) := by
    rw [List.drop_eq_getElem_cons hl]
    congr 1
    exact (List.getElem?_eq_some_iff.1 h).2
  unfold chkAt
  rw [hd, chk, if_neg (by omega : ¬ i + 1 = 0), Nat.add_sub_cancel, h]
theorem neg_self {n : Int} (h : -9223372036854775808 ≤ n ∧ n ≤ 9223372036854775807) : (n < 0 ∧ n = neg n) ↔ n = mn := by
  unfold neg mn; split <;> omega
abbrev clJ (c q : List Int) (w t : Nat) (cells : List V) : Nat → Fr → H → Prop := fun m fr σ => ∃ i, i ≤ q.length ∧ m = q.length - i ∧ chkAt q i = chk none q ∧ fget fr 4 = .sl 0 w 0 1 q.length none ∧ fget fr 13 = .sl 0 w 0 1 q.length none ∧ fget fr 14 = .int .i64 q.length ∧ fget fr 15 = .int .i64 i ∧ σ = ⟨t, [some (.arr w 3 (ints q ++ cells))]⟩
abbrev clE (c q : List Int) (w t : Nat) (cells : List V) : AE → Fr → H → Prop := fun e fr σ => (e = .ret ∧ chk none q = true ∧ fget fr 2 = .lst 0 [] true ∧ fget fr 3 = .bool false) ∨ (e = .ex 0 ∧ chk none q = false ∧ fget fr 4 = .sl 0 w 0 1 q.length none ∧ σ = ⟨t, [some (.arr w 3 (ints q ++ cells))]⟩)
theorem clean_round {P : Program} (hT : TabOk P tab) {c q : List Int} {w t : Nat} {cells : List V} (hb : ∀ n ∈ q, -9223372036854775808 ≤ n ∧ n ≤ 9223372036854775807) (hl : q.length ≤ 1000000) {m : Nat} {fr : Fr} {σ : H} (hJ : clJ c q w t cells m fr σ) :
    W P G 48 0 (AC.seq (AC.reg zqi_5 [])   (AC.seq (AC.cond (Arg.t 16)   AC.skip   (AC.exit 0))   (AC.seq (AC.block 1 (AC.seq (AC.reg zqi_6 [17, 18, 19])   (AC.seq (AC.reg zqi_7 [20, 21, 22, 23, 24, 25, 26, 27, 28, 29, 30, 31, 32, 33, 34, 35, 36, 37, 38, 39, 40, 41, 42, 43, 44])   (AC.cond (Arg.t 45)   (AC.seq (AC.reg zqi_8 [])   AC.ret)   AC.skip))))   (AC.reg zqi_9 [46])))) fr σ (seqQ (fun fr σ => ∃ m' fr' σ', m' < m ∧ Shift G 48 0 fr σ fr' σ' ∧ clJ c q w t cells m' fr' σ') (clE c q w t cells)) := by
  obtain ⟨i, hi, rfl, hok, f4, f13, f14, f15, rfl⟩ := hJ
  rcases Nat.lt_or_ge i q.length with hlt | hge
  · obtain ⟨n, hni⟩ : ∃ n, q[i]? = some n := ⟨_, List.getElem?_eq_getElem hlt⟩
    have hD := ints_getDA cells hni
    have hbn := hb n (List.mem_of_getElem? hni)
    have e2 := wnext hlt (by omega)
    have hneg := wneg64 hbn
    have hns := neg_self hbn
    have hch := chkAt_next hni
    rw [hok] at hch
    by_cases g1 : n = 0
    · have hbadE : chk none q = true := by rw [hch]; simp [g1]
      have g1' : (n == 0) = true := by simpa using g1
      refine W_round [(4, .sl 0 w 0 1 q.length none), (13, .sl 0 w 0 1 q.length none), (14, .int .i64 q.length), (15, .int .i64 i)] ⟨f4, f13, f14, f15, trivial⟩  14 ?_
      simp -implicitDefEqProofs (disch := omega) only [go_sem, need_of, ↓reduceIte, Nat.reduceEqDiff, Nat.zero_add, Nat.mul_one, decide_true, zqi_5, zqi_6, zqi_7, zqi_8, zqi_9, ints_length, List.length_append, true_implies, true_and, and_true, hlt, hD]
      iterate 24 (try (refine run_sem 2 ?_; simp -implicitDefEqProofs (disch := omega) only [go_sem, ↓reduceIte, Nat.reduceEqDiff, g1']))
      try refine run_sem 9 ?_
      try simp -implicitDefEqProofs (disch := omega) only [go_sem, need_of, ↓reduceIte, reduceCtorEq, Nat.reduceAdd, Nat.reduceEqDiff, Nat.reduceLeDiff, Nat.reduceLT, Nat.reduceSub, Nat.reduceMul, Int.reduceToNat, Int.reduceLE, Int.reduceLT, Int.reduceEq, Int.reduceNe, Nat.succ_ne_zero, Nat.zero_add, Nat.add_zero, Nat.mul_one, Nat.one_mul, Nat.zero_mul, decide_true, decide_false, Bool.not_true, Bool.not_false, Nat.le_refl, Nat.zero_le, ge_iff_le, gt_iff_lt, Nat.reduceBEq, Nat.reduceBNe, beq_self_eq_true, bne_self_eq_false, Option.isSome_some, Option.isSome_none, Option.getD_some, Option.getD_none, clause_Clean, zqi_0, zqi_1, zqi_2, zqi_3, zqi_4, zqi_5, zqi_6, zqi_7, zqi_8, zqi_9, zqi_10, ints_length, List.length_append, false_implies, true_implies, true_and, and_true, not_true_eq_false, not_false_eq_true]
      exact .inl ⟨rfl, hbadE, rfl, rfl⟩
    have g1' : (n == 0) = false := by simpa using g1
    by_cases g2 : n = mn
    · have hbadE : chk none q = true := by rw [hch]; simp [g2]
      obtain ⟨g3, g4⟩ := hns.2 g2
      have g4' : (n == neg n) = true := by simpa using g4
      have g3' : decide (n < 0) = true := by simpa using g3
      refine W_round [(4, .sl 0 w 0 1 q.length none), (13, .sl 0 w 0 1 q.length none), (14, .int .i64 q.length), (15, .int .i64 i)] ⟨f4, f13, f14, f15, trivial⟩  14 ?_
      simp -implicitDefEqProofs (disch := omega) only [go_sem, need_of, ↓reduceIte, Nat.reduceEqDiff, Nat.zero_add, Nat.mul_one, decide_true, zqi_5, zqi_6, zqi_7, zqi_8, zqi_9, ints_length, List.length_append, true_implies, true_and, and_true, hlt, hD]
      iterate 24 (try (refine run_sem 2 ?_; simp -implicitDefEqProofs (disch := omega) only [go_sem, ↓reduceIte, Nat.reduceAdd, Nat.reduceEqDiff, Nat.zero_add, decide_true, hneg, g1', g4', g3]))
      try refine run_sem 9 ?_
      try simp -implicitDefEqProofs (disch := omega) only [go_sem, need_of, ↓reduceIte, reduceCtorEq, Nat.reduceAdd, Nat.reduceEqDiff, Nat.reduceLeDiff, Nat.reduceLT, Nat.reduceSub, Nat.reduceMul, Int.reduceToNat, Int.reduceLE, Int.reduceLT, Int.reduceEq, Int.reduceNe, Nat.succ_ne_zero, Nat.zero_add, Nat.add_zero, Nat.mul_one, Nat.one_mul, Nat.zero_mul, decide_true, decide_false, Bool.not_true, Bool.not_false, Nat.le_refl, Nat.zero_le, ge_iff_le, gt_iff_lt, Nat.reduceBEq, Nat.reduceBNe, beq_self_eq_true, bne_self_eq_false, Option.isSome_some, Option.isSome_none, Option.getD_some, Option.getD_none, clause_Clean, zqi_0, zqi_1, zqi_2, zqi_3, zqi_4, zqi_5, zqi_6, zqi_7, zqi_8, zqi_9, zqi_10, ints_length, List.length_append, false_implies, true_implies, true_and, and_true, not_true_eq_false, not_false_eq_true]
      exact .inl ⟨rfl, hbadE, rfl, rfl⟩
    have h4 : n < 0 → (n == neg n) = false := fun h => by
      rw [beq_eq_false_iff_ne]; exact fun e => g2 (hns.1 ⟨h, e⟩)
    by_cases g3 : n < 0
    · have g3' : decide (n < 0) = true := by simpa using g3
      have g4' := h4 g3
      rcases Nat.eq_zero_or_pos i with hz | hp
      · have hgood : chkAt q (i + 1) = chk none q := by rw [hch]; simp [g1, g2, hz]
        have hi0 : ¬ (0 < (i : Int)) := by omega
        have hi0' : decide (0 < (i : Int)) = false := by simpa using hi0
        refine W_round [(4, .sl 0 w 0 1 q.length none), (13, .sl 0 w 0 1 q.length none), (14, .int .i64 q.length), (15, .int .i64 i)] ⟨f4, f13, f14, f15, trivial⟩  14 ?_
        simp -implicitDefEqProofs (disch := omega) only [go_sem, need_of, ↓reduceIte, Nat.reduceEqDiff, Nat.zero_add, Nat.mul_one, decide_true, zqi_5, zqi_6, zqi_7, zqi_8, zqi_9, ints_length, List.length_append, true_implies, true_and, and_true, hlt, hD]
        iterate 24 (try (refine run_sem 2 ?_; simp -implicitDefEqProofs (disch := omega) only [go_sem, ↓reduceIte, Nat.reduceAdd, Nat.reduceEqDiff, Nat.zero_add, decide_true, decide_false, gt_iff_lt, hneg, g1', g3, g4', hi0]))
        try refine run_sem 9 ?_
        try simp -implicitDefEqProofs (disch := omega) only [go_sem, need_of, ↓reduceIte, reduceCtorEq, Nat.reduceAdd, Nat.reduceEqDiff, Nat.reduceLeDiff, Nat.reduceLT, Nat.reduceSub, Nat.reduceMul, Int.reduceToNat, Int.reduceLE, Int.reduceLT, Int.reduceEq, Int.reduceNe, Nat.succ_ne_zero, Nat.zero_add, Nat.add_zero, Nat.mul_one, Nat.one_mul, Nat.zero_mul, decide_true, decide_false, Bool.not_true, Bool.not_false, Nat.le_refl, Nat.zero_le, ge_iff_le, gt_iff_lt, Nat.reduceBEq, Nat.reduceBNe, beq_self_eq_true, bne_self_eq_false, Option.isSome_some, Option.isSome_none, Option.getD_some, Option.getD_none, clause_Clean, zqi_0, zqi_1, zqi_2, zqi_3, zqi_4, zqi_5, zqi_6, zqi_7, zqi_8, zqi_9, zqi_10, ints_length, List.length_append, false_implies, true_implies, true_and, and_true, not_true_eq_false, not_false_eq_true]
        refine ⟨q.length - (i + 1), _, _, by omega, Shift.refl _ _ _ _, i + 1, by omega, rfl, hgood, ?_⟩
        simp -implicitDefEqProofs (disch := omega) only [go_sem, ↓reduceIte, Nat.reduceEqDiff, and_true, e2]
      · have hi0 : 0 < (i : Int) := by omega
        have hi0' : decide (0 < (i : Int)) = true := by simpa using hi0
        obtain ⟨p, hpi⟩ : ∃ p, q[i - 1]? = some p := ⟨_, List.getElem?_eq_getElem (by omega)⟩
        have hDp := ints_getDA cells hpi
        have e4 : IntKind.i64.wrap ((i : Int) - 1) = ((i - 1 : Nat) : Int) := by
          rw [wrap_id]
          · omega
          · simp [IntKind.min, IntKind.signed, IntKind.bits]; omega
          · simp [IntKind.max, IntKind.signed, IntKind.bits]; omega
        have hl1 : i - 1 < q.length := by omega
        by_cases g5 : p = neg n
        · have hbadE : chk none q = true := by rw [hch, if_neg (by omega), hpi]; simp [g5]
          have g5' : (p == neg n) = true := by simpa using g5
          refine W_round [(4, .sl 0 w 0 1 q.length none), (13, .sl 0 w 0 1 q.length none), (14, .int .i64 q.length), (15, .int .i64 i)] ⟨f4, f13, f14, f15, trivial⟩  14 ?_
          simp -implicitDefEqProofs (disch := omega) only [go_sem, need_of, ↓reduceIte, Nat.reduceEqDiff, Nat.zero_add, Nat.mul_one, decide_true, zqi_5, zqi_6, zqi_7, zqi_8, zqi_9, ints_length, List.length_append, true_implies, true_and, and_true, hlt, hD]
          iterate 24 (try (refine run_sem 2 ?_; simp -implicitDefEqProofs (disch := omega) only [go_sem, need_of, ↓reduceIte, Nat.reduceAdd, Nat.reduceEqDiff, Nat.zero_add, Nat.mul_one, decide_true, gt_iff_lt, ints_length, List.length_append, true_implies, true_and, and_true, hneg, g1', g3, g4', hi0, e4, hDp, hl1, g5']))
          try refine run_sem 9 ?_
          try simp -implicitDefEqProofs (disch := omega) only [go_sem, need_of, ↓reduceIte, reduceCtorEq, Nat.reduceAdd, Nat.reduceEqDiff, Nat.reduceLeDiff, Nat.reduceLT, Nat.reduceSub, Nat.reduceMul, Int.reduceToNat, Int.reduceLE, Int.reduceLT, Int.reduceEq, Int.reduceNe, Nat.succ_ne_zero, Nat.zero_add, Nat.add_zero, Nat.mul_one, Nat.one_mul, Nat.zero_mul, decide_true, decide_false, Bool.not_true, Bool.not_false, Nat.le_refl, Nat.zero_le, ge_iff_le, gt_iff_lt, Nat.reduceBEq, Nat.reduceBNe, beq_self_eq_true, bne_self_eq_false, Option.isSome_some, Option.isSome_none, Option.getD_some, Option.getD_none, clause_Clean, zqi_0, zqi_1, zqi_2, zqi_3, zqi_4, zqi_5, zqi_6, zqi_7, zqi_8, zqi_9, zqi_10, ints_length, List.length_append, false_implies, true_implies, true_and, and_true, not_true_eq_false, not_false_eq_true]
          exact .inl ⟨rfl, hbadE, rfl, rfl⟩
        · have hgood : chkAt q (i + 1) = chk none q := by rw [hch, if_neg (by omega), hpi]; simp [g1, g2, g5]
          have g5' : (p == neg n) = false := by simpa using g5
          refine W_round [(4, .sl 0 w 0 1 q.length none), (13, .sl 0 w 0 1 q.length none), (14, .int .i64 q.length), (15, .int .i64 i)] ⟨f4, f13, f14, f15, trivial⟩  14 ?_
          simp -implicitDefEqProofs (disch := omega) only [go_sem, need_of, ↓reduceIte, Nat.reduceEqDiff, Nat.zero_add, Nat.mul_one, decide_true, zqi_5, zqi_6, zqi_7, zqi_8, zqi_9, ints_length, List.length_append, true_implies, true_and, and_true, hlt, hD]
          iterate 24 (try (refine run_sem 2 ?_; simp -implicitDefEqProofs (disch := omega) only [go_sem, need_of, ↓reduceIte, Nat.reduceAdd, Nat.reduceEqDiff, Nat.zero_add, Nat.mul_one, decide_true, gt_iff_lt, ints_length, List.length_append, true_implies, true_and, and_true, hneg, g1', g3, g4', hi0, e4, hDp, hl1, g5']))
          try refine run_sem 9 ?_
          try simp -implicitDefEqProofs (disch := omega) only [go_sem, need_of, ↓reduceIte, reduceCtorEq, Nat.reduceAdd, Nat.reduceEqDiff, Nat.reduceLeDiff, Nat.reduceLT, Nat.reduceSub, Nat.reduceMul, Int.reduceToNat, Int.reduceLE, Int.reduceLT, Int.reduceEq, Int.reduceNe, Nat.succ_ne_zero, Nat.zero_add, Nat.add_zero, Nat.mul_one, Nat.one_mul, Nat.zero_mul, decide_true, decide_false, Bool.not_true, Bool.not_false, Nat.le_refl, Nat.zero_le, ge_iff_le, gt_iff_lt, Nat.reduceBEq, Nat.reduceBNe, beq_self_eq_true, bne_self_eq_false, Option.isSome_some, Option.isSome_none, Option.getD_some, Option.getD_none, clause_Clean, zqi_0, zqi_1, zqi_2, zqi_3, zqi_4, zqi_5, zqi_6, zqi_7, zqi_8, zqi_9, zqi_10, ints_length, List.length_append, false_implies, true_implies, true_and, and_true, not_true_eq_false, not_false_eq_true]
          refine ⟨q.length - (i + 1), _, _, by omega, Shift.refl _ _ _ _, i + 1, by omega, rfl, hgood, ?_⟩
          simp -implicitDefEqProofs (disch := omega) only [go_sem, ↓reduceIte, Nat.reduceEqDiff, and_true, e2]
    · have g3' : decide (n < 0) = false := by simpa using g3
      rcases Nat.eq_zero_or_pos i with hz | hp
      · have hgood : chkAt q (i + 1) = chk none q := by rw [hch]; simp [g1, g2, hz]
        have hi0 : ¬ (0 < (i : Int)) := by omega
        have hi0' : decide (0 < (i : Int)) = false := by simpa using hi0
        refine W_round [(4, .sl 0 w 0 1 q.length none), (13, .sl 0 w 0 1 q.length none), (14, .int .i64 q.length), (15, .int .i64 i)] ⟨f4, f13, f14, f15, trivial⟩  14 ?_
        simp -implicitDefEqProofs (disch := omega) only [go_sem, need_of, ↓reduceIte, Nat.reduceEqDiff, Nat.zero_add, Nat.mul_one, decide_true, zqi_5, zqi_6, zqi_7, zqi_8, zqi_9, ints_length, List.length_append, true_implies, true_and, and_true, hlt, hD]
        iterate 24 (try (refine run_sem 2 ?_; simp -implicitDefEqProofs (disch := omega) only [go_sem, ↓reduceIte, Nat.reduceAdd, Nat.reduceEqDiff, Nat.zero_add, decide_false, gt_iff_lt, g1', g3, hi0]))
        try refine run_sem 9 ?_
        try simp -implicitDefEqProofs (disch := omega) only [go_sem, need_of, ↓reduceIte, reduceCtorEq, Nat.reduceAdd, Nat.reduceEqDiff, Nat.reduceLeDiff, Nat.reduceLT, Nat.reduceSub, Nat.reduceMul, Int.reduceToNat, Int.reduceLE, Int.reduceLT, Int.reduceEq, Int.reduceNe, Nat.succ_ne_zero, Nat.zero_add, Nat.add_zero, Nat.mul_one, Nat.one_mul, Nat.zero_mul, decide_true, decide_false, Bool.not_true, Bool.not_false, Nat.le_refl, Nat.zero_le, ge_iff_le, gt_iff_lt, Nat.reduceBEq, Nat.reduceBNe, beq_self_eq_true, bne_self_eq_false, Option.isSome_some, Option.isSome_none, Option.getD_some, Option.getD_none, clause_Clean, zqi_0, zqi_1, zqi_2, zqi_3, zqi_4, zqi_5, zqi_6, zqi_7, zqi_8, zqi_9, zqi_10, ints_length, List.length_append, false_implies, true_implies, true_and, and_true, not_true_eq_false, not_false_eq_true]
        refine ⟨q.length - (i + 1), _, _, by omega, Shift.refl _ _ _ _, i + 1, by omega, rfl, hgood, ?_⟩
        simp -implicitDefEqProofs (disch := omega) only [go_sem, ↓reduceIte, Nat.reduceEqDiff, and_true, e2]
      · have hi0 : 0 < (i : Int) := by omega
        have hi0' : decide (0 < (i : Int)) = true := by simpa using hi0
        obtain ⟨p, hpi⟩ : ∃ p, q[i - 1]? = some p := ⟨_, List.getElem?_eq_getElem (by omega)⟩
        have hDp := ints_getDA cells hpi
        have e4 : IntKind.i64.wrap ((i : Int) - 1) = ((i - 1 : Nat) : Int) := by
          rw [wrap_id]
          · omega
          · simp [IntKind.min, IntKind.signed, IntKind.bits]; omega
          · simp [IntKind.max, IntKind.signed, IntKind.bits]; omega
        have hl1 : i - 1 < q.length := by omega
        by_cases g5 : p = neg n
        · have hbadE : chk none q = true := by rw [hch, if_neg (by omega), hpi]; simp [g5]
          have g5' : (p == neg n) = true := by simpa using g5
          refine W_round [(4, .sl 0 w 0 1 q.length none), (13, .sl 0 w 0 1 q.length none), (14, .int .i64 q.length), (15, .int .i64 i)] ⟨f4, f13, f14, f15, trivial⟩  14 ?_
          simp -implicitDefEqProofs (disch := omega) only [go_sem, need_of, ↓reduceIte, Nat.reduceEqDiff, Nat.zero_add, Nat.mul_one, decide_true, zqi_5, zqi_6, zqi_7, zqi_8, zqi_9, ints_length, List.length_append, true_implies, true_and, and_true, hlt, hD]
          iterate 24 (try (refine run_sem 2 ?_; simp -implicitDefEqProofs (disch := omega) only [go_sem, need_of, ↓reduceIte, Nat.reduceAdd, Nat.reduceEqDiff, Nat.zero_add, Nat.mul_one, decide_true, decide_false, gt_iff_lt, ints_length, List.length_append, true_implies, true_and, and_true, hneg, g1', g3, hi0, e4, hDp, hl1, g5']))
          try refine run_sem 9 ?_
          try simp -implicitDefEqProofs (disch := omega) only [go_sem, need_of, ↓reduceIte, reduceCtorEq, Nat.reduceAdd, Nat.reduceEqDiff, Nat.reduceLeDiff, Nat.reduceLT, Nat.reduceSub, Nat.reduceMul, Int.reduceToNat, Int.reduceLE, Int.reduceLT, Int.reduceEq, Int.reduceNe, Nat.succ_ne_zero, Nat.zero_add, Nat.add_zero, Nat.mul_one, Nat.one_mul, Nat.zero_mul, decide_true, decide_false, Bool.not_true, Bool.not_false, Nat.le_refl, Nat.zero_le, ge_iff_le, gt_iff_lt, Nat.reduceBEq, Nat.reduceBNe, beq_self_eq_true, bne_self_eq_false, Option.isSome_some, Option.isSome_none, Option.getD_some, Option.getD_none, clause_Clean, zqi_0, zqi_1, zqi_2, zqi_3, zqi_4, zqi_5, zqi_6, zqi_7, zqi_8, zqi_9, zqi_10, ints_length, List.length_append, false_implies, true_implies, true_and, and_true, not_true_eq_false, not_false_eq_true]
          exact .inl ⟨rfl, hbadE, rfl, rfl⟩
        · have hgood : chkAt q (i + 1) = chk none q := by rw [hch, if_neg (by omega), hpi]; simp [g1, g2, g5]
          have g5' : (p == neg n) = false := by simpa using g5
          refine W_round [(4, .sl 0 w 0 1 q.length none), (13, .sl 0 w 0 1 q.length none), (14, .int .i64 q.length), (15, .int .i64 i)] ⟨f4, f13, f14, f15, trivial⟩  14 ?_
          simp -implicitDefEqProofs (disch := omega) only [go_sem, need_of, ↓reduceIte, Nat.reduceEqDiff, Nat.zero_add, Nat.mul_one, decide_true, zqi_5, zqi_6, zqi_7, zqi_8, zqi_9, ints_length, List.length_append, true_implies, true_and, and_true, hlt, hD]
          iterate 24 (try (refine run_sem 2 ?_; simp -implicitDefEqProofs (disch := omega) only [go_sem, need_of, ↓reduceIte, Nat.reduceAdd, Nat.reduceEqDiff, Nat.zero_add, Nat.mul_one, decide_true, decide_false, gt_iff_lt, ints_length, List.length_append, true_implies, true_and, and_true, hneg, g1', g3, hi0, e4, hDp, hl1, g5']))
          try refine run_sem 9 ?_
          try simp -implicitDefEqProofs (disch := omega) only [go_sem, need_of, ↓reduceIte, reduceCtorEq, Nat.reduceAdd, Nat.reduceEqDiff, Nat.reduceLeDiff, Nat.reduceLT, Nat.reduceSub, Nat.reduceMul, Int.reduceToNat, Int.reduceLE, Int.reduceLT, Int.reduceEq, Int.reduceNe, Nat.succ_ne_zero, Nat.zero_add, Nat.add_zero, Nat.mul_one, Nat.one_mul, Nat.zero_mul, decide_true, decide_false, Bool.not_true, Bool.not_false, Nat.le_refl, Nat.zero_le, ge_iff_le, gt_iff_lt, Nat.reduceBEq, Nat.reduceBNe, beq_self_eq_true, bne_self_eq_false, Option.isSome_some, Option.isSome_none, Option.getD_some, Option.getD_none, clause_Clean, zqi_0, zqi_1, zqi_2, zqi_3, zqi_4, zqi_5, zqi_6, zqi_7, zqi_8, zqi_9, zqi_10, ints_length, List.length_append, false_implies, true_implies, true_and, and_true, not_true_eq_false, not_false_eq_true]
          refine ⟨q.length - (i + 1), _, _, by omega, Shift.refl _ _ _ _, i + 1, by omega, rfl, hgood, ?_⟩
          simp -implicitDefEqProofs (disch := omega) only [go_sem, ↓reduceIte, Nat.reduceEqDiff, and_true, e2]
  · have hi : i = q.length := by omega
    refine W_round [(4, .sl 0 w 0 1 q.length none), (13, .sl 0 w 0 1 q.length none), (14, .int .i64 q.length), (15, .int .i64 i)] ⟨f4, f13, f14, f15, trivial⟩  1000 ?_
    simp -implicitDefEqProofs (disch := omega) only [go_sem, ↓reduceIte, Nat.reduceEqDiff, decide_false, zqi_5, zqi_6, zqi_7, zqi_8, zqi_9, hi, Nat.lt_irrefl]
    rw [hi, chkAt_end] at hok
    exact .inr ⟨rfl, hok.symm, rfl, rfl⟩
theorem c_Clean (hT : TabOk Tryd.prog tab) (c : List Int) (hb : ∀ n ∈ c, -9223372036854775808 ≤ n ∧ n ≤ 9223372036854775807) (hl : c.length ≤ 1000000) : Pure Tryd.prog G n_clause_Clean [row c] fun u => u = .tup [row (cleanS c).1, .bool (cleanS c).2] := by
  intro t
  refine C_res (Q := fun u _ => nameless u = true ∧ ((u = .tup [.lst 0 [] true, .bool false] ∧ cleanS c = ([], false)) ∨ u = .tup [row (cleanS c).1, .bool (cleanS c).2]))
    (C_freezeO (Q := fun u σ => (u = .tup [.lst 0 [] true, .bool false] ∧ cleanS c = ([], false)) ∨ ∃ q w cells, cleanS c = (q, true) ∧ u = .tup [.sl 0 w 0 1 q.length none, .bool true] ∧ σ.o[0]? = some (some (.arr w 3 (ints q ++ cells))) ∧ namelessL cells = true) ?_ fun u σ hu => ?_) fun u σ hu => ?_
  · simp only [row]
    refine C_tab hT t_clause_Clean (by simp [clause_Clean]) (W_run 1000 ?_)
    simp -implicitDefEqProofs (disch := omega) only [go_sem, ↓reduceIte, reduceCtorEq, Nat.reduceEqDiff, clause_Clean, zqi_0, zqi_1, zqi_2, zqi_3, zqi_4, zqi_5, zqi_6, zqi_7, zqi_8, zqi_9, zqi_10]
    refine call hT t_slices_Clone_int_int (c_Clone hT c hl) 1000 fun u σ hu => ?_
    obtain ⟨t1, w, ht1, rfl, rfl⟩ := hu
    simp -implicitDefEqProofs (disch := omega) only [go_sem, ↓reduceIte, reduceCtorEq, Nat.reduceEqDiff]
    obtain ⟨s, hsl, hsp, hsm, hs⟩ := c_SortC (G := G) (base := 0) (k := 0) (v := w) (t := t1) (o := [some (.arr w 3 (ints c))]) (Nat.zero_le _) rfl hb hl
    refine call hT t_slices_SortFunc_int_int hs 1000 fun u σ hu => ?_
    obtain ⟨rfl, rfl⟩ := hu
    simp -implicitDefEqProofs (disch := omega) only [go_sem, ↓reduceIte, reduceCtorEq, Nat.reduceEqDiff, List.set_cons_zero]
    rw [← hsl]
    refine call hT t_slices_Compact_int_int (c_Compact (zs := s) (T := 3) (Nat.zero_le _) rfl (by omega)) 1000 fun u σ hu => ?_
    obtain ⟨rfl, cells, hcn, rfl⟩ := hu
    have hcl := cleanP hsp hsm
    have hq : ∀ n ∈ cmpct s, -9223372036854775808 ≤ n ∧ n ≤ 9223372036854775807 := fun n hn => hb n ((hsm n).1 (mem_cmpct.1 hn))
    have hle := cmpct_le s
    generalize cmpct s = q at hcl hq hle ⊢
    simp -implicitDefEqProofs (disch := omega) only [go_sem, ↓reduceIte, reduceCtorEq, Nat.reduceEqDiff, List.set_cons_zero]
    refine sem_invE (clJ c q w t1 cells) (clE c q w t1 cells) (m0 := q.length) ⟨0, by omega, rfl, rfl, ?_⟩ (fun m fr σ hJ => clean_round hT hq (by omega) hJ) (fun e fr σ hE => ?_)
    · simp -implicitDefEqProofs (disch := omega) only [go_sem, ↓reduceIte, reduceCtorEq, Nat.reduceEqDiff]
      simp
    · rcases hE with ⟨rfl, hbd, f2, f3⟩ | ⟨rfl, hgd, f4, rfl⟩
      · rw [hbd, if_pos rfl] at hcl
        refine run_sem 1000 ?_
        simp -implicitDefEqProofs (disch := omega) only [go_sem, f2, f3]
        exact .inl hcl.symm
      · rw [hgd, if_neg (by simp)] at hcl
        refine run_sem 1000 ?_
        simp -implicitDefEqProofs (disch := omega) only [go_sem, ↓reduceIte, Nat.reduceEqDiff, f4]
        exact .inr ⟨q, w, cells, hcl.symm, rfl, rfl, hcn⟩
  · rcases hu with ⟨rfl, hu⟩ | ⟨q, w, cells, hcl, rfl, ho, hn⟩
    · exact .inl ⟨rfl, .inl ⟨rfl, hu⟩⟩
    · refine .inr ⟨0, w, 3, ints q ++ cells, Nat.zero_le _, ho, namelessL_append (ints_nameless q) hn, ?_, .inr ?_⟩
      · simp [frzV, frzL, nameless, namelessL, ints_length]
      · rw [hcl]
        simp [frzV, frzL, rowsV, ints_length, row]
  · rcases hu with ⟨hn, ⟨rfl, hu⟩ | rfl⟩
    · exact ⟨.tup [row [], .bool false], .tup _ _ (.cons _ _ _ _ (.lst _ _ _ _ _ .nil (.inl rfl)) (.cons _ _ _ _ (.refl _) .nil)), rfl, by rw [hu]⟩
    · exact ⟨_, .refl _, hn, rfl⟩
end Go.Proofs.YtingdebioipemaaDoor
/- A row of ours that the library has grown out of nothing. -/
namespace Go.Proofs.YtingdebioipemaaDoor
open Go Go.Am Go.Cl
set_option maxRecDepth 100000
variable {P : Program} {G : Nat → Option V}
theorem C_grow {f base t n T : Nat} {o : List (Option Ob)}
    (hs : ∀ (a : Option Addr) (w : World), Calls P f #[.slice a 0 0, .int .i64 n] w fun e w' => ∃ (cells : Array Value) (d : Nat), e = .returned (.slice (some ⟨w.heap.size, 0, none⟩) 0 cells.size) ∧ w' = { w with heap := w.heap.push (.cells cells T (0, 0)), drawn := d }) :
    C P G base f [.lst 0 [] true, .int .i64 n] ⟨t, o⟩ fun r σ' => r = .sl o.length t 0 1 0 none ∧ σ' = ⟨t + 1, o ++ [some (.arr t T [])]⟩ := by
  intro I ρ w xs hR hb hc
  have hx1 : xs.size = 2 := hc.1.symm
  obtain ⟨x, y, rfl⟩ : ∃ x y, xs = #[x, y] := ⟨xs[0], xs[1], by
    apply Array.ext
    · simp [hx1]
    · intro j h1 h2
      have : j = 0 ∨ j = 1 := by omega
      rcases this with rfl | rfl <;> rfl⟩
  have hv := hc.2 0 _ x rfl rfl
  have hy : y = .int .i64 n := by
    have := hc.2 1 _ y rfl rfl
    cases this; rfl
  subst hy
  have hsome : ∃ a, x = .slice a 0 0 := by
    generalize hu : V.lst 0 [] true = u at hv
    cases hv with
    | lst _ _ l _ _ _ _ _ h0 => injection hu with _ h _; exact absurd h.symm h0
    | lstN _ _ _ a cap h => injection hu with _ _ h'; exact ⟨a, by rw [h h'.symm]⟩
    | _ => cases hu
  obtain ⟨a, rfl⟩ := hsome
  refine (hs a w).mono fun e w' ⟨cells, d, h1, h2⟩ => ?_
  obtain ⟨hR', hS⟩ := hR.new (base := base) hb (T := T) (cs := []) (c := cells) (d := d) (fun j v h => by simp at h) (Nat.zero_le _) cells.size (Nat.zero_le _) (Nat.le_refl _) (0, 0) (fun j _ h => by omega)
  refine ⟨_, _, I, _, _, h1, ?_, h2 ▸ hR', h2 ▸ hS, by have hb' : base ≤ o.length := hb; simp []; omega, rfl, rfl⟩
  exact VR.sl _ o.length t 0 1 0 none w.heap.size 0 cells.size cells.size (Names.add_self _ _ _ _) (Nat.zero_le _) (fun m h => by cases h) (fun _ => by omega)
end Go.Proofs.YtingdebioipemaaDoor
