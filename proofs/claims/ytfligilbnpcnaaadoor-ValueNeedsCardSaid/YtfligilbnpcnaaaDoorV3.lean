/- What terms need: the document's. -/
import Derived.Test.YtfligilbnpcnaaaDoorV2
namespace Go.Proofs.YtfligilbnpcnaaaDoor
open Go Go.Am
set_option maxRecDepth 100000
set_option maxHeartbeats 1000000
variable {P : Program} {G : Nat → Option V}

abbrev Asc (l : List Int) : Prop := l.Pairwise fun a b => a ≤ b
theorem asc_put {Q S : List Int} {n : Int} (h : Asc (Q ++ S)) (hS : ∀ s ∈ S, n < s) (hQ : ∀ p, Q.getLast? = some p → p ≤ n) : Asc (Q ++ n :: S) := by
  simp only [Asc, List.pairwise_append, List.pairwise_cons] at h ⊢
  refine ⟨h.1, ⟨fun s hs => by have := hS s hs; omega, h.2.1⟩, fun a ha b hb => ?_⟩
  rcases List.mem_cons.1 hb with rfl | hb
  · cases hl : Q.getLast? with
    | none => rw [List.getLast?_eq_none_iff] at hl; subst hl; cases ha
    | some p =>
      have h1 := hQ p hl
      obtain ⟨R, rfl⟩ := List.getLast?_eq_some_iff.1 hl
      rcases List.mem_append.1 ha with ha | ha
      · have := (List.pairwise_append.1 h.1).2.2 a ha p (by simp); omega
      · simp at ha; subst ha; exact h1
  · exact h.2.2 a ha b hb
theorem asc_eq : ∀ {l m : List Int}, Asc l → Asc m → l.Perm m → l = m
  | [], m, _, _, h => (List.nil_perm.1 h).symm
  | a :: l, [], _, _, h => by simp at h
  | a :: l, b :: m, hl, hm, h => by
    have ha : a ∈ b :: m := h.subset (by simp)
    have hb : b ∈ a :: l := h.symm.subset (by simp)
    simp only [Asc, List.pairwise_cons] at hl hm
    have e : a = b := by
      rcases List.mem_cons.1 ha with e | ha
      · exact e
      · rcases List.mem_cons.1 hb with e | hb
        · exact e.symm
        · have := hm.1 a ha; have := hl.1 b hb; omega
    subst e
    rw [asc_eq hl.2 hm.2 (List.Perm.cons_inv h)]
theorem symS_eq {L : List Nd} {U ss : List Int} (h : Asc ss) (hp : ss.Perm (rawS L U)) : ss = symS L U := by
  refine asc_eq h ?_ (hp.trans (List.mergeSort_perm _ _).symm)
  have := List.pairwise_mergeSort (le := fun x y : Int => decide (x ≤ y)) (by intro a b c; simp; omega) (by intro a b; simp; omega) (rawS L U)
  exact this.imp fun h => by simpa using h
theorem nput {Q S : List Int} {p n : Int} : (nints (Q ++ n :: S)).take Q.length ++ [V.int .i64 p] ++ (nints (Q ++ n :: S)).drop (Q.length + 1) = nints (Q ++ p :: S) := by
  simp [nints, List.drop_append]
theorem nput2 {Q S : List Int} {p n q : Int} : (nints (Q ++ q :: n :: S)).take (Q.length + 1) ++ [V.int .i64 p] ++ (nints (Q ++ q :: n :: S)).drop (Q.length + 1 + 1) = nints (Q ++ q :: p :: S) := by
  have := nput (Q := Q ++ [q]) (S := S) (p := p) (n := n)
  simpa using this
theorem nget {Q S : List Int} {n : Int} : (nints (Q ++ n :: S)).getD Q.length .any = .int .i64 n := by simp [nints, List.getD_eq_getElem?_getD]
theorem nget2 {Q S : List Int} {p n : Int} : (nints (Q ++ p :: n :: S)).getD (Q.length + 1) .any = .int .i64 n := by simp [nints, List.getD_eq_getElem?_getD]

def rH (w0 w1 ws wc : Nat) (L : List Nd) (ss cs : List Int) : List (Option Ob) := mH w0 w1 L ++ [some (.arr ws 2 (nints ss)), some (.arr wc 3 (nints cs))]
abbrev inJ (t w0 w1 ws wc cl i z : Nat) (L : List Nd) (U cs : List Int) (n : Int) (l : List Int) : Nat → Fr → H → Prop := fun m fr σ => ∃ Q S, m = Q.length ∧ Q ++ S = l ∧ (∀ s ∈ S, n < s) ∧ fget fr 0 = .ptr 0 w0 0 ∧ fget fr 7 = .sl 3 wc 0 1 cl none ∧ fget fr 8 = .lst 1 (nints U) false ∧ fget fr 9 = .int .i64 ((i : Nat) : Int) ∧ fget fr 6 = .sl 2 ws 0 1 z none ∧ fget fr 11 = .int .i64 ((m : Nat) : Int) ∧ σ = ⟨t, rH w0 w1 ws wc L (Q ++ n :: S) cs⟩
abbrev inE (t w0 w1 ws wc cl i z : Nat) (L : List Nd) (U cs : List Int) (n : Int) (l : List Int) : AE → Fr → H → Prop := fun e fr σ => e = .ex 2 ∧ ∃ Q S, Q ++ S = l ∧ Asc (Q ++ n :: S) ∧ fget fr 0 = .ptr 0 w0 0 ∧ fget fr 7 = .sl 3 wc 0 1 cl none ∧ fget fr 8 = .lst 1 (nints U) false ∧ fget fr 9 = .int .i64 ((i : Nat) : Int) ∧ fget fr 6 = .sl 2 ws 0 1 z none ∧ σ = ⟨t, rH w0 w1 ws wc L (Q ++ n :: S) cs⟩
theorem w_pred {q : Nat} (h : q ≤ 1000000) : IntKind.i64.wrap (((q + 1 : Nat) : Int) - 1) = ((q : Nat) : Int) := by rw [wrap_i64 (by omega) (by omega)]; omega
theorem in_round {t w0 w1 ws wc cl i z : Nat} {L : List Nd} {U cs : List Int} {n : Int} {l : List Int} (hl : Asc l) (hz : l.length + 1 = z) (hlen : z ≤ 1000000) {m : Nat} {fr : Fr} {σ : H} (hJ : inJ t w0 w1 ws wc cl i z L U cs n l m fr σ) :
    W P G 85 2 (AC.seq (AC.seq (AC.reg proofmarkref03_Needs_r12 [51, 52, 53, 54, 55, 56, 57, 58, 59, 60, 61, 62, 63])   (AC.cond (Arg.t 64)   AC.skip   (AC.exit 2)))   (AC.block 3 (AC.seq (AC.reg proofmarkref03_Needs_r13 [65, 66, 67, 68, 69, 70, 71, 72, 73, 74, 75, 76, 77, 78, 79, 80])   (AC.reg proofmarkref03_Needs_r14 [81, 82])))) fr σ (seqQ (fun fr σ => ∃ m' fr' σ', m' < m ∧ Shift G 85 2 fr σ fr' σ' ∧ inJ t w0 w1 ws wc cl i z L U cs n l m' fr' σ') (inE t w0 w1 ws wc cl i z L U cs n l)) := by
  obtain ⟨Q, S, hq, hQS, hS, f0, f7, f8, f9, f6, f11, rfl⟩ := hJ
  rcases List.eq_nil_or_concat Q with rfl | ⟨Q, p, rfl⟩
  · rw [List.length_nil] at hq
    subst hq
    refine W_round [(0, .ptr 0 w0 0), (7, .sl 3 wc 0 1 cl none), (8, .lst 1 (nints U) false), (9, .int .i64 ((i : Nat) : Int)), (6, .sl 2 ws 0 1 z none), (11, .int .i64 0)] ⟨f0, f7, f8, f9, f6, f11, trivial⟩  14 ?_
    simp -implicitDefEqProofs (disch := omega) only [go_sem, ↓reduceIte, reduceCtorEq, Nat.reduceEqDiff, decide_false, gt_iff_lt, proofmarkref03_Needs_r12, proofmarkref03_Needs_r13, proofmarkref03_Needs_r14, List.nil_append, rH, Int.lt_irrefl]
    iterate 9 (try (refine run_sem 2 ?_; simp -implicitDefEqProofs (disch := omega) only [go_sem, ↓reduceIte, reduceCtorEq, Nat.reduceEqDiff]))
    iterate 4 (try (refine run_sem 4 ?_; simp -implicitDefEqProofs (disch := omega) only [go_sem, need_of, ↓reduceIte, reduceCtorEq, Nat.reduceAdd, Nat.reduceEqDiff, Nat.reduceLeDiff, Nat.reduceLT, Nat.reduceSub, Nat.reduceMul, Int.reduceToNat, Int.reduceLE, Int.reduceLT, Int.reduceEq, Int.reduceNe, Nat.succ_ne_zero, Nat.zero_add, Nat.add_zero, Nat.mul_one, Nat.one_mul, Nat.zero_mul, decide_true, decide_false, Bool.not_true, Bool.not_false, Nat.le_refl, Nat.zero_le, ge_iff_le, gt_iff_lt, Nat.reduceBEq, Nat.reduceBNe, beq_self_eq_true, bne_self_eq_false, Option.isSome_some, Option.isSome_none, Option.getD_some, Option.getD_none, proofmarkref03_Needs, proofmarkref03_Needs_r0, proofmarkref03_Needs_r1, proofmarkref03_Needs_r2, proofmarkref03_Needs_r3, proofmarkref03_Needs_r4, proofmarkref03_Needs_r5, proofmarkref03_Needs_r6, proofmarkref03_Needs_r7, proofmarkref03_Needs_r8, proofmarkref03_Needs_r9, proofmarkref03_Needs_r10, proofmarkref03_Needs_r11, proofmarkref03_Needs_r12, proofmarkref03_Needs_r13, proofmarkref03_Needs_r14, proofmarkref03_Needs_r15, proofmarkref03_Needs_r16, mH_len, mH0_len, mH_take, mH0_take, mH_app, mH0_0, mH0_1, mH_0, mH_1, mH_2, mHs_2, mH_3, mHs_3, nints_length, List.length_append, List.length_cons, List.length_nil, false_implies, true_implies, true_and, and_true, not_true_eq_false, not_false_eq_true, List.cons_append, List.nil_append]))
    exact ⟨rfl, [], S, hQS, asc_put (Q := []) (hQS ▸ hl) hS (by simp), rfl, rfl, rfl, rfl, rfl, rfl⟩
  · rw [List.concat_eq_append] at *
    rw [List.length_append, List.length_singleton] at hq
    rw [List.append_assoc] at hQS
    have hQz : Q.length + S.length + 1 + 1 = z := by rw [← hz, ← hQS]; simp; omega
    subst hq
    have w1' := w_pred (q := Q.length) (by omega)
    have w2 : (0 : Int) < ((Q.length + 1 : Nat) : Int) := by omega
    have w2' : decide ((0 : Int) < ((Q.length + 1 : Nat) : Int)) = true := decide_eq_true w2
    have g1 := nget (Q := Q) (S := n :: S) (n := p)
    have g2 := nget2 (Q := Q) (S := S) (p := p) (n := n)
    have g3 := nput2 (Q := Q) (S := S) (p := p) (n := n) (q := p)
    have g4 := nput (Q := Q) (S := p :: S) (p := n) (n := p)
    have e1 : Q ++ [p] ++ n :: S = Q ++ p :: n :: S := by simp
    by_cases hlt : n < p
    · have hlt' : decide (n < p) = true := decide_eq_true hlt
      rw [e1]
      refine W_round [(0, .ptr 0 w0 0), (7, .sl 3 wc 0 1 cl none), (8, .lst 1 (nints U) false), (9, .int .i64 ((i : Nat) : Int)), (6, .sl 2 ws 0 1 z none), (11, .int .i64 ((Q.length + 1 : Nat) : Int))] ⟨f0, f7, f8, f9, f6, f11, trivial⟩  14 ?_
      simp -implicitDefEqProofs (disch := omega) only [go_sem, need_of, ↓reduceIte, reduceCtorEq, Nat.reduceAdd, Nat.reduceEqDiff, Nat.zero_add, Nat.mul_one, decide_true, gt_iff_lt, proofmarkref03_Needs_r12, proofmarkref03_Needs_r13, proofmarkref03_Needs_r14, mH_2, nints_length, List.length_append, List.length_cons, true_implies, true_and, and_true, rH, w1', w2, g2]
      iterate 9 (try (refine run_sem 2 ?_; simp -implicitDefEqProofs (disch := omega) only [go_sem, need_of, ↓reduceIte, reduceCtorEq, Nat.reduceAdd, Nat.reduceEqDiff, Nat.zero_add, Nat.mul_one, decide_true, mH_2, nints_length, List.length_append, List.length_cons, true_implies, true_and, and_true, w1', g1, hlt]))
      iterate 9 (try (refine run_sem 4 ?_; simp -implicitDefEqProofs (disch := omega) only [go_sem, need_of, ↓reduceIte, reduceCtorEq, Nat.reduceEqDiff, Nat.zero_add, Nat.mul_one, Bool.not_false, Nat.le_refl, mH_2, mHs_2, nints_length, List.length_append, List.length_cons, List.length_nil, true_implies, true_and, and_true, w1', g1, g2, g3, g4]))
      refine ⟨Q.length, _, _, by omega, Shift.refl _ _ _ _, Q, p :: S, rfl, by rw [← hQS]; simp, fun s hs => ?_, ?_⟩
      · rcases List.mem_cons.1 hs with rfl | hs
        · exact hlt
        · exact hS s hs
      · simp -implicitDefEqProofs (disch := omega) only [go_sem, ↓reduceIte, reduceCtorEq, Nat.reduceEqDiff, and_true, rH]
    · have hlt' : decide (n < p) = false := decide_eq_false hlt
      rw [e1]
      have hsr : Asc (Q ++ [p] ++ n :: S) := asc_put (Q := Q ++ [p]) (S := S) (n := n) (by rw [← hQS] at hl; simpa using hl) hS (fun q hq => by
        simp at hq; subst hq; omega)
      refine W_round [(0, .ptr 0 w0 0), (7, .sl 3 wc 0 1 cl none), (8, .lst 1 (nints U) false), (9, .int .i64 ((i : Nat) : Int)), (6, .sl 2 ws 0 1 z none), (11, .int .i64 ((Q.length + 1 : Nat) : Int))] ⟨f0, f7, f8, f9, f6, f11, trivial⟩  14 ?_
      simp -implicitDefEqProofs (disch := omega) only [go_sem, need_of, ↓reduceIte, reduceCtorEq, Nat.reduceAdd, Nat.reduceEqDiff, Nat.zero_add, Nat.mul_one, decide_true, gt_iff_lt, proofmarkref03_Needs_r12, proofmarkref03_Needs_r13, proofmarkref03_Needs_r14, mH_2, nints_length, List.length_append, List.length_cons, true_implies, true_and, and_true, rH, w1', w2, g2]
      iterate 9 (try (refine run_sem 2 ?_; simp -implicitDefEqProofs (disch := omega) only [go_sem, need_of, ↓reduceIte, reduceCtorEq, Nat.reduceAdd, Nat.reduceEqDiff, Nat.zero_add, decide_false, mH_2, nints_length, List.length_append, List.length_cons, true_implies, true_and, and_true, g1, hlt]))
      iterate 9 (try (refine run_sem 4 ?_; simp -implicitDefEqProofs (disch := omega) only [go_sem, need_of, ↓reduceIte, reduceCtorEq, Nat.reduceAdd, Nat.reduceEqDiff, Nat.reduceLeDiff, Nat.reduceLT, Nat.reduceSub, Nat.reduceMul, Int.reduceToNat, Int.reduceLE, Int.reduceLT, Int.reduceEq, Int.reduceNe, Nat.succ_ne_zero, Nat.zero_add, Nat.add_zero, Nat.mul_one, Nat.one_mul, Nat.zero_mul, decide_true, decide_false, Bool.not_true, Bool.not_false, Nat.le_refl, Nat.zero_le, ge_iff_le, gt_iff_lt, Nat.reduceBEq, Nat.reduceBNe, beq_self_eq_true, bne_self_eq_false, Option.isSome_some, Option.isSome_none, Option.getD_some, Option.getD_none, proofmarkref03_Needs, proofmarkref03_Needs_r0, proofmarkref03_Needs_r1, proofmarkref03_Needs_r2, proofmarkref03_Needs_r3, proofmarkref03_Needs_r4, proofmarkref03_Needs_r5, proofmarkref03_Needs_r6, proofmarkref03_Needs_r7, proofmarkref03_Needs_r8, proofmarkref03_Needs_r9, proofmarkref03_Needs_r10, proofmarkref03_Needs_r11, proofmarkref03_Needs_r12, proofmarkref03_Needs_r13, proofmarkref03_Needs_r14, proofmarkref03_Needs_r15, proofmarkref03_Needs_r16, mH_len, mH0_len, mH_take, mH0_take, mH_app, mH0_0, mH0_1, mH_0, mH_1, mH_2, mHs_2, mH_3, mHs_3, nints_length, List.length_append, List.length_cons, List.length_nil, false_implies, true_implies, true_and, and_true, not_true_eq_false, not_false_eq_true, List.cons_append, List.nil_append, w1', g1, g2, g3]))
      exact ⟨rfl, Q ++ [p], S, by rw [← hQS]; simp, hsr, rfl, rfl, rfl, rfl, rfl, by rw [e1]; rfl⟩
end Go.Proofs.YtfligilbnpcnaaaDoor
