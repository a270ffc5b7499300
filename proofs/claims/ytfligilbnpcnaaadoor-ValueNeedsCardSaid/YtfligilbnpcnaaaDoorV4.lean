/- What terms need: the document's. -/
import Derived.Test.YtfligilbnpcnaaaDoorV3
namespace Go.Proofs.YtfligilbnpcnaaaDoor
open Go Go.Am
set_option maxRecDepth 100000
set_option maxHeartbeats 1000000
variable {P : Program} {G : Nat → Option V}

theorem mH_4 {w0 w1 : Nat} {L : List Nd} {x y z : Option Ob} {ex : List (Option Ob)} : (mH w0 w1 L ++ x :: y :: z :: ex)[4]? = some z := rfl
theorem mHs_4 {w0 w1 : Nat} {L : List Nd} {x y z u : Option Ob} {ex : List (Option Ob)} : (mH w0 w1 L ++ x :: y :: z :: ex).set 4 u = mH w0 w1 L ++ x :: y :: u :: ex := rfl
abbrev rnJ (t0 w0 w1 : Nat) (L : List Nd) (U : List Int) : Nat → Fr → H → Prop := fun i fr σ => ∃ t ws wc ss cs, t0 ≤ t ∧ Asc ss ∧ ss.Perm (rawS L (U.take i)) ∧ cs = cellS L (U.take i) ∧ fget fr 0 = .ptr 0 w0 0 ∧ fget fr 6 = .sl 2 ws 0 1 ss.length none ∧ fget fr 7 = .sl 3 wc 0 1 cs.length none ∧ fget fr 8 = .lst 1 (nints U) false ∧ fget fr 9 = .int .i64 ((i : Nat) : Int) ∧ σ = ⟨t, rH w0 w1 ws wc L ss cs⟩
abbrev rnE (t0 w0 w1 : Nat) (L : List Nd) (U : List Int) : AE → Fr → H → Prop := fun e fr σ => e = .ex 0 ∧ ∃ t ws wc, t0 ≤ t ∧ fget fr 6 = .sl 2 ws 0 1 (symS L U).length none ∧ fget fr 7 = .sl 3 wc 0 1 (cellS L U).length none ∧ σ = ⟨t, rH w0 w1 ws wc L (symS L U) (cellS L U)⟩
theorem rn_round {t0 w0 w1 : Nat} {L : List Nd} {U : List Int} (hL : L.length ≤ 1000) (hU : ∀ x ∈ U, 0 ≤ x ∧ x < L.length) (hUl : U.length ≤ 1000) {i : Nat} {x : Int} (hx : U[i]? = some x) {fr : Fr} {σ : H} (hJ : rnJ t0 w0 w1 L U i fr σ) :
    W P G 85 2 (AC.seq (AC.seq (AC.reg proofmarkref03_Needs_r5 [15, 16, 17])   (AC.cond (Arg.t 18)   AC.skip   (AC.exit 0)))   (AC.seq (AC.block 1 (AC.seq (AC.reg proofmarkref03_Needs_r6 [21, 22, 23, 24, 25, 26, 27, 28, 29, 30])   (AC.seq (AC.seq (AC.reg proofmarkref03_Needs_r7 [31, 32])   (AC.cond (Arg.t 33)   (AC.reg proofmarkref03_Needs_r8 [34, 35, 36, 37, 38, 39, 40])   AC.skip))   (AC.seq (AC.reg proofmarkref03_Needs_r9 [41, 42])   (AC.cond (Arg.t 43)   (AC.seq (AC.reg proofmarkref03_Needs_r10 [44, 45])   (AC.seq (AC.reg proofmarkref03_Needs_r11 [46, 47, 48, 49, 50])   (AC.block 2 (AC.loop (AC.seq (AC.seq (AC.reg proofmarkref03_Needs_r12 [51, 52, 53, 54, 55, 56, 57, 58, 59, 60, 61, 62, 63])   (AC.cond (Arg.t 64)   AC.skip   (AC.exit 2)))   (AC.block 3 (AC.seq (AC.reg proofmarkref03_Needs_r13 [65, 66, 67, 68, 69, 70, 71, 72, 73, 74, 75, 76, 77, 78, 79, 80])   (AC.reg proofmarkref03_Needs_r14 [81, 82]))))))))   AC.skip)))))   (AC.reg proofmarkref03_Needs_r15 [19, 20]))) fr σ (seqQ (fun fr σ => ∃ fr' σ', Shift G 85 2 fr σ fr' σ' ∧ rnJ t0 w0 w1 L U (i + 1) fr' σ') (rnE t0 w0 w1 L U)) := by
  obtain ⟨t, ws, wc, ss, cs, ht, hsa, hsp, hcs, f0, f6, f7, f8, f9, rfl⟩ := hJ
  have hlt := (List.getElem?_eq_some_iff.1 hx).1
  have hD : (nints U).getD i V.any = .int .i64 x := by simp [nints, List.getD_eq_getElem?_getD, hx]
  have e2 := w_nx hlt (by omega)
  obtain ⟨h0, h1⟩ := hU x (List.mem_of_getElem? hx)
  have hts := take_snoc2 hx
  have s1 : rawS L (U.take (i + 1)) = rawS L (U.take i) ++ (if (nd L x).kind = 2 then [(nd L x).n] else []) := by rw [hts, rawS_snoc]
  have s2 : cellS L (U.take (i + 1)) = cs ++ (if (nd L x).kind = 3 then [x] else []) := by rw [hts, cellS_snoc, hcs]
  have hsl : ss.length ≤ 1000 := by have := rawS_len L (U.take i); rw [hsp.length_eq]; rw [List.length_take] at this; omega
  have hcl : cs.length ≤ 1000 := by have := cellS_len L (U.take i); rw [hcs]; rw [List.length_take] at this; omega
  have hd : L[x.toNat]? = some (nd L x) := by
    unfold nd
    rw [List.getD_eq_getElem?_getD, List.getElem?_eq_getElem (by omega)]; rfl
  have hc := ndC_get hd
  have hlen : x.toNat < L.length := by omega
  have hl := ndC_length L
  have h6 : x.toNat * 6 + 6 ≤ (ndC L).length := by omega
  have hap : ∀ (l : List Int) (y : Int), nints l ++ [V.int .i64 y] = nints (l ++ [y]) := fun l y => by simp [nints]
  generalize nd L x = d at *
  simp only [Nd.cells] at hc
  by_cases k2 : d.kind = 2
  · have k3 : ¬ d.kind = 3 := by omega
    rw [if_pos k2] at s1
    rw [if_neg k3, List.append_nil] at s2
    have k2'' : (d.kind = 2) = True := eq_true k2
    have k3'' : (d.kind = 3) = False := eq_false k3
    refine W_round [(0, .ptr 0 w0 0), (6, .sl 2 ws 0 1 ss.length none), (7, .sl 3 wc 0 1 cs.length none), (8, .lst 1 (nints U) false), (9, .int .i64 ((i : Nat) : Int))] ⟨f0, f6, f7, f8, f9, trivial⟩  1000 ?_
    simp -implicitDefEqProofs (disch := omega) only [go_sem, need_of, ↓reduceIte, reduceCtorEq, Nat.reduceAdd, Nat.reduceEqDiff, Nat.reduceLeDiff, Nat.zero_add, Nat.add_zero, Nat.mul_one, decide_true, Bool.not_true, Bool.not_false, Nat.le_refl, proofmarkref03_Needs_r5, proofmarkref03_Needs_r6, proofmarkref03_Needs_r7, proofmarkref03_Needs_r8, proofmarkref03_Needs_r9, proofmarkref03_Needs_r10, proofmarkref03_Needs_r11, proofmarkref03_Needs_r12, proofmarkref03_Needs_r13, proofmarkref03_Needs_r14, proofmarkref03_Needs_r15, mH0_len, mH_app, mH_0, mH_1, mH_2, mHs_2, mH_3, mHs_3, mH_4, mHs_4, nints_length, List.length_append, List.length_cons, List.length_nil, false_implies, true_implies, true_and, and_true, not_true_eq_false, not_false_eq_true, List.cons_append, List.nil_append, rH, hlt, hD, h0, hlen, hc, h6, k2'', k3'', hap]
    refine sem_shift (Shift.drop (o' := rH w0 w1 (t + 1) wc L (ss ++ [d.n]) cs) (t' := t + 1 + 1) (by simp [subObs, rH, mH]) (Nat.le_refl _) (by simp [rH, mH])) ?_
    refine sem_invE (inJ (t + 1 + 1) w0 w1 (t + 1) wc cs.length i (ss.length + 1) L U cs d.n ss) (inE (t + 1 + 1) w0 w1 (t + 1) wc cs.length i (ss.length + 1) L U cs d.n ss) (m0 := ss.length) ⟨ss, [], rfl, by simp, by simp, rfl, rfl, rfl, rfl, rfl, rfl, rfl⟩ (fun m fr σ hJ => in_round hsa rfl (by omega) hJ) (fun e fr σ hE => ?_)
    obtain ⟨rfl, Q, S, hQS, hasc, f0, f7, f8, f9, f6, rfl⟩ := hE
    have hperm : (Q ++ d.n :: S).Perm (rawS L (U.take i) ++ [d.n]) := by
      refine (List.perm_middle).trans ?_
      rw [hQS]
      exact (List.perm_append_comm (l₁ := [d.n]) (l₂ := ss)).trans (hsp.append_right _)
    have hln : (Q ++ d.n :: S).length = ss.length + 1 := by rw [← hQS]; simp; omega
    refine sem_exit2 [(0, .ptr 0 w0 0), (6, .sl 2 (t + 1) 0 1 (ss.length + 1) none), (7, .sl 3 wc 0 1 cs.length none), (8, .lst 1 (nints U) false), (9, .int .i64 ((i : Nat) : Int))] ⟨f0, f6, f7, f8, f9, trivial⟩ 1000 ?_
    simp -implicitDefEqProofs (disch := omega) only [go_sem, ↓reduceIte, reduceCtorEq, Nat.reduceEqDiff]
    refine ⟨_, _, Shift.refl _ _ _ _, t + 1 + 1, t + 1, wc, Q ++ d.n :: S, cs, by omega, hasc, s1 ▸ hperm, s2.symm, ?_⟩
    rw [hln]
    simp -implicitDefEqProofs (disch := omega) only [go_sem, ↓reduceIte, reduceCtorEq, Nat.reduceEqDiff, and_true, e2]
    try simp
  by_cases k3 : d.kind = 3
  · rw [if_neg k2, List.append_nil] at s1
    rw [if_pos k3] at s2
    have k2'' : (d.kind = 2) = False := eq_false k2
    have k3'' : (d.kind = 3) = True := eq_true k3
    refine W_round [(0, .ptr 0 w0 0), (6, .sl 2 ws 0 1 ss.length none), (7, .sl 3 wc 0 1 cs.length none), (8, .lst 1 (nints U) false), (9, .int .i64 ((i : Nat) : Int))] ⟨f0, f6, f7, f8, f9, trivial⟩  1000 ?_
    simp -implicitDefEqProofs (disch := omega) only [go_sem, need_of, ↓reduceIte, reduceCtorEq, Nat.reduceAdd, Nat.reduceEqDiff, Nat.reduceLeDiff, Nat.zero_add, Nat.add_zero, Nat.mul_one, decide_true, Bool.not_true, Bool.not_false, Nat.le_refl, proofmarkref03_Needs_r5, proofmarkref03_Needs_r6, proofmarkref03_Needs_r7, proofmarkref03_Needs_r8, proofmarkref03_Needs_r9, proofmarkref03_Needs_r10, proofmarkref03_Needs_r11, proofmarkref03_Needs_r12, proofmarkref03_Needs_r13, proofmarkref03_Needs_r14, proofmarkref03_Needs_r15, mH0_len, mH_app, mH_0, mH_1, mH_2, mHs_2, mH_3, mHs_3, mH_4, mHs_4, nints_length, List.length_append, List.length_cons, List.length_nil, false_implies, true_implies, true_and, and_true, not_true_eq_false, not_false_eq_true, List.cons_append, List.nil_append, rH, hlt, hD, h0, hlen, hc, h6, k2'', k3'', hap]
    refine ⟨_, _, Shift.drop (o' := rH w0 w1 ws (t + 1) L ss (cs ++ [x])) (t' := t + 1 + 1) (by simp [subObs, rH, mH]) (Nat.le_refl _) (by simp [rH, mH]), t + 1 + 1, ws, t + 1, ss, cs ++ [x], by omega, hsa, s1 ▸ hsp, s2.symm, ?_⟩
    simp -implicitDefEqProofs (disch := omega) only [go_sem, ↓reduceIte, reduceCtorEq, Nat.reduceEqDiff, Nat.zero_add, List.length_append, List.length_cons, List.length_nil, and_true, rH, e2]
    try simp
  · rw [if_neg k2, List.append_nil] at s1
    rw [if_neg k3, List.append_nil] at s2
    have k2'' : (d.kind = 2) = False := eq_false k2
    have k3'' : (d.kind = 3) = False := eq_false k3
    refine W_round [(0, .ptr 0 w0 0), (6, .sl 2 ws 0 1 ss.length none), (7, .sl 3 wc 0 1 cs.length none), (8, .lst 1 (nints U) false), (9, .int .i64 ((i : Nat) : Int))] ⟨f0, f6, f7, f8, f9, trivial⟩  1000 ?_
    simp -implicitDefEqProofs (disch := omega) only [go_sem, need_of, ↓reduceIte, reduceCtorEq, Nat.reduceAdd, Nat.reduceEqDiff, Nat.reduceLeDiff, Nat.zero_add, Nat.add_zero, Nat.mul_one, decide_true, Bool.not_true, Bool.not_false, Nat.le_refl, proofmarkref03_Needs_r5, proofmarkref03_Needs_r6, proofmarkref03_Needs_r7, proofmarkref03_Needs_r8, proofmarkref03_Needs_r9, proofmarkref03_Needs_r10, proofmarkref03_Needs_r11, proofmarkref03_Needs_r12, proofmarkref03_Needs_r13, proofmarkref03_Needs_r14, proofmarkref03_Needs_r15, mH0_len, mH_app, mH_0, mH_1, mH_2, mHs_2, mH_3, mHs_3, mH_4, mHs_4, nints_length, List.length_append, List.length_cons, List.length_nil, false_implies, true_implies, true_and, and_true, not_false_eq_true, List.cons_append, List.nil_append, rH, hlt, hD, h0, hlen, hc, h6, k2'', k3'', hap]
    refine ⟨_, _, Shift.drop (o' := rH w0 w1 ws wc L ss cs) (t' := t + 1) (by simp [subObs, rH, mH]) (Nat.le_refl _) (by simp [rH, mH]), t + 1, ws, wc, ss, cs, by omega, hsa, s1 ▸ hsp, s2.symm, ?_⟩
    simp -implicitDefEqProofs (disch := omega) only [go_sem, ↓reduceIte, reduceCtorEq, Nat.reduceEqDiff, and_true, rH, e2]
    try simp
end Go.Proofs.YtfligilbnpcnaaaDoor
