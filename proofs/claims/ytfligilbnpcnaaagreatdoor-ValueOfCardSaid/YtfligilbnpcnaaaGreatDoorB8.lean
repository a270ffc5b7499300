/- The values of all terms, by the document. -/
import Derived.Test.YtfligilbnpcnaaaGreatDoorB7
namespace Go.Proofs.YtfligilbnpcnaaaGreatDoor
open Go Go.Am
set_option maxRecDepth 100000
set_option maxHeartbeats 1000000
variable {P : Program} {G : Nat → Option V}

abbrev raJ (t0 w0 w1 ve : Nat) (L : List Nd) (S : List Int) (tS : Bool) (C' : List Cl) (tC : Bool) : Nat → Fr → H → Prop := fun i fr σ => ∃ t' r, t0 ≤ t' ∧ fget fr 0 = .ptr 0 w0 0 ∧ fget fr 3 = .ptr 2 ve 0 ∧ fget fr 5 = .sl 3 r 0 1 i none ∧ fget fr 6 = .int .i64 ((i : Nat) : Int) ∧ σ = ⟨t', mH w0 w1 L ++ [some (.arr ve 37 [.lst 1 (nints S) tS, .lst 4 (C'.map Cl.v) tC]), some (.arr r 2 (nints (vals S C' (L.take i))))]⟩
abbrev raE (t0 w0 w1 ve : Nat) (L : List Nd) (S : List Int) (tS : Bool) (C' : List Cl) (tC : Bool) : AE → Fr → H → Prop := fun e fr σ => e = .ex 0 ∧ ∃ t' r, t0 ≤ t' ∧ fget fr 5 = .sl 3 r 0 1 L.length none ∧ σ = ⟨t', mH w0 w1 L ++ [some (.arr ve 37 [.lst 1 (nints S) tS, .lst 4 (C'.map Cl.v) tC]), some (.arr r 2 (nints (vals S C' L)))]⟩
theorem ra_round (hT : TabOk P tab) {t0 w0 w1 ve i : Nat} {L : List Nd} (hL : L.length ≤ 1000) (hok : okN L) {S : List Int} (hS : ∀ x ∈ S, i64 x) (hSl : S.length ≤ 1000000) {tS tC : Bool} {C' : List Cl} (hC : C'.length ≤ 1000000) (hCn : ∀ c ∈ C', i64 c.n) {d : Nd} (hx : L[i]? = some d) {fr : Fr} {σ : H} (hJ : raJ t0 w0 w1 ve L S tS C' tC i fr σ) :
    W P G 70 2 (AC.seq (AC.seq (AC.reg proofmarkref03_All_r3 [9, 10, 11, 12, 13, 14])   (AC.cond (Arg.t 15)   AC.skip   (AC.exit 0)))   (AC.seq (AC.block 1 (AC.seq (AC.reg proofmarkref03_All_r4 [18, 19, 20, 21, 22, 23, 24])   (AC.seq (AC.reg proofmarkref03_All_r5 [])   (AC.seq (AC.seq (AC.reg proofmarkref03_All_r6 [25])   (AC.block 2 (AC.seq (AC.reg proofmarkref03_All_r7 [28])   (AC.cond (Arg.t 27)   (AC.reg proofmarkref03_All_r8 [29, 30])   (AC.seq (AC.reg proofmarkref03_All_r9 [32])   (AC.cond (Arg.t 31)   (AC.reg proofmarkref03_All_r10 [33, 34, 35, 36])   (AC.seq (AC.reg proofmarkref03_All_r11 [38])   (AC.cond (Arg.t 37)   (AC.reg proofmarkref03_All_r12 [39, 40, 41, 42, 43, 44, 45, 46, 47, 48, 49])   (AC.seq (AC.reg proofmarkref03_All_r13 [51])   (AC.cond (Arg.t 50)   (AC.reg proofmarkref03_All_r14 [52, 53, 54, 55, 56, 57, 58, 59, 60, 61, 62, 63, 64])   AC.skip))))))))))   (AC.reg proofmarkref03_All_r15 [65, 66, 67, 68])))))   (AC.reg proofmarkref03_All_r16 [16, 17]))) fr σ (seqQ (fun fr σ => ∃ fr' σ', Shift G 70 2 fr σ fr' σ' ∧ raJ t0 w0 w1 ve L S tS C' tC (i + 1) fr' σ') (raE t0 w0 w1 ve L S tS C' tC)) := by
  obtain ⟨t', r, ht, f0, f3, f5, f6, rfl⟩ := hJ
  have hlt := (List.getElem?_eq_some_iff.1 hx).1
  have e2 := w_nx hlt (by omega)
  have hc := ndC_get hx
  have hl := ndC_length L
  have h6 : i * 6 + 6 ≤ (ndC L).length := by omega
  have hts := take_snoc2 hx
  have hk : d.kind = 1 ∨ d.kind = 2 ∨ d.kind = 3 ∨ d.kind = 4 := (may_parts (hok i d hx).2.2).2.2
  have hop : 0 ≤ d.op ∧ d.op ≤ 255 := by have := (may_parts (hok i d hx).2.2).2.1; omega
  have hp := hok.wf i d hx
  have hlen : (vals S C' (L.take i)).length = i := by rw [vals_len, List.length_take]; omega
  have hlen2 : (vals S C' (L.take (i + 1))).length = i + 1 := by rw [vals_len, List.length_take]; omega
  have hval : ∀ p, i64 ((vals S C' (L.take i)).getD p 0) := fun p => getD_i64 (valsF_i64 hS hCn _ (fun d hd => okN_i64 hok d (List.mem_of_mem_take hd)) [] (by simp)) p
  have hsn : ∀ x, stepV S C' (fun p => (vals S C' (L.take i)).getD p.toNat 0) d = x → nints (vals S C' (L.take i)) ++ [V.int .i64 x] = nints (vals S C' (L.take (i + 1))) := fun x h => by
    rw [hts, vals_snoc, h]; simp [nints]
  have hget : ∀ y : Int, 0 ≤ y → y < i → (nints (vals S C' (L.take i))).getD y.toNat .any = .int .i64 ((vals S C' (L.take i)).getD y.toNat 0) := fun y h0 h1 => by
    obtain ⟨z, hz⟩ : ∃ z, (vals S C' (L.take i))[y.toNat]? = some z := ⟨_, List.getElem?_eq_getElem (by omega)⟩
    rw [nints_get hz, List.getD_eq_getElem?_getD, hz]; rfl
  generalize vals S C' (L.take i) = W1 at *
  generalize hW2 : vals S C' (L.take (i + 1)) = W2 at *
  simp only [Nd.cells] at hc
  rcases hk with k | k | k | k
  · have k1 : (d.kind = 1) = True := eq_true k
    have hs := hsn d.n (by rw [stepV, if_pos k])
    refine W_round [(0, .ptr 0 w0 0), (3, .ptr 2 ve 0), (5, .sl 3 r 0 1 i none), (6, .int .i64 ((i : Nat) : Int))] ⟨f0, f3, f5, f6, trivial⟩  1000 ?_
    simp -implicitDefEqProofs (disch := omega) only [go_sem, need_of, ↓reduceIte, reduceCtorEq, Nat.reduceAdd, Nat.reduceEqDiff, Nat.reduceLeDiff, Nat.zero_add, Nat.add_zero, Nat.mul_one, decide_true, Bool.not_true, Bool.not_false, Nat.le_refl, proofmarkref03_All_r3, proofmarkref03_All_r4, proofmarkref03_All_r5, proofmarkref03_All_r6, proofmarkref03_All_r7, proofmarkref03_All_r8, proofmarkref03_All_r9, proofmarkref03_All_r10, proofmarkref03_All_r11, proofmarkref03_All_r12, proofmarkref03_All_r13, proofmarkref03_All_r14, proofmarkref03_All_r15, proofmarkref03_All_r16, mH0_len, mH_app, mH_0, mH_1, mH_2, mH_3, mHs_3, mH_4, mHs_4, nints_length, List.length_append, List.length_cons, List.length_nil, false_implies, true_implies, true_and, and_true, not_true_eq_false, List.cons_append, List.nil_append, hlt, hc, h6, k1, hs, hlen, e2]
    refine ⟨_, _, Shift.drop (o' := mH w0 w1 L ++ [some (.arr ve 37 [.lst 1 (nints S) tS, .lst 4 (C'.map Cl.v) tC]), some (.arr (t' + 1) 2 (nints W2))]) (t' := t' + 1 + 1) (by simp [subObs, mH]) (Nat.le_refl _) (by simp [mH]), t' + 1 + 1, t' + 1, by omega, ?_⟩
    simp -implicitDefEqProofs (disch := omega) only [go_sem, ↓reduceIte, reduceCtorEq, Nat.reduceEqDiff, hW2]
  · have k1 : (d.kind = 1) = False := eq_false (by omega)
    have k2 : (d.kind = 2) = True := eq_true k
    have hs := hsn (symE S d.n) (by simp [stepV, k])
    refine W_round [(0, .ptr 0 w0 0), (3, .ptr 2 ve 0), (5, .sl 3 r 0 1 i none), (6, .int .i64 ((i : Nat) : Int))] ⟨f0, f3, f5, f6, trivial⟩  1000 ?_
    simp -implicitDefEqProofs (disch := omega) only [go_sem, need_of, ↓reduceIte, reduceCtorEq, Nat.reduceAdd, Nat.reduceEqDiff, Nat.reduceLeDiff, Nat.zero_add, Nat.add_zero, Nat.mul_one, decide_true, Bool.not_true, Bool.not_false, Nat.le_refl, proofmarkref03_All_r3, proofmarkref03_All_r4, proofmarkref03_All_r5, proofmarkref03_All_r6, proofmarkref03_All_r7, proofmarkref03_All_r8, proofmarkref03_All_r9, proofmarkref03_All_r10, proofmarkref03_All_r11, proofmarkref03_All_r12, proofmarkref03_All_r13, proofmarkref03_All_r14, proofmarkref03_All_r15, proofmarkref03_All_r16, mH0_len, mH_app, mH_0, mH_1, mH_2, mH_3, mHs_3, mH_4, mHs_4, nints_length, List.length_append, List.length_cons, List.length_nil, false_implies, true_implies, true_and, and_true, not_true_eq_false, not_false_eq_true, List.cons_append, List.nil_append, hlt, hc, h6, k1, k2]
    refine callPS hT t_proofmarkref03_Env_Sym (c_rSym hT S hSl tS tC 4 C' d.n) rfl 1000 ?_
    simp -implicitDefEqProofs (disch := omega) only [go_sem, need_of, ↓reduceIte, reduceCtorEq, Nat.reduceEqDiff, Nat.reduceLeDiff, Nat.zero_add, Nat.mul_one, Bool.not_true, Nat.le_refl, mH_3, mHs_3, nints_length, List.length_cons, List.length_nil, true_and, and_true, List.cons_append, List.nil_append, hs, hlen, e2]
    refine ⟨_, _, Shift.drop (o' := mH w0 w1 L ++ [some (.arr ve 37 [.lst 1 (nints S) tS, .lst 4 (C'.map Cl.v) tC]), some (.arr (t' + 1) 2 (nints W2))]) (t' := t' + 1 + 1) (by simp [subObs, mH]) (Nat.le_refl _) (by simp [mH]), t' + 1 + 1, t' + 1, by omega, ?_⟩
    simp -implicitDefEqProofs (disch := omega) only [go_sem, ↓reduceIte, reduceCtorEq, Nat.reduceEqDiff, hW2]
  · have k1 : (d.kind = 1) = False := eq_false (by omega)
    have k2 : (d.kind = 2) = False := eq_false (by omega)
    have k3 : (d.kind = 3) = True := eq_true k
    have hs := hsn (cellE C' d.a d.n (W1.getD d.y.toNat 0)) (by simp [stepV, k])
    have hy := hp d.y (by simp [Nd.parts, k])
    have hgy := hget d.y hy.1 hy.2
    have hy1 : d.y.toNat < i := by omega
    refine W_round [(0, .ptr 0 w0 0), (3, .ptr 2 ve 0), (5, .sl 3 r 0 1 i none), (6, .int .i64 ((i : Nat) : Int))] ⟨f0, f3, f5, f6, trivial⟩  1000 ?_
    simp -implicitDefEqProofs (disch := omega) only [go_sem, need_of, ↓reduceIte, reduceCtorEq, Nat.reduceAdd, Nat.reduceEqDiff, Nat.reduceLeDiff, Nat.zero_add, Nat.add_zero, Nat.mul_one, decide_true, Bool.not_true, Bool.not_false, Nat.le_refl, proofmarkref03_All_r3, proofmarkref03_All_r4, proofmarkref03_All_r5, proofmarkref03_All_r6, proofmarkref03_All_r7, proofmarkref03_All_r8, proofmarkref03_All_r9, proofmarkref03_All_r10, proofmarkref03_All_r11, proofmarkref03_All_r12, proofmarkref03_All_r13, proofmarkref03_All_r14, proofmarkref03_All_r15, proofmarkref03_All_r16, mH0_len, mH_app, mH_0, mH_1, mH_2, mH_3, mHs_3, mH_4, mHs_4, nints_length, List.length_append, List.length_cons, List.length_nil, false_implies, true_implies, true_and, and_true, not_true_eq_false, not_false_eq_true, List.cons_append, List.nil_append, hlt, hc, h6, k1, k2, k3, hlen, hgy, hy1, hy.1]
    refine callPS hT t_proofmarkref03_Env_Cell (c_rCell hT S tS C' hC tC d.a d.n (W1.getD d.y.toNat 0)) rfl 1000 ?_
    simp -implicitDefEqProofs (disch := omega) only [go_sem, need_of, ↓reduceIte, reduceCtorEq, Nat.reduceEqDiff, Nat.reduceLeDiff, Nat.zero_add, Nat.mul_one, Bool.not_true, Nat.le_refl, mH_3, mHs_3, nints_length, List.length_cons, List.length_nil, true_and, and_true, List.cons_append, List.nil_append, hs, hlen, e2]
    refine ⟨_, _, Shift.drop (o' := mH w0 w1 L ++ [some (.arr ve 37 [.lst 1 (nints S) tS, .lst 4 (C'.map Cl.v) tC]), some (.arr (t' + 1) 2 (nints W2))]) (t' := t' + 1 + 1) (by simp [subObs, mH]) (Nat.le_refl _) (by simp [mH]), t' + 1 + 1, t' + 1, by omega, ?_⟩
    simp -implicitDefEqProofs (disch := omega) only [go_sem, ↓reduceIte, reduceCtorEq, Nat.reduceEqDiff, hW2]
  · have k1 : (d.kind = 1) = False := eq_false (by omega)
    have k2 : (d.kind = 2) = False := eq_false (by omega)
    have k3 : (d.kind = 3) = False := eq_false (by omega)
    have k4 : (d.kind = 4) = True := eq_true k
    have hs := hsn (doW d.op (W1.getD d.x.toNat 0) (W1.getD d.y.toNat 0)) (by simp [stepV, k])
    have hx' := hp d.x (by simp [Nd.parts, k])
    have hy := hp d.y (by simp [Nd.parts, k])
    have hgx := hget d.x hx'.1 hx'.2
    have hgy := hget d.y hy.1 hy.2
    have hx1 : d.x.toNat < i := by omega
    have hy1 : d.y.toNat < i := by omega
    refine W_round [(0, .ptr 0 w0 0), (3, .ptr 2 ve 0), (5, .sl 3 r 0 1 i none), (6, .int .i64 ((i : Nat) : Int))] ⟨f0, f3, f5, f6, trivial⟩  1000 ?_
    simp -implicitDefEqProofs (disch := omega) only [go_sem, need_of, ↓reduceIte, reduceCtorEq, Nat.reduceAdd, Nat.reduceEqDiff, Nat.reduceLeDiff, Nat.zero_add, Nat.add_zero, Nat.mul_one, decide_true, Bool.not_true, Bool.not_false, Nat.le_refl, proofmarkref03_All_r3, proofmarkref03_All_r4, proofmarkref03_All_r5, proofmarkref03_All_r6, proofmarkref03_All_r7, proofmarkref03_All_r8, proofmarkref03_All_r9, proofmarkref03_All_r10, proofmarkref03_All_r11, proofmarkref03_All_r12, proofmarkref03_All_r13, proofmarkref03_All_r14, proofmarkref03_All_r15, proofmarkref03_All_r16, mH0_len, mH_app, mH_0, mH_1, mH_2, mH_3, mHs_3, mH_4, mHs_4, nints_length, List.length_append, List.length_cons, List.length_nil, false_implies, true_implies, true_and, and_true, not_true_eq_false, not_false_eq_true, List.cons_append, List.nil_append, hlt, hc, h6, k1, k2, k3, k4, hlen, hgx, hgy, hx1, hy1, hx'.1, hy.1]
    refine callPS hT t_proofmarkref01_Do (c_rDo hT d.op (W1.getD d.x.toNat 0) (W1.getD d.y.toNat 0) hop (hval _) (hval _)) rfl 1000 ?_
    simp -implicitDefEqProofs (disch := omega) only [go_sem, need_of, ↓reduceIte, reduceCtorEq, Nat.reduceEqDiff, Nat.reduceLeDiff, Nat.zero_add, Nat.mul_one, Bool.not_true, Nat.le_refl, mH_3, mHs_3, nints_length, List.length_cons, List.length_nil, true_and, and_true, List.cons_append, List.nil_append, hs, hlen, e2]
    refine ⟨_, _, Shift.drop (o' := mH w0 w1 L ++ [some (.arr ve 37 [.lst 1 (nints S) tS, .lst 4 (C'.map Cl.v) tC]), some (.arr (t' + 1) 2 (nints W2))]) (t' := t' + 1 + 1) (by simp [subObs, mH]) (Nat.le_refl _) (by simp [mH]), t' + 1 + 1, t' + 1, by omega, ?_⟩
    simp -implicitDefEqProofs (disch := omega) only [go_sem, ↓reduceIte, reduceCtorEq, Nat.reduceEqDiff, hW2]
theorem r_All (hT : TabOk P tab) {t w0 w1 : Nat} {L : List Nd} (hL : L.length ≤ 1000) (hok : okN L) {S : List Int} (hS : ∀ x ∈ S, i64 x) (hSl : S.length ≤ 1000000) {tS tC : Bool} {C' : List Cl} (hC : C'.length ≤ 1000000) (hCn : ∀ c ∈ C', i64 c.n) :
    C P G 2 n_proofmarkref03_All [.ptr 0 w0 0, envV S tS 4 C' tC] ⟨t, mH w0 w1 L⟩ fun v σ => v = .lst 1 (nints (vals S C' L)) false ∧ ∃ t', t ≤ t' ∧ σ = ⟨t', mH w0 w1 L⟩ := by
  refine C_keep 2 (Nat.le_refl _) (C_freezeO (Q := fun v σ => ∃ t' r ve, t ≤ t' ∧ v = .sl 3 r 0 1 L.length none ∧ σ = ⟨t', mH w0 w1 L ++ [some (.arr ve 37 [.lst 1 (nints S) tS, .lst 4 (C'.map Cl.v) tC]), some (.arr r 2 (nints (vals S C' L)))]⟩) ?_ fun v σ hv => ?_)
  · refine C_tab hT t_proofmarkref03_All (by simp [proofmarkref03_All]) (W_run 1000 ?_)
    simp -implicitDefEqProofs (disch := omega) only [go_sem, ↓reduceIte, reduceCtorEq, Nat.reduceEqDiff, Nat.zero_add, proofmarkref03_All, proofmarkref03_All_r0, proofmarkref03_All_r1, proofmarkref03_All_r2, proofmarkref03_All_r3, proofmarkref03_All_r4, proofmarkref03_All_r5, proofmarkref03_All_r6, proofmarkref03_All_r7, proofmarkref03_All_r8, proofmarkref03_All_r9, proofmarkref03_All_r10, proofmarkref03_All_r11, proofmarkref03_All_r12, proofmarkref03_All_r13, proofmarkref03_All_r14, proofmarkref03_All_r15, proofmarkref03_All_r16, proofmarkref03_All_r17, mH0_len, and_true, envV]
    refine sem_shift (Shift.own (s := 5) (z := 0) (sz := 1) (T := 2) (by simp -implicitDefEqProofs (disch := omega) only [go_sem, ↓reduceIte, reduceCtorEq, Nat.reduceEqDiff]) (by decide)) ?_
    simp -implicitDefEqProofs (disch := omega) only [go_sem, ↓reduceIte, reduceCtorEq, Nat.reduceAdd, Nat.reduceEqDiff, Nat.zero_add, H.push, mH0_len, mH_app, List.length_append, List.length_cons, List.length_nil, List.cons_append, List.nil_append]
    refine sem_for L (raJ t w0 w1 t L S tS C' tC) (raE t w0 w1 t L S tS C' tC) ⟨t + 1 + 1, t + 1, by omega, by simp -implicitDefEqProofs (disch := omega) only [go_sem, ↓reduceIte], by simp -implicitDefEqProofs (disch := omega) only [go_sem, ↓reduceIte, reduceCtorEq, Nat.reduceEqDiff], by simp -implicitDefEqProofs (disch := omega) only [go_sem, ↓reduceIte, reduceCtorEq, Nat.reduceEqDiff], by simp -implicitDefEqProofs (disch := omega) only [go_sem, ↓reduceIte, reduceCtorEq, Nat.reduceEqDiff]; rfl, rfl⟩ (fun i d hx fr σ hJ => ra_round hT hL hok hS hSl hC hCn hx hJ) (fun i hi fr σ hJ => ?_) (fun e fr σ hE => ?_)
    · obtain ⟨t', r, ht, f0, f3, f5, f6, rfl⟩ := hJ
      have hnl : ¬ i < L.length := by omega
      refine W_round [(0, .ptr 0 w0 0), (3, .ptr 2 t 0), (5, .sl 3 r 0 1 i none), (6, .int .i64 ((i : Nat) : Int))] ⟨f0, f3, f5, f6, trivial⟩ 1000 ?_
      simp -implicitDefEqProofs (disch := omega) only [go_sem, ↓reduceIte, reduceCtorEq, Nat.reduceEqDiff, Nat.zero_add, Nat.add_zero, decide_false, Nat.le_refl, mH_0, List.length_cons, List.length_nil, true_implies, and_true, hnl]
      rw [hi, List.take_length]
      exact ⟨rfl, t', r, ht, rfl, rfl⟩
    · obtain ⟨rfl, t', r, ht, f5, rfl⟩ := hE
      refine sem_exit [(5, .sl 3 r 0 1 L.length none)] ⟨f5, trivial⟩ 1000 ?_
      simp -implicitDefEqProofs (disch := omega) only [go_sem, ↓reduceIte, Nat.reduceEqDiff]
      exact ⟨t', r, t, ht, rfl, rfl, rfl⟩
  · obtain ⟨t', r, ve, ht, rfl, rfl⟩ := hv
    refine .inr ⟨3, r, 2, nints (vals S C' L), by omega, rfl, nints_nameless _, ?_, ?_, t', ht, ?_⟩
    · simp [mapFrom_length, mH]
    · have := frz_n (k := 3) (w := r) (vals S C' L)
      rw [vals_len] at this
      simp only [frzV] at this ⊢
      rw [this]
    · simp [mH, mapFrom]
/-- Both graphs. -/
theorem r_AllK (hT : TabOk P tab) {fmt : Int → List UInt8} {v0 v1 v2 v3 v4 w0 w1 t base : Nat} {L : List Nd} {ex : List (Option Ob)} (hL : L.length ≤ 1000) (hok : okN L) {S : List Int} (hS : ∀ x ∈ S, i64 x) (hSl : S.length ≤ 1000000) {tS tC : Bool} {C' : List Cl} (hC : C'.length ≤ 1000000) (hCn : ∀ c ∈ C', i64 c.n) :
    C P G base n_proofmarkref03_All [.ptr 5 w0 0, envV S tS 4 C' tC] ⟨t, kG fmt v0 v1 v2 v3 v4 L ++ mK w0 w1 L ex⟩ fun v σ => v = .lst 1 (nints (vals S C' L)) false ∧ ∃ t', t ≤ t' ∧ σ = ⟨t', kG fmt v0 v1 v2 v3 v4 L ++ mK w0 w1 L ex⟩ :=
  m_readK (r_All hT hL hok hS hSl hC hCn) rfl rfl
end Go.Proofs.YtfligilbnpcnaaaGreatDoor

