/- The law SatFuel. -/
import Derived.Test.YtpepmhmgfpkdmaaSq4
import Derived.Test.YtpepmhmgfpkdmaaSA
namespace Go.Proofs.Ytpepmhmgfpkdmaa
open Go Go.Am Go.Cl Go.Sat
set_option maxRecDepth 100000
variable {G : Nat → Option V}

theorem wself {n : Int} (h : -9223372036854775808 ≤ n ∧ n ≤ 9223372036854775807) : IntKind.i64.wrap n = n := by
  rw [wrap_id]
  · simp [IntKind.min, IntKind.signed, IntKind.bits]; omega
  · simp [IntKind.max, IntKind.signed, IntKind.bits]; omega
theorem ansV_up {vars fu m : Nat} (q : S × Bool) : ansV vars (fu + m) (some (up1 m q)) = ansV vars fu (some q) := by
  obtain ⟨s, b⟩ := q
  have h : fu + m - (s.more m).lf = fu - s.lf := Nat.add_sub_add_right fu m s.lf
  cases b with
  | true =>
    show V.agg [_, .lst 1 (bls (model vars (s.more m))) false, _, .int .i64 ((fu + m - (s.more m).lf : Nat) : Int)] = _
    rw [h]; rfl
  | false =>
    show V.agg [_, _, rows (s.more m).pf, .int .i64 ((fu + m - (s.more m).lf : Nat) : Int)] = _
    rw [h]; rfl

/-- What is known of an answer that is known. -/
structure AnsOk (vars fu : Nat) (q : S × Bool) (k : Int) (z1 : Nat) (m : List Bool) (t1 : Bool) (z2 : Nat) (p : List (List Int)) (t2 : Bool) : Prop where
  eq : ansV vars fu (some q) = .agg (ansC k z1 m t1 z2 p t2 ((fu - q.1.lf : Nat) : Int))
  k0 : k ≠ 0
  z1 : m = [] ∨ z1 = 1
  z2 : p = [] ∨ z2 = 1
  ml : m.length ≤ 8388608
  pl : p.length ≤ 8388608
  pc : ∀ c ∈ p, c.length ≤ 8388608

theorem ans_ok {vars fu : Nat} {F : List (List Int)} (hv : vars ≤ 900) (hfu : fu ≤ 2097152) (hF : ∀ c ∈ F, ∀ l ∈ c, l ≠ 0 ∧ l.natAbs < vars + 1) {q : S × Bool} (h : solve vars F fu = some q) :
    ∃ k z1 m t1 z2 p t2, AnsOk vars fu q k z1 m t1 z2 p t2 := by
  have hb := solve_pb hF h
  obtain ⟨s, b⟩ := q
  cases b with
  | true => exact ⟨1, 1, model vars s, false, 0, [], true, ⟨rfl, by decide, .inr rfl, .inl rfl, by simp [model]; omega, by simp, by simp⟩⟩
  | false => exact ⟨2, 0, [], true, 1, s.pf, false, ⟨rfl, by decide, .inl rfl, .inr rfl, by simp, by have := hb.1; simp only at this; omega, fun c hc => by have := hb.2 c hc; omega⟩⟩

theorem few_le {v : Int} {F : List (List Int)} {k m : Nat} (h : few3 v F k m = true) : F.length ≤ k ∧ v ≤ m ∧ ∀ c ∈ F, c.length ≤ 20 := by
  simp only [few3, Bool.and_eq_true, decide_eq_true_eq, List.all_eq_true] at h
  exact ⟨by omega, h.1.2, fun c hc => h.2 c hc⟩

theorem c_SatFuel (hT : TabOk Try.prog tab) (v : Int) (F : List (List Int)) (fu mo : Int) (hF : F.length ≤ 9223372036854775807) (hFc : ∀ c ∈ F, c.length ≤ 9223372036854775807) :
    Pure Try.prog G n_proofmarklaw07_SatFuel [fml v F, .int .i64 fu, .int .i64 mo] fun u => u = .bool true := by
  have hW := c_works (G := G) hT
  have hfew := c_few (P := Try.prog) (G := G) hT v F 60 30 (by omega) hF hFc
  have hpl := c_plain (P := Try.prog) (G := G) hT v F
  have hRi := c_rRight (P := Try.prog) (G := G) hT v F hF hFc
  have hnr := nameless_rows F
  simp only [fml, rows] at hfew hpl hRi ⊢
  intro t
  refine C_keep 0 (Nat.zero_le _) (C_tab hT t_proofmarklaw07_SatFuel (by simp [proofmarklaw07_SatFuel]) (W_run 1000 ?_))
  simp -implicitDefEqProofs (disch := omega) only [go_sem, ↓reduceIte, reduceCtorEq, Nat.reduceAdd, Nat.reduceEqDiff, Nat.zero_add, Nat.le_refl, proofmarklaw07_SatFuel, proofmarklaw07_SatFuel_r0, proofmarklaw07_SatFuel_r1, proofmarklaw07_SatFuel_r2, proofmarklaw07_SatFuel_r3, proofmarklaw07_SatFuel_r4, proofmarklaw07_SatFuel_r5, proofmarklaw07_SatFuel_r6, proofmarklaw07_SatFuel_r7, proofmarklaw07_SatFuel_r8, proofmarklaw07_SatFuel_r9, proofmarklaw07_SatFuel_r10, proofmarklaw07_SatFuel_r11, proofmarklaw07_SatFuel_r12, proofmarklaw07_SatFuel_r13, false_implies, and_true]
  refine callPS hT t_proofmarklaw07_few hfew (by simp [namelessL, nameless]) 1000 ?_
  cases h1 : few3 v F 60 30 with
  | false =>
    simp -implicitDefEqProofs (disch := omega) only [go_sem, ↓reduceIte, reduceCtorEq, Nat.reduceEqDiff, Bool.not_false]
    refine callPS hT t_proofmarklaw07_works hW rfl 1000 ?_
    simp -implicitDefEqProofs (disch := omega) only [go_sem, ↓reduceIte, reduceCtorEq, Nat.reduceEqDiff, Nat.zero_add, Nat.zero_le, and_true]
  | true =>
    by_cases g1 : fu < 0
    · have g1p : (fu < 0) = True := eq_true g1
      have g1' : decide (fu < 0) = true := decide_eq_true g1
      simp -implicitDefEqProofs (disch := omega) only [go_sem, ↓reduceIte, reduceCtorEq, Nat.reduceAdd, Nat.reduceEqDiff, decide_true, Bool.not_true, g1p]
      refine callPS hT t_proofmarklaw07_works hW rfl 1000 ?_
      simp -implicitDefEqProofs (disch := omega) only [go_sem, ↓reduceIte, reduceCtorEq, Nat.reduceEqDiff, Nat.zero_add, Nat.zero_le, and_true]
    have g1p : (fu < 0) = False := eq_false g1
    have g1' : decide (fu < 0) = false := decide_eq_false g1
    by_cases g2 : 2000 < fu
    · have g2p : (2000 < fu) = True := eq_true g2
      have g2' : decide (2000 < fu) = true := decide_eq_true g2
      simp -implicitDefEqProofs (disch := omega) only [go_sem, ↓reduceIte, reduceCtorEq, Nat.reduceAdd, Nat.reduceEqDiff, decide_true, decide_false, Bool.not_true, gt_iff_lt, g1p, g2p]
      refine callPS hT t_proofmarklaw07_works hW rfl 1000 ?_
      simp -implicitDefEqProofs (disch := omega) only [go_sem, ↓reduceIte, reduceCtorEq, Nat.reduceEqDiff, Nat.zero_add, Nat.zero_le, and_true]
    have g2p : (2000 < fu) = False := eq_false g2
    have g2' : decide (2000 < fu) = false := decide_eq_false g2
    by_cases g3 : mo < 0
    · have g3p : (mo < 0) = True := eq_true g3
      have g3' : decide (mo < 0) = true := decide_eq_true g3
      simp -implicitDefEqProofs (disch := omega) only [go_sem, ↓reduceIte, reduceCtorEq, Nat.reduceAdd, Nat.reduceEqDiff, decide_true, decide_false, Bool.not_true, gt_iff_lt, g1p, g2p, g3p]
      refine callPS hT t_proofmarklaw07_works hW rfl 1000 ?_
      simp -implicitDefEqProofs (disch := omega) only [go_sem, ↓reduceIte, reduceCtorEq, Nat.reduceEqDiff, Nat.zero_add, Nat.zero_le, and_true]
    have g3p : (mo < 0) = False := eq_false g3
    have g3' : decide (mo < 0) = false := decide_eq_false g3
    by_cases g4 : 2000 < mo
    · have g4p : (2000 < mo) = True := eq_true g4
      have g4' : decide (2000 < mo) = true := decide_eq_true g4
      simp -implicitDefEqProofs (disch := omega) only [go_sem, ↓reduceIte, reduceCtorEq, Nat.reduceAdd, Nat.reduceEqDiff, decide_true, decide_false, Bool.not_true, gt_iff_lt, g1p, g2p, g3p, g4p]
      refine callPS hT t_proofmarklaw07_works hW rfl 1000 ?_
      simp -implicitDefEqProofs (disch := omega) only [go_sem, ↓reduceIte, reduceCtorEq, Nat.reduceEqDiff, Nat.zero_add, Nat.zero_le, and_true]
    have g4p : (2000 < mo) = False := eq_false g4
    have g4' : decide (2000 < mo) = false := decide_eq_false g4
    obtain ⟨f, rfl⟩ : ∃ f : Nat, fu = (f : Int) := ⟨fu.toNat, by omega⟩
    obtain ⟨mm, rfl⟩ : ∃ mm : Nat, mo = (mm : Int) := ⟨mo.toNat, by omega⟩
    simp -implicitDefEqProofs (disch := omega) only [go_sem, ↓reduceIte, reduceCtorEq, Nat.reduceAdd, Nat.reduceEqDiff, Nat.zero_add, decide_false, Bool.not_true, Nat.le_refl, gt_iff_lt, false_implies, and_true, g1p, g2p, g3p, g4p]
    refine callPS hT t_proofmarklaw07_plain hpl (by simp [namelessL, nameless]) 1000 ?_
    simp -implicitDefEqProofs (disch := omega) only [go_sem, ↓reduceIte, reduceCtorEq, Nat.reduceAdd, Nat.reduceEqDiff]
    refine callPS hT t_proofmarkref05_Right hRi (by simp [namelessL, nameless]) 1000 ?_
    cases hR : right v F with
    | false =>
      simp -implicitDefEqProofs (disch := omega) only [go_sem, ↓reduceIte, reduceCtorEq, Nat.reduceAdd, Nat.reduceEqDiff, Bool.not_false]
      refine callPS hT t_proofmarklaw07_works hW rfl 1000 ?_
      simp -implicitDefEqProofs (disch := omega) only [go_sem, ↓reduceIte, reduceCtorEq, Nat.reduceEqDiff, Nat.zero_add, Nat.zero_le, and_true]
    | true =>
      obtain ⟨hFl, hv30, hF20⟩ := few_le h1
      have hri := right_iff.1 hR
      obtain ⟨vars, rfl⟩ : ∃ vars : Nat, v = (vars : Int) := ⟨v.toNat, by omega⟩
      have hFo : ∀ c ∈ F, ∀ l ∈ c, l ≠ 0 ∧ l.natAbs < vars + 1 := fun c hc l hl => by
        have := hri.2 c hc l hl
        exact ⟨this.1, by omega⟩
      have hSol : ∀ n : Nat, n ≤ 5000 → Pure Try.prog G n_sat_Solve [.agg [.int .i64 (vars : Int), .lst 1 (F.map row) false], .int .i64 (n : Int)] fun u => u = .tup [ansV vars n (solve vars F n), .int .i64 0] := fun n hn => by
        have := c_Solve (G := G) hT vars F n hR (by omega) (by omega) (fun c hc => by have := hF20 c hc; omega) (by omega)
        simpa only [fml, rows] using this
      have e1 : IntKind.i64.wrap ((f : Int) + (mm : Int)) = ((f + mm : Nat) : Int) := by rw [wself (by omega)]; omega
      have hS1 := hSol f (by omega)
      have hS2 := hSol (f + mm) (by omega)
      have hup := solve_up vars F f mm
      simp -implicitDefEqProofs (disch := omega) only [go_sem, ↓reduceIte, reduceCtorEq, Nat.reduceAdd, Nat.reduceEqDiff, Nat.zero_add, Bool.not_true, Nat.le_refl, false_implies, and_true]
      refine callPS hT t_sat_Solve hS1 (by simp [namelessL, nameless]) 1000 ?_
      cases hr : solve vars F f with
      | none =>
        rw [hr] at hup
        simp -implicitDefEqProofs (disch := omega) only [go_sem, ↓reduceIte, reduceCtorEq, Nat.reduceAdd, Nat.reduceEqDiff, Nat.reduceLT, Nat.zero_add, Bool.not_false, Nat.le_refl, Nat.zero_le, false_implies, and_true, ansV, e1]
        refine callPS hT t_sat_Solve hS2 (by simp [namelessL, nameless]) 1000 ?_
        cases hr2 : solve vars F (f + mm) with
        | none =>
          simp -implicitDefEqProofs (disch := omega) only [go_sem, ↓reduceIte, reduceCtorEq, Nat.reduceAdd, Nat.reduceEqDiff, Nat.reduceLeDiff, Nat.reduceLT, Nat.zero_add, Nat.add_zero, Bool.not_false, Nat.le_refl, Nat.zero_le, beq_self_eq_true, bne_self_eq_false, true_implies, and_true, ansV, bne_self_eq_false, beq_self_eq_true]
          refine callPS hT t_proofmarklaw07_works hW rfl 1000 ?_
          simp -implicitDefEqProofs (disch := omega) only [go_sem, ↓reduceIte, reduceCtorEq, Nat.reduceAdd, Nat.reduceEqDiff, Nat.zero_add, Nat.zero_le, and_true]
        | some q =>
          have hlt : q.1.lf < mm := hup.lt hr2
          obtain ⟨k, z1, m, t1, z2, p, t2, ha⟩ := ans_ok (by omega) (by omega) hFo hr2
          have k0 := ha.k0
          have k1 : (k == 0) = false := beq_eq_false_iff_ne.2 k0
          have k2 : (k = 0) = False := eq_false k0
          have u1 : decide ((f : Int) < ((f + mm - q.1.lf : Nat) : Int)) = true := decide_eq_true (by omega)
          have u2 : ((f : Int) < ((f + mm - q.1.lf : Nat) : Int)) = True := eq_true (by omega)
          rw [ha.eq]
          generalize ((f + mm - q.1.lf : Nat) : Int) = u at *
          simp -implicitDefEqProofs (disch := omega) only [go_sem, ↓reduceIte, reduceCtorEq, Nat.reduceAdd, Nat.reduceEqDiff, Nat.reduceLeDiff, Nat.reduceLT, Nat.zero_add, Nat.add_zero, decide_true, Bool.not_false, Nat.le_refl, Nat.zero_le, gt_iff_lt, bne_self_eq_false, true_implies, and_true, ansC, bne_self_eq_false, k1, u2]
          refine callPS hT t_proofmarklaw07_works hW rfl 1000 ?_
          simp -implicitDefEqProofs (disch := omega) only [go_sem, ↓reduceIte, reduceCtorEq, Nat.reduceAdd, Nat.reduceEqDiff, Nat.zero_add, Nat.zero_le, and_true]
      | some q =>
        rw [hr] at hup
        replace hup : solve vars F (f + mm) = some (up1 mm q) := hup
        have hlf : q.1.lf ≤ f := solve_lf hr
        rw [hup, ansV_up] at hS2
        obtain ⟨q2, hq2, hq3⟩ := solve_less (fuel := f - q.1.lf) (m := q.1.lf) (by rw [Nat.sub_add_cancel hlf]; exact hr) (Nat.le_refl _)
        have hS3 := hSol (f - q.1.lf) (by omega)
        have hans : ansV vars (f - q.1.lf) (some q2) = ansV vars f (some q) := by
          have := ansV_up (vars := vars) (fu := f - q.1.lf) (m := q.1.lf) q2
          rw [← hq3, Nat.sub_add_cancel hlf] at this
          exact this.symm
        rw [hq2, hans] at hS3
        have hS4 : 0 < f - q.1.lf → Pure Try.prog G n_sat_Solve [.agg [.int .i64 (vars : Int), .lst 1 (F.map row) false], .int .i64 ((f - q.1.lf - 1 : Nat) : Int)] fun u => u = .tup [ansV vars (f - q.1.lf - 1) none, .int .i64 0] := fun h0 => by
          have h := hSol (f - q.1.lf - 1) (by omega)
          rw [solve_none (fuel := f - q.1.lf - 1) (m := q.1.lf + 1) (r := q) (by rw [show f - q.1.lf - 1 + (q.1.lf + 1) = f by omega]; exact hr) (by omega)] at h
          exact h
        obtain ⟨k, z1, m, t1, z2, p, t2, ha⟩ := ans_ok (by omega) (by omega) hFo hr
        have k0 := ha.k0
        have k1 : (k == 0) = false := beq_eq_false_iff_ne.2 k0
        have k2 : (k = 0) = False := eq_false k0
        have k3 : (k != 0) = true := by simp [k0]
        rw [ha.eq] at hS2 hS3 ⊢
        have hsm := c_same (P := Try.prog) (G := G) (k := k) (u := ((f - q.1.lf : Nat) : Int)) (t1 := t1) (t2 := t2) hT ha.z1 ha.z2 ha.ml ha.pl ha.pc
        have hnp := nameless_rows p
        have hnm := bls_nameless m
        have hule : f - q.1.lf ≤ 2000 := by omega
        generalize f - q.1.lf = u at *
        simp only [ansC] at hS2 hS3 hsm
        simp -implicitDefEqProofs (disch := omega) only [go_sem, ↓reduceIte, reduceCtorEq, Nat.reduceAdd, Nat.reduceEqDiff, Nat.reduceLT, Nat.zero_add, Bool.not_false, Nat.le_refl, Nat.zero_le, false_implies, and_true, ansC, e1]
        refine callPS hT t_sat_Solve hS2 (by simp [namelessL, nameless]) 1000 ?_
        simp -implicitDefEqProofs (disch := omega) only [go_sem, ↓reduceIte, reduceCtorEq, Nat.reduceAdd, Nat.reduceEqDiff, Nat.reduceLeDiff, Nat.reduceLT, Nat.zero_add, Nat.add_zero, Bool.not_false, Nat.le_refl, Nat.zero_le, false_implies, true_implies, and_true, k3]
        refine callPS hT t_sat_Solve hS3 (by simp [namelessL, nameless]) 1000 ?_
        simp -implicitDefEqProofs (disch := omega) only [go_sem, ↓reduceIte, reduceCtorEq, Nat.reduceAdd, Nat.reduceEqDiff, Nat.reduceLT, Nat.zero_add, Bool.not_false, Nat.le_refl, Nat.zero_le, false_implies, and_true]
        refine callPS hT t_proofmarklaw07_same hsm (by simp [namelessL, nameless]) 1000 ?_
        simp -implicitDefEqProofs (disch := omega) only [go_sem, ↓reduceIte, reduceCtorEq, Nat.reduceAdd, Nat.reduceEqDiff, Nat.zero_add, Bool.not_true, Nat.le_refl, false_implies, and_true]
        refine callPS hT t_proofmarklaw07_same hsm (by simp [namelessL, nameless]) 1000 ?_
        rcases Nat.eq_zero_or_pos u with h0 | h0
        · have u1 : decide ((0 : Int) < (u : Int)) = false := decide_eq_false (by omega)
          have u2 : ((0 : Int) < (u : Int)) = False := eq_false (by omega)
          simp -implicitDefEqProofs (disch := omega) only [go_sem, ↓reduceIte, reduceCtorEq, Nat.reduceAdd, Nat.reduceEqDiff, Nat.zero_add, decide_false, Bool.not_true, Nat.le_refl, gt_iff_lt, true_implies, and_true, u2]
          refine callPS hT t_proofmarklaw07_works hW rfl 1000 ?_
          simp -implicitDefEqProofs (disch := omega) only [go_sem, ↓reduceIte, reduceCtorEq, Nat.reduceAdd, Nat.reduceEqDiff, Nat.zero_add, Nat.zero_le, and_true]
        · have u1 : decide ((0 : Int) < (u : Int)) = true := decide_eq_true (by omega)
          have u2 : ((0 : Int) < (u : Int)) = True := eq_true (by omega)
          have e2 : IntKind.i64.wrap ((u : Int) - 1) = ((u - 1 : Nat) : Int) := by rw [wself (by omega)]; omega
          have hS5 := hS4 h0
          simp -implicitDefEqProofs (disch := omega) only [go_sem, ↓reduceIte, reduceCtorEq, Nat.reduceAdd, Nat.reduceEqDiff, Nat.zero_add, decide_true, Bool.not_true, Nat.le_refl, gt_iff_lt, false_implies, true_implies, and_true, u2, e2]
          refine callPS hT t_sat_Solve hS5 (by simp [namelessL, nameless]) 1000 ?_
          simp -implicitDefEqProofs (disch := omega) only [go_sem, ↓reduceIte, reduceCtorEq, Nat.reduceAdd, Nat.reduceEqDiff, Nat.reduceLeDiff, Nat.reduceLT, Nat.zero_add, Nat.add_zero, Bool.not_false, Nat.le_refl, Nat.zero_le, beq_self_eq_true, true_implies, and_true, ansV, beq_self_eq_true]
          refine callPS hT t_proofmarklaw07_works hW rfl 1000 ?_
          simp -implicitDefEqProofs (disch := omega) only [go_sem, ↓reduceIte, reduceCtorEq, Nat.reduceAdd, Nat.reduceEqDiff, Nat.zero_add, Nat.zero_le, and_true]
end Go.Proofs.Ytpepmhmgfpkdmaa

