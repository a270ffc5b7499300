/- The law RupTrue. -/
import Derived.Test.YtingdebioipemaaRl3
namespace Go.Proofs.Ytingdebioipemaa
open Go Go.Am Go.Cl
set_option maxRecDepth 100000
variable {G : Nat → Option V}

def rtH (t n : Nat) (F : List (List Int)) : List (Option Ob) := [some (.arr t 24 [.int .i64 n, .lst 1 (F.map row) false]), some (.arr (t + 1) 28 [.int .i64 n, .lst 1 (F.map row) false])]
abbrev rtjJ (t0 tw t' n i k : Nat) (F p : List (List Int)) : Nat → Fr → H → Prop := fun j fr σ => ∃ m : List Bool, m.length = n ∧ fget fr 1 = .lst 1 (p.map row) false ∧ fget fr 2 = .ptr 0 t0 0 ∧ fget fr 5 = .ptr 1 (t0 + 1) 0 ∧ fget fr 6 = .int .i64 ((i : Nat) : Int) ∧ fget fr 7 = .int .i64 ((k : Nat) : Int) ∧ fget fr 8 = .sl 2 tw 0 1 n none ∧ fget fr 9 = .int .i64 ((j : Nat) : Int) ∧ σ = ⟨t', rtH t0 n F ++ [some (.arr tw 4 (m.map V.bool))]⟩
abbrev rtjE (t0 tw t' n i k : Nat) (F p : List (List Int)) : AE → Fr → H → Prop := fun e fr σ => e = .ex 4 ∧ ∃ m : List Bool, m.length = n ∧ fget fr 1 = .lst 1 (p.map row) false ∧ fget fr 2 = .ptr 0 t0 0 ∧ fget fr 5 = .ptr 1 (t0 + 1) 0 ∧ fget fr 6 = .int .i64 ((i : Nat) : Int) ∧ fget fr 7 = .int .i64 ((k : Nat) : Int) ∧ fget fr 8 = .sl 2 tw 0 1 n none ∧ σ = ⟨t', rtH t0 n F ++ [some (.arr tw 4 (m.map V.bool))]⟩
theorem rj_rnd {t0 tw t' n i k : Nat} {F p : List (List Int)} (hn : n ≤ 8) {j : Nat} (hj : j < n) {fr : Fr} {σ : H} (hJ : rtjJ t0 tw t' n i k F p j fr σ) :
    W Try.prog G 89 0 (AC.seq (AC.seq (AC.reg proofmarklaw08_RupTrue_r13 [62, 63, 64])   (AC.cond (Arg.t 65)   AC.skip   (AC.exit 4)))   (AC.seq (AC.block 5 (AC.reg proofmarklaw08_RupTrue_r14 [68, 69, 70, 71, 72, 73, 74, 75]))   (AC.reg proofmarklaw08_RupTrue_r15 [66, 67]))) fr σ (seqQ (fun fr σ => ∃ fr' σ', Shift G 89 0 fr σ fr' σ' ∧ rtjJ t0 tw t' n i k F p (j + 1) fr' σ') (rtjE t0 tw t' n i k F p)) := by
  obtain ⟨m, hm, f1, f2, f5, f6, f7, f8, f9, rfl⟩ := hJ
  have e2 := wnext hj (by omega)
  have hput := put_bools (m := m) (k := j) (by omega)
  have hlt : (j : Int) < (n : Int) := by omega
  refine W_round [(1, .lst 1 (p.map row) false), (2, .ptr 0 t0 0), (5, .ptr 1 (t0 + 1) 0), (6, .int .i64 ((i : Nat) : Int)), (7, .int .i64 ((k : Nat) : Int)), (8, .sl 2 tw 0 1 n none), (9, .int .i64 ((j : Nat) : Int))] ⟨f1, f2, f5, f6, f7, f8, f9, trivial⟩  1000 ?_
  simp -implicitDefEqProofs (disch := omega) only [go_sem, need_of, ↓reduceIte, Nat.reduceAdd, Nat.reduceEqDiff, Nat.reduceLeDiff, Nat.zero_add, Nat.add_zero, Nat.mul_one, decide_true, Bool.not_false, Nat.zero_le, proofmarklaw08_RupTrue_r13, proofmarklaw08_RupTrue_r14, proofmarklaw08_RupTrue_r15, rtH, List.length_map, true_implies, true_and, and_true, Bool.not_false, List.cons_append, List.nil_append, hlt, hm, hput]
  exact ⟨_, _, Shift.refl _ _ _ _, m.set j (andI IntKind.i64 (Int.fdiv (k : Int) (2 ^ min j 64)) 1 == 1), by simp [hm], rfl, rfl, rfl, rfl, rfl, rfl, by rw [e2]; rfl, rfl⟩
abbrev rtkJ (t0 n i : Nat) (F p : List (List Int)) : Nat → Fr → H → Prop := fun k fr σ => ∃ t', fget fr 1 = .lst 1 (p.map row) false ∧ fget fr 2 = .ptr 0 t0 0 ∧ fget fr 5 = .ptr 1 (t0 + 1) 0 ∧ fget fr 6 = .int .i64 ((i : Nat) : Int) ∧ fget fr 7 = .int .i64 ((k : Nat) : Int) ∧ σ = ⟨t', rtH t0 n F⟩
abbrev rtkE (t0 n i : Nat) (F p : List (List Int)) : AE → Fr → H → Prop := fun e fr σ => e = .ex 2 ∧ ∃ t', fget fr 1 = .lst 1 (p.map row) false ∧ fget fr 2 = .ptr 0 t0 0 ∧ fget fr 5 = .ptr 1 (t0 + 1) 0 ∧ fget fr 6 = .int .i64 ((i : Nat) : Int) ∧ σ = ⟨t', rtH t0 n F⟩
set_option maxHeartbeats 1000000 in
theorem rk_rnd (hT : TabOk Try.prog tab) {t0 n i : Nat} {F p : List (List Int)} {c : List Int} (hn : n ≤ 8) (hF : F.length ≤ 1000) (hc : ∀ c ∈ F, c.length ≤ 1000) (hci : p[i]? = some c) (hpl : p.length ≤ 1000) (hcl : c.length ≤ 1000) (hfo : follows n F c = true) {k : Nat} (hk : k < 2 ^ n) {fr : Fr} {σ : H} (hJ : rtkJ t0 n i F p k fr σ) :
    W Try.prog G 89 0 (AC.seq (AC.seq (AC.reg proofmarklaw08_RupTrue_r10 [52, 53, 54, 55])   (AC.cond (Arg.t 56)   AC.skip   (AC.exit 2)))   (AC.seq (AC.block 3 (AC.seq (AC.reg proofmarklaw08_RupTrue_r11 [59, 60, 61])   (AC.seq (AC.seq (AC.reg proofmarklaw08_RupTrue_r12 [])   (AC.block 4 (AC.loop (AC.seq (AC.seq (AC.reg proofmarklaw08_RupTrue_r13 [62, 63, 64])   (AC.cond (Arg.t 65)   AC.skip   (AC.exit 4)))   (AC.seq (AC.block 5 (AC.reg proofmarklaw08_RupTrue_r14 [68, 69, 70, 71, 72, 73, 74, 75]))   (AC.reg proofmarklaw08_RupTrue_r15 [66, 67]))))))   (AC.seq (AC.reg proofmarklaw08_RupTrue_r16 [76, 77, 78, 79, 80, 81, 82, 83, 84, 85, 86])   (AC.cond (Arg.t 87)   (AC.seq (AC.reg proofmarklaw08_RupTrue_r17 [])   AC.ret)   AC.skip)))))   (AC.reg proofmarklaw08_RupTrue_r18 [57, 58]))) fr σ (seqQ (fun fr σ => ∃ fr' σ', Shift G 89 0 fr σ fr' σ' ∧ rtkJ t0 n i F p (k + 1) fr' σ') (rtkE t0 n i F p)) := by
  obtain ⟨t', f1, f2, f5, f6, f7, rfl⟩ := hJ
  obtain ⟨hlti, hD, _⟩ := at_rows hci (by omega)
  have hp := pow8 n (by omega)
  have e2 := wnext hk (by omega)
  have hlt : (k : Int) < ((2 ^ n : Nat) : Int) := by omega
  have hrep : (List.replicate n [V.bool false]).flatten = (List.replicate n false).map V.bool := by
    clear hk e2 hlt hp hn hfo f6 f7
    induction n with
    | zero => rfl
    | succ n ih => rw [List.replicate_succ, List.flatten_cons, ih, List.replicate_succ]; rfl
  have hs := shl1 n (by omega)
  generalize 2 ^ n = z at *
  refine W_round [(1, .lst 1 (p.map row) false), (2, .ptr 0 t0 0), (5, .ptr 1 (t0 + 1) 0), (6, .int .i64 ((i : Nat) : Int)), (7, .int .i64 ((k : Nat) : Int))] ⟨f1, f2, f5, f6, f7, trivial⟩  1000 ?_
  simp -implicitDefEqProofs (disch := omega) only [go_sem, need_of, ↓reduceIte, Nat.reduceAdd, Nat.reduceEqDiff, Nat.reduceLeDiff, Nat.zero_add, Nat.add_zero, decide_true, Nat.le_refl, proofmarklaw08_RupTrue_r10, proofmarklaw08_RupTrue_r11, proofmarklaw08_RupTrue_r12, proofmarklaw08_RupTrue_r13, proofmarklaw08_RupTrue_r14, proofmarklaw08_RupTrue_r15, proofmarklaw08_RupTrue_r16, proofmarklaw08_RupTrue_r17, proofmarklaw08_RupTrue_r18, rtH, true_implies, true_and, and_true, List.cons_append, List.nil_append, hs, hlt, hrep]
  refine sem_upto n (rtjJ t0 t' (t' + 1) n i k F p) (rtjE t0 t' (t' + 1) n i k F p) ⟨List.replicate n false, by simp, rfl, rfl, rfl, rfl, rfl, rfl, rfl, rfl⟩ (fun k hk fr σ hJ => rj_rnd hn hk hJ) (fun j hj fr σ hJ => ?_) (fun e fr σ hE => ?_)
  · obtain ⟨m, hm, f1, f2, f5, f6, f7, f8, f9, rfl⟩ := hJ
    refine W_round [(1, .lst 1 (p.map row) false), (2, .ptr 0 t0 0), (5, .ptr 1 (t0 + 1) 0), (6, .int .i64 ((i : Nat) : Int)), (7, .int .i64 ((k : Nat) : Int)), (8, .sl 2 t' 0 1 n none), (9, .int .i64 ((j : Nat) : Int))] ⟨f1, f2, f5, f6, f7, f8, f9, trivial⟩ 1000 ?_
    simp -implicitDefEqProofs (disch := omega) only [go_sem, ↓reduceIte, Nat.reduceAdd, Nat.reduceEqDiff, Nat.reduceLeDiff, Nat.zero_add, Nat.add_zero, decide_false, rtH, true_implies, and_true, List.cons_append, List.nil_append, hj, Int.lt_irrefl]
    exact ⟨rfl, m, hm, rfl, rfl, rfl, rfl, rfl, rfl, rfl⟩
  · obtain ⟨rfl, m, hm, f1, f2, f5, f6, f7, f8, rfl⟩ := hE
    have hH := c_rHolds (P := Try.prog) (G := G) hT n F m (by omega) (fun c h => by have := hc c h; omega) (by omega)
    have hcr := (follows_iff.1 hfo).2.1
    have hC := c_rClause (P := Try.prog) (G := G) hT c m (fun x hx => by have := hcr x hx; omega) (by omega) (by omega)
    simp only [fml, rows, bools, row] at hH hC
    have hV : ∀ (o : List (Option Ob)) (k w T : Nat), o[k]? = some (some (.arr w T (m.map V.bool))) → Seen o (.sl k w 0 1 n none) (.lst 1 (m.map V.bool) false) := fun o k w T h => by
      rw [← hm]; exact seen_bools h
    refine sem_exit [(1, .lst 1 (p.map row) false), (2, .ptr 0 t0 0), (5, .ptr 1 (t0 + 1) 0), (6, .int .i64 ((i : Nat) : Int)), (7, .int .i64 ((k : Nat) : Int)), (8, .sl 2 t' 0 1 n none)] ⟨f1, f2, f5, f6, f7, f8, trivial⟩ 4 ?_
    simp -implicitDefEqProofs (disch := omega) only [go_sem, ↓reduceIte, reduceCtorEq, Nat.reduceAdd, Nat.reduceEqDiff, Nat.zero_add, Nat.le_refl, rtH, false_implies, and_true, List.cons_append, List.nil_append]
    iterate 9 (try (refine run_sem 4 ?_; simp -implicitDefEqProofs (disch := omega) only [go_sem, ↓reduceIte, Nat.reduceEqDiff]))
    refine callView hT t_proofmarkref05_Holds hH (.cons _ _ _ _ (.same _ (by simp [nameless, namelessL])) (.cons _ _ _ _ (hV _ _ _ _ rfl) .nil)) rfl 4 ?_
    cases hh : holdsS n F m with
    | false =>
      simp -implicitDefEqProofs (disch := omega) only [go_sem, ↓reduceIte, Nat.reduceEqDiff]
      iterate 9 (try (refine run_sem 4 ?_; simp -implicitDefEqProofs (disch := omega) only [go_sem, ↓reduceIte, Nat.reduceEqDiff]))
      refine ⟨_, _, Shift.drop (o' := rtH t0 n F) (t' := t' + 1) (by simp [subObs, rtH]) (Nat.le_refl _) (Nat.zero_le _), t' + 1, ?_⟩
      simp -implicitDefEqProofs (disch := omega) only [go_sem, ↓reduceIte, Nat.reduceEqDiff, rtH, and_true, e2]
    | true =>
      have hcl2 : clauseT m c = true := follows_sound hfo fun d hd => by
        simp only [holdsS, Bool.and_eq_true, List.all_eq_true] at hh
        exact hh.2.2 d hd
      rw [hcl2] at hC
      simp -implicitDefEqProofs (disch := omega) only [go_sem, need_of, ↓reduceIte, Nat.reduceAdd, Nat.reduceEqDiff, Nat.zero_add, List.length_map, and_true]
      iterate 9 (try (refine run_sem 4 ?_; simp -implicitDefEqProofs (disch := omega) only [go_sem, ↓reduceIte, Nat.reduceAdd, Nat.reduceEqDiff, Nat.zero_add, Nat.le_refl, true_implies, and_true, hD]))
      refine callView hT t_proofmarkref05_Clause hC (.cons _ _ _ _ (.same _ (by simp [nameless])) (.cons _ _ _ _ (hV _ _ _ _ rfl) .nil)) rfl 4 ?_
      simp -implicitDefEqProofs (disch := omega) only [go_sem, ↓reduceIte, Nat.reduceAdd, Nat.reduceEqDiff, Bool.not_true, Bool.not_true]
      iterate 9 (try (refine run_sem 4 ?_; simp -implicitDefEqProofs (disch := omega) only [go_sem, ↓reduceIte, Nat.reduceEqDiff]))
      refine ⟨_, _, Shift.drop (o' := rtH t0 n F) (t' := t' + 1) (by simp [subObs, rtH]) (Nat.le_refl _) (Nat.zero_le _), t' + 1, ?_⟩
      simp -implicitDefEqProofs (disch := omega) only [go_sem, ↓reduceIte, Nat.reduceEqDiff, rtH, and_true, e2]
abbrev rtiJ (t0 n : Nat) (F p : List (List Int)) : Nat → Fr → H → Prop := fun i fr σ => ∃ t', fget fr 1 = .lst 1 (p.map row) false ∧ fget fr 2 = .ptr 0 t0 0 ∧ fget fr 5 = .ptr 1 (t0 + 1) 0 ∧ fget fr 6 = .int .i64 ((i : Nat) : Int) ∧ σ = ⟨t', rtH t0 n F⟩
theorem ri_rnd (hT : TabOk Try.prog tab) {t0 n : Nat} {F p : List (List Int)} (hn : n ≤ 8) (hF : F.length ≤ 1000) (hc : ∀ c ∈ F, c.length ≤ 1000) (hpl : p.length ≤ 1000) (hpc : ∀ c ∈ p, c.length ≤ 1000) (hpb : ∀ c ∈ p, ∀ n ∈ c, -9223372036854775808 ≤ n ∧ n ≤ 9223372036854775807) {i : Nat} {c : List Int} (hci : p[i]? = some c) {fr : Fr} {σ : H} (hJ : rtiJ t0 n F p i fr σ) :
    W Try.prog G 89 0 (AC.seq (AC.seq (AC.reg proofmarklaw08_RupTrue_r7 [39, 40, 41])   (AC.cond (Arg.t 42)   AC.skip   (AC.exit 0)))   (AC.seq (AC.block 1 (AC.seq (AC.seq (AC.reg proofmarklaw08_RupTrue_r8 [45, 46, 47, 48, 49, 50])   (AC.cond (Arg.t 51)   (AC.exit 1)   AC.skip))   (AC.seq (AC.reg proofmarklaw08_RupTrue_r9 [])   (AC.block 2 (AC.loop (AC.seq (AC.seq (AC.reg proofmarklaw08_RupTrue_r10 [52, 53, 54, 55])   (AC.cond (Arg.t 56)   AC.skip   (AC.exit 2)))   (AC.seq (AC.block 3 (AC.seq (AC.reg proofmarklaw08_RupTrue_r11 [59, 60, 61])   (AC.seq (AC.seq (AC.reg proofmarklaw08_RupTrue_r12 [])   (AC.block 4 (AC.loop (AC.seq (AC.seq (AC.reg proofmarklaw08_RupTrue_r13 [62, 63, 64])   (AC.cond (Arg.t 65)   AC.skip   (AC.exit 4)))   (AC.seq (AC.block 5 (AC.reg proofmarklaw08_RupTrue_r14 [68, 69, 70, 71, 72, 73, 74, 75]))   (AC.reg proofmarklaw08_RupTrue_r15 [66, 67]))))))   (AC.seq (AC.reg proofmarklaw08_RupTrue_r16 [76, 77, 78, 79, 80, 81, 82, 83, 84, 85, 86])   (AC.cond (Arg.t 87)   (AC.seq (AC.reg proofmarklaw08_RupTrue_r17 [])   AC.ret)   AC.skip)))))   (AC.reg proofmarklaw08_RupTrue_r18 [57, 58]))))))))   (AC.reg proofmarklaw08_RupTrue_r19 [43, 44]))) fr σ (seqQ (fun fr σ => ∃ fr' σ', Shift G 89 0 fr σ fr' σ' ∧ rtiJ t0 n F p (i + 1) fr' σ') fun e _ _ => e = .ex 0) := by
  obtain ⟨t', f1, f2, f5, f6, rfl⟩ := hJ
  obtain ⟨hlti, hD, e2⟩ := at_rows hci (by omega)
  have hcm := List.mem_of_getElem? hci
  have hFo := c_Follows (G := G) hT n F c hF hc (hpc c hcm) (hpb c hcm)
  simp only [fml, rows, row] at hFo
  refine W_round [(1, .lst 1 (p.map row) false), (2, .ptr 0 t0 0), (5, .ptr 1 (t0 + 1) 0), (6, .int .i64 ((i : Nat) : Int))] ⟨f1, f2, f5, f6, trivial⟩  1000 ?_
  simp -implicitDefEqProofs (disch := omega) only [go_sem, need_of, ↓reduceIte, reduceCtorEq, Nat.reduceAdd, Nat.reduceEqDiff, Nat.zero_add, decide_true, Nat.le_refl, proofmarklaw08_RupTrue_r7, proofmarklaw08_RupTrue_r8, proofmarklaw08_RupTrue_r9, proofmarklaw08_RupTrue_r10, proofmarklaw08_RupTrue_r11, proofmarklaw08_RupTrue_r12, proofmarklaw08_RupTrue_r13, proofmarklaw08_RupTrue_r14, proofmarklaw08_RupTrue_r15, proofmarklaw08_RupTrue_r16, proofmarklaw08_RupTrue_r17, proofmarklaw08_RupTrue_r18, proofmarklaw08_RupTrue_r19, rtH, List.length_map, false_implies, true_implies, and_true, hlti, hD]
  refine callPS hT t_rup_Follows hFo (by simp [namelessL, nameless]) 1000 ?_
  cases hfo : follows n F c with
  | false =>
    simp -implicitDefEqProofs (disch := omega) only [go_sem, ↓reduceIte, Nat.reduceEqDiff, Bool.not_false, Bool.not_false]
    refine ⟨_, _, Shift.refl _ _ _ _, t', ?_⟩
    simp -implicitDefEqProofs (disch := omega) only [go_sem, ↓reduceIte, Nat.reduceEqDiff, rtH, and_true, e2]
  | true =>
    simp -implicitDefEqProofs (disch := omega) only [go_sem, ↓reduceIte, Nat.reduceEqDiff, Bool.not_true, Bool.not_true]
    refine sem_upto (2 ^ n) (rtkJ t0 n i F p) (rtkE t0 n i F p) ⟨t', rfl, rfl, rfl, rfl, rfl, rfl⟩ (fun k hk fr σ hJ => rk_rnd hT hn hF hc hci hpl (hpc c hcm) hfo hk hJ) (fun k hk fr σ hJ => ?_) (fun e fr σ hE => ?_)
    · obtain ⟨t', f1, f2, f5, f6, f7, rfl⟩ := hJ
      have hs := shl1 n (by omega)
      rw [← hk] at hs
      refine W_round [(1, .lst 1 (p.map row) false), (2, .ptr 0 t0 0), (5, .ptr 1 (t0 + 1) 0), (6, .int .i64 ((i : Nat) : Int)), (7, .int .i64 ((k : Nat) : Int))] ⟨f1, f2, f5, f6, f7, trivial⟩  1000 ?_
      simp -implicitDefEqProofs (disch := omega) only [go_sem, need_of, ↓reduceIte, Nat.reduceAdd, Nat.reduceEqDiff, Nat.reduceLeDiff, Nat.zero_add, Nat.add_zero, decide_false, rtH, true_implies, and_true, hs, Int.lt_irrefl]
      exact ⟨rfl, t', rfl, rfl, rfl, rfl, rfl⟩
    · obtain ⟨rfl, t', f1, f2, f5, f6, rfl⟩ := hE
      refine sem_exit2 [(1, .lst 1 (p.map row) false), (2, .ptr 0 t0 0), (5, .ptr 1 (t0 + 1) 0), (6, .int .i64 ((i : Nat) : Int))] ⟨f1, f2, f5, f6, trivial⟩  1000 ?_
      simp -implicitDefEqProofs (disch := omega) only [go_sem, ↓reduceIte, Nat.reduceEqDiff, rtH]
      refine ⟨_, _, Shift.refl _ _ _ _, t', ?_⟩
      simp -implicitDefEqProofs (disch := omega) only [go_sem, ↓reduceIte, Nat.reduceEqDiff, rtH, and_true, e2]
set_option maxHeartbeats 1000000 in
theorem c_RupTrue (hT : TabOk Try.prog tab) (v : Int) (F p : List (List Int)) (hF : F.length ≤ 9223372036854775807) (hFc : ∀ c ∈ F, c.length ≤ 9223372036854775807) (hp : p.length ≤ 9223372036854775807) (hpc : ∀ c ∈ p, c.length ≤ 9223372036854775807)
    (hpb : ∀ c ∈ p, ∀ n ∈ c, -9223372036854775808 ≤ n ∧ n ≤ 9223372036854775807) : Pure Try.prog G n_proofmarklaw08_RupTrue [fml v F, rows p] fun u => u = .bool true := by
  have hW := c_works (G := G) hT
  have hf1 := c_few (G := G) hT F 30 (by omega) hF hFc
  have hf2 := c_few (G := G) hT p 12 (by omega) hp hpc
  have hR := c_Right (P := Try.prog) (G := G) hT v F hF hFc
  simp only [fml, rows] at hf1 hf2 hR ⊢
  intro t
  refine C_keep 0 (Nat.zero_le _) (C_tab hT t_proofmarklaw08_RupTrue (by simp [proofmarklaw08_RupTrue]) (W_run 1000 ?_))
  simp -implicitDefEqProofs (disch := omega) only [go_sem, ↓reduceIte, reduceCtorEq, Nat.reduceAdd, Nat.reduceEqDiff, Nat.zero_add, Nat.le_refl, proofmarklaw08_RupTrue, proofmarklaw08_RupTrue_r0, proofmarklaw08_RupTrue_r1, proofmarklaw08_RupTrue_r2, proofmarklaw08_RupTrue_r3, proofmarklaw08_RupTrue_r4, proofmarklaw08_RupTrue_r5, proofmarklaw08_RupTrue_r6, proofmarklaw08_RupTrue_r7, proofmarklaw08_RupTrue_r8, proofmarklaw08_RupTrue_r9, proofmarklaw08_RupTrue_r10, proofmarklaw08_RupTrue_r11, proofmarklaw08_RupTrue_r12, proofmarklaw08_RupTrue_r13, proofmarklaw08_RupTrue_r14, proofmarklaw08_RupTrue_r15, proofmarklaw08_RupTrue_r16, proofmarklaw08_RupTrue_r17, proofmarklaw08_RupTrue_r18, proofmarklaw08_RupTrue_r19, proofmarklaw08_RupTrue_r20, true_implies, and_true, List.nil_append]
  refine callPS hT t_proofmarklaw08_few hf1 (by simp [namelessL, nameless]) 4 ?_
  cases h1 : fewS F 30 with
  | false =>
    simp -implicitDefEqProofs (disch := omega) only [go_sem, ↓reduceIte, reduceCtorEq, Nat.reduceEqDiff, Bool.not_false, Bool.not_false]
    iterate 9 (try (refine run_sem 4 ?_; simp -implicitDefEqProofs (disch := omega) only [go_sem, ↓reduceIte, reduceCtorEq, Nat.reduceEqDiff]))
    refine callPS hT t_proofmarklaw08_works hW rfl 4 ?_
    simp -implicitDefEqProofs (disch := omega) only [go_sem, ↓reduceIte, reduceCtorEq, Nat.reduceEqDiff]
    iterate 4 (try (refine run_sem 4 ?_; simp -implicitDefEqProofs (disch := omega) only [go_sem, ↓reduceIte, reduceCtorEq, Nat.reduceEqDiff, Nat.zero_add, Nat.zero_le, and_true]))
  | true =>
    simp -implicitDefEqProofs (disch := omega) only [go_sem, ↓reduceIte, reduceCtorEq, Nat.reduceAdd, Nat.reduceEqDiff, Nat.zero_add, Bool.not_true, Bool.not_true]
    iterate 9 (try (refine run_sem 4 ?_; simp -implicitDefEqProofs (disch := omega) only [go_sem, need_of, ↓reduceIte, reduceCtorEq, Nat.reduceAdd, Nat.reduceEqDiff, Nat.reduceLeDiff, Nat.reduceLT, Nat.reduceSub, Nat.reduceMul, Int.reduceToNat, Int.reduceLE, Int.reduceLT, Int.reduceEq, Int.reduceNe, Nat.succ_ne_zero, Nat.zero_add, Nat.add_zero, Nat.mul_one, Nat.one_mul, Nat.zero_mul, decide_true, decide_false, Bool.not_true, Bool.not_false, Nat.le_refl, Nat.zero_le, ge_iff_le, gt_iff_lt, Nat.reduceBEq, Nat.reduceBNe, beq_self_eq_true, bne_self_eq_false, Option.isSome_some, Option.isSome_none, Option.getD_some, Option.getD_none, proofmarklaw08_RupTrue, proofmarklaw08_RupTrue_r0, proofmarklaw08_RupTrue_r1, proofmarklaw08_RupTrue_r2, proofmarklaw08_RupTrue_r3, proofmarklaw08_RupTrue_r4, proofmarklaw08_RupTrue_r5, proofmarklaw08_RupTrue_r6, proofmarklaw08_RupTrue_r7, proofmarklaw08_RupTrue_r8, proofmarklaw08_RupTrue_r9, proofmarklaw08_RupTrue_r10, proofmarklaw08_RupTrue_r11, proofmarklaw08_RupTrue_r12, proofmarklaw08_RupTrue_r13, proofmarklaw08_RupTrue_r14, proofmarklaw08_RupTrue_r15, proofmarklaw08_RupTrue_r16, proofmarklaw08_RupTrue_r17, proofmarklaw08_RupTrue_r18, proofmarklaw08_RupTrue_r19, proofmarklaw08_RupTrue_r20, rtH, List.length_map, ints_length, false_implies, true_implies, true_and, and_true, not_true_eq_false, not_false_eq_true, Bool.not_true, Bool.not_false, List.cons_append, List.nil_append]))
    refine callPS hT t_proofmarklaw08_few hf2 (by simp [namelessL, nameless]) 4 ?_
    cases h2 : fewS p 12 with
    | false =>
      simp -implicitDefEqProofs (disch := omega) only [go_sem, ↓reduceIte, reduceCtorEq, Nat.reduceAdd, Nat.reduceEqDiff, Bool.not_false, Bool.not_false]
      iterate 9 (try (refine run_sem 4 ?_; simp -implicitDefEqProofs (disch := omega) only [go_sem, ↓reduceIte, reduceCtorEq, Nat.reduceEqDiff]))
      refine callPS hT t_proofmarklaw08_works hW rfl 4 ?_
      simp -implicitDefEqProofs (disch := omega) only [go_sem, ↓reduceIte, reduceCtorEq, Nat.reduceEqDiff]
      iterate 4 (try (refine run_sem 4 ?_; simp -implicitDefEqProofs (disch := omega) only [go_sem, ↓reduceIte, reduceCtorEq, Nat.reduceEqDiff, Nat.zero_add, Nat.zero_le, and_true]))
    | true =>
      by_cases h3 : 8 < v
      · simp -implicitDefEqProofs (disch := omega) only [go_sem, ↓reduceIte, reduceCtorEq, Nat.reduceAdd, Nat.reduceEqDiff, Nat.zero_add, Nat.add_zero, Bool.not_true, Bool.not_true]
        iterate 9 (try (refine run_sem 4 ?_; simp -implicitDefEqProofs (disch := omega) only [go_sem, ↓reduceIte, reduceCtorEq, Nat.reduceAdd, Nat.reduceEqDiff, Nat.reduceLeDiff, Nat.zero_add, decide_true, gt_iff_lt, true_implies, and_true, h3]))
        refine callPS hT t_proofmarklaw08_works hW rfl 4 ?_
        simp -implicitDefEqProofs (disch := omega) only [go_sem, ↓reduceIte, reduceCtorEq, Nat.reduceEqDiff]
        iterate 4 (try (refine run_sem 4 ?_; simp -implicitDefEqProofs (disch := omega) only [go_sem, ↓reduceIte, reduceCtorEq, Nat.reduceEqDiff, Nat.zero_add, Nat.zero_le, and_true]))
      · obtain ⟨hF30, hF20⟩ := few_le (k := 30) h1
        obtain ⟨hp10, hp20⟩ := few_le (k := 12) h2
        simp -implicitDefEqProofs (disch := omega) only [go_sem, ↓reduceIte, reduceCtorEq, Nat.reduceAdd, Nat.reduceEqDiff, Nat.zero_add, Nat.add_zero, Bool.not_true, Bool.not_true]
        iterate 9 (try (refine run_sem 4 ?_; simp -implicitDefEqProofs (disch := omega) only [go_sem, ↓reduceIte, reduceCtorEq, Nat.reduceAdd, Nat.reduceEqDiff, Nat.reduceLeDiff, Nat.zero_add, decide_false, Nat.le_refl, gt_iff_lt, false_implies, true_implies, and_true, h3]))
        refine callPS hT t_clause_Right hR (by simp [namelessL, nameless]) 4 ?_
        cases h4 : right v F with
        | false =>
          simp -implicitDefEqProofs (disch := omega) only [go_sem, ↓reduceIte, reduceCtorEq, Nat.reduceAdd, Nat.reduceEqDiff, Bool.not_false, Bool.not_false]
          iterate 9 (try (refine run_sem 4 ?_; simp -implicitDefEqProofs (disch := omega) only [go_sem, ↓reduceIte]))
          refine callPS hT t_proofmarklaw08_works hW rfl 4 ?_
          simp -implicitDefEqProofs (disch := omega) only [go_sem, ↓reduceIte, reduceCtorEq, Nat.reduceEqDiff]
          iterate 4 (try (refine run_sem 4 ?_; simp -implicitDefEqProofs (disch := omega) only [go_sem, ↓reduceIte, reduceCtorEq, Nat.reduceEqDiff, Nat.zero_add, Nat.zero_le, and_true]))
        | true =>
          have hF1000 : ∀ c ∈ F, c.length ≤ 1000 := fun c h => by have := hF20 c h; omega
          have hp1000 : ∀ c ∈ p, c.length ≤ 1000 := fun c h => by have := hp20 c h; omega
          obtain ⟨n, rfl⟩ := Int.eq_ofNat_of_zero_le (show 0 ≤ v from (right_iff.1 h4).1.1)
          have hn : n ≤ 8 := by omega
          have hPl := c_plain (P := Try.prog) (G := G) hT n F
          have hCk := c_Check (G := G) hT n F p (by omega) hF1000 hp1000 hpb
          have hMo := c_Model (P := Try.prog) (G := G) hT n F hn (by omega) hF1000
          simp only [fml, rows] at hPl hCk hMo
          have htail : ∀ {fr : Fr}, fget fr 1 = .lst 1 (p.map row) false → fget fr 2 = .ptr 0 t 0 → fget fr 5 = .ptr 1 (t + 1) 0 → fget fr 6 = .int .i64 0 → ∀ {t'}, ∀ {s : List KI} {Q : AE → Fr → H → Prop}, (∀ fr σ, sem Try.prog G 89 0 Q s (.ex 0) fr σ) → sem Try.prog G 89 0 Q (.ac (.loop (AC.seq (AC.seq (AC.reg proofmarklaw08_RupTrue_r7 [39, 40, 41])   (AC.cond (Arg.t 42)   AC.skip   (AC.exit 0)))   (AC.seq (AC.block 1 (AC.seq (AC.seq (AC.reg proofmarklaw08_RupTrue_r8 [45, 46, 47, 48, 49, 50])   (AC.cond (Arg.t 51)   (AC.exit 1)   AC.skip))   (AC.seq (AC.reg proofmarklaw08_RupTrue_r9 [])   (AC.block 2 (AC.loop (AC.seq (AC.seq (AC.reg proofmarklaw08_RupTrue_r10 [52, 53, 54, 55])   (AC.cond (Arg.t 56)   AC.skip   (AC.exit 2)))   (AC.seq (AC.block 3 (AC.seq (AC.reg proofmarklaw08_RupTrue_r11 [59, 60, 61])   (AC.seq (AC.seq (AC.reg proofmarklaw08_RupTrue_r12 [])   (AC.block 4 (AC.loop (AC.seq (AC.seq (AC.reg proofmarklaw08_RupTrue_r13 [62, 63, 64])   (AC.cond (Arg.t 65)   AC.skip   (AC.exit 4)))   (AC.seq (AC.block 5 (AC.reg proofmarklaw08_RupTrue_r14 [68, 69, 70, 71, 72, 73, 74, 75]))   (AC.reg proofmarklaw08_RupTrue_r15 [66, 67]))))))   (AC.seq (AC.reg proofmarklaw08_RupTrue_r16 [76, 77, 78, 79, 80, 81, 82, 83, 84, 85, 86])   (AC.cond (Arg.t 87)   (AC.seq (AC.reg proofmarklaw08_RupTrue_r17 [])   AC.ret)   AC.skip)))))   (AC.reg proofmarklaw08_RupTrue_r18 [57, 58]))))))))   (AC.reg proofmarklaw08_RupTrue_r19 [43, 44])))) :: s) .nrm fr ⟨t', rtH t n F⟩ := by
            intro fr f1 f2 f5 f6 t' s Q k
            refine sem_for p (rtiJ t n F p) (fun e _ _ => e = .ex 0) ⟨t', f1, f2, f5, by simpa using f6, rfl⟩ (fun i c hci fr σ hJ => ri_rnd hT hn (by omega) hF1000 (by omega) hp1000 hpb hci hJ) (fun i hi fr σ hJ => ?_) (fun e fr σ hE => ?_)
            · obtain ⟨t', f1, f2, f5, f6, rfl⟩ := hJ
              refine W_round [(1, .lst 1 (p.map row) false), (6, .int .i64 ((i : Nat) : Int))] ⟨f1, f6, trivial⟩ 1000 ?_
              simp -implicitDefEqProofs (disch := omega) only [go_sem, ↓reduceIte, Nat.reduceEqDiff, decide_false, proofmarklaw08_RupTrue_r7, proofmarklaw08_RupTrue_r8, proofmarklaw08_RupTrue_r9, proofmarklaw08_RupTrue_r10, proofmarklaw08_RupTrue_r11, proofmarklaw08_RupTrue_r12, proofmarklaw08_RupTrue_r13, proofmarklaw08_RupTrue_r14, proofmarklaw08_RupTrue_r15, proofmarklaw08_RupTrue_r16, proofmarklaw08_RupTrue_r17, proofmarklaw08_RupTrue_r18, proofmarklaw08_RupTrue_r19, rtH, List.length_map, hi, Int.lt_irrefl]
            · obtain rfl := hE
              exact k _ _
          simp -implicitDefEqProofs (disch := omega) only [go_sem, ↓reduceIte, reduceCtorEq, Nat.reduceAdd, Nat.reduceEqDiff, Bool.not_true, Bool.not_true]
          iterate 9 (try (refine run_sem 4 ?_; simp -implicitDefEqProofs (disch := omega) only [go_sem, ↓reduceIte, reduceCtorEq, Nat.reduceAdd, Nat.reduceEqDiff, Nat.zero_add, Nat.le_refl, false_implies, and_true]))
          refine callPS hT t_proofmarklaw08_plain hPl (by simp [namelessL, nameless]) 4 ?_
          simp -implicitDefEqProofs (disch := omega) only [go_sem, ↓reduceIte, reduceCtorEq, Nat.reduceAdd, Nat.reduceEqDiff, Nat.zero_add, Bool.not_false, Nat.le_refl, Nat.zero_le, and_true, Bool.not_false, List.cons_append, List.nil_append]
          iterate 9 (try (refine run_sem 4 ?_; simp -implicitDefEqProofs (disch := omega) only [go_sem, ↓reduceIte, reduceCtorEq, Nat.reduceAdd, Nat.reduceEqDiff, Nat.zero_add, Nat.le_refl, false_implies, and_true]))
          refine callPS hT t_rup_Check hCk (by simp [namelessL, nameless]) 4 ?_
          cases h5 : checkS n F p with
          | false =>
            simp -implicitDefEqProofs (disch := omega) only [go_sem, ↓reduceIte, reduceCtorEq, Nat.reduceEqDiff]
            iterate 9 (try (refine run_sem 4 ?_; simp -implicitDefEqProofs (disch := omega) only [go_sem, ↓reduceIte, reduceCtorEq, Nat.reduceEqDiff]))
            refine htail rfl rfl rfl rfl fun fr σ => ?_
            refine run_sem 4 ?_
            simp -implicitDefEqProofs (disch := omega) only [go_sem, ↓reduceIte]
            iterate 4 (try (refine run_sem 4 ?_; simp -implicitDefEqProofs (disch := omega) only [go_sem, need_of, ↓reduceIte, reduceCtorEq, Nat.reduceAdd, Nat.reduceEqDiff, Nat.reduceLeDiff, Nat.reduceLT, Nat.reduceSub, Nat.reduceMul, Int.reduceToNat, Int.reduceLE, Int.reduceLT, Int.reduceEq, Int.reduceNe, Nat.succ_ne_zero, Nat.zero_add, Nat.add_zero, Nat.mul_one, Nat.one_mul, Nat.zero_mul, decide_true, decide_false, Bool.not_true, Bool.not_false, Nat.le_refl, Nat.zero_le, ge_iff_le, gt_iff_lt, Nat.reduceBEq, Nat.reduceBNe, beq_self_eq_true, bne_self_eq_false, Option.isSome_some, Option.isSome_none, Option.getD_some, Option.getD_none, proofmarklaw08_RupTrue, proofmarklaw08_RupTrue_r0, proofmarklaw08_RupTrue_r1, proofmarklaw08_RupTrue_r2, proofmarklaw08_RupTrue_r3, proofmarklaw08_RupTrue_r4, proofmarklaw08_RupTrue_r5, proofmarklaw08_RupTrue_r6, proofmarklaw08_RupTrue_r7, proofmarklaw08_RupTrue_r8, proofmarklaw08_RupTrue_r9, proofmarklaw08_RupTrue_r10, proofmarklaw08_RupTrue_r11, proofmarklaw08_RupTrue_r12, proofmarklaw08_RupTrue_r13, proofmarklaw08_RupTrue_r14, proofmarklaw08_RupTrue_r15, proofmarklaw08_RupTrue_r16, proofmarklaw08_RupTrue_r17, proofmarklaw08_RupTrue_r18, proofmarklaw08_RupTrue_r19, proofmarklaw08_RupTrue_r20, rtH, List.length_map, ints_length, false_implies, true_implies, true_and, and_true, not_true_eq_false, not_false_eq_true, Bool.not_true, Bool.not_false, List.cons_append, List.nil_append]))
            refine callPS hT t_proofmarklaw08_works hW rfl 4 ?_
            simp -implicitDefEqProofs (disch := omega) only [go_sem, ↓reduceIte, Nat.reduceEqDiff, Nat.zero_le, and_true]
            iterate 4 (try (refine run_sem 4 ?_; simp -implicitDefEqProofs (disch := omega) only [go_sem, need_of, ↓reduceIte, reduceCtorEq, Nat.reduceAdd, Nat.reduceEqDiff, Nat.reduceLeDiff, Nat.reduceLT, Nat.reduceSub, Nat.reduceMul, Int.reduceToNat, Int.reduceLE, Int.reduceLT, Int.reduceEq, Int.reduceNe, Nat.succ_ne_zero, Nat.zero_add, Nat.add_zero, Nat.mul_one, Nat.one_mul, Nat.zero_mul, decide_true, decide_false, Bool.not_true, Bool.not_false, Nat.le_refl, Nat.zero_le, ge_iff_le, gt_iff_lt, Nat.reduceBEq, Nat.reduceBNe, beq_self_eq_true, bne_self_eq_false, Option.isSome_some, Option.isSome_none, Option.getD_some, Option.getD_none, proofmarklaw08_RupTrue, proofmarklaw08_RupTrue_r0, proofmarklaw08_RupTrue_r1, proofmarklaw08_RupTrue_r2, proofmarklaw08_RupTrue_r3, proofmarklaw08_RupTrue_r4, proofmarklaw08_RupTrue_r5, proofmarklaw08_RupTrue_r6, proofmarklaw08_RupTrue_r7, proofmarklaw08_RupTrue_r8, proofmarklaw08_RupTrue_r9, proofmarklaw08_RupTrue_r10, proofmarklaw08_RupTrue_r11, proofmarklaw08_RupTrue_r12, proofmarklaw08_RupTrue_r13, proofmarklaw08_RupTrue_r14, proofmarklaw08_RupTrue_r15, proofmarklaw08_RupTrue_r16, proofmarklaw08_RupTrue_r17, proofmarklaw08_RupTrue_r18, proofmarklaw08_RupTrue_r19, proofmarklaw08_RupTrue_r20, rtH, List.length_map, ints_length, false_implies, true_implies, true_and, and_true, not_true_eq_false, not_false_eq_true, Bool.not_true, Bool.not_false, List.cons_append, List.nil_append]))
          | true =>
            simp -implicitDefEqProofs (disch := omega) only [go_sem, ↓reduceIte, reduceCtorEq, Nat.reduceAdd, Nat.reduceEqDiff, Nat.zero_add, Nat.le_refl, false_implies, and_true]
            iterate 9 (try (refine run_sem 4 ?_; simp -implicitDefEqProofs (disch := omega) only [go_sem, need_of, ↓reduceIte, reduceCtorEq, Nat.reduceAdd, Nat.reduceEqDiff, Nat.reduceLeDiff, Nat.reduceLT, Nat.reduceSub, Nat.reduceMul, Int.reduceToNat, Int.reduceLE, Int.reduceLT, Int.reduceEq, Int.reduceNe, Nat.succ_ne_zero, Nat.zero_add, Nat.add_zero, Nat.mul_one, Nat.one_mul, Nat.zero_mul, decide_true, decide_false, Bool.not_true, Bool.not_false, Nat.le_refl, Nat.zero_le, ge_iff_le, gt_iff_lt, Nat.reduceBEq, Nat.reduceBNe, beq_self_eq_true, bne_self_eq_false, Option.isSome_some, Option.isSome_none, Option.getD_some, Option.getD_none, proofmarklaw08_RupTrue, proofmarklaw08_RupTrue_r0, proofmarklaw08_RupTrue_r1, proofmarklaw08_RupTrue_r2, proofmarklaw08_RupTrue_r3, proofmarklaw08_RupTrue_r4, proofmarklaw08_RupTrue_r5, proofmarklaw08_RupTrue_r6, proofmarklaw08_RupTrue_r7, proofmarklaw08_RupTrue_r8, proofmarklaw08_RupTrue_r9, proofmarklaw08_RupTrue_r10, proofmarklaw08_RupTrue_r11, proofmarklaw08_RupTrue_r12, proofmarklaw08_RupTrue_r13, proofmarklaw08_RupTrue_r14, proofmarklaw08_RupTrue_r15, proofmarklaw08_RupTrue_r16, proofmarklaw08_RupTrue_r17, proofmarklaw08_RupTrue_r18, proofmarklaw08_RupTrue_r19, proofmarklaw08_RupTrue_r20, rtH, List.length_map, ints_length, false_implies, true_implies, true_and, and_true, not_true_eq_false, not_false_eq_true, Bool.not_true, Bool.not_false, List.cons_append, List.nil_append]))
            refine callP hT t_proofmarkref07_Model hMo (by simp [namelessL, nameless]) 4 fun u hu => ?_
            rcases hu with rfl | ⟨rfl, m, hm⟩
            · simp -implicitDefEqProofs (disch := omega) only [go_sem, ↓reduceIte, reduceCtorEq, Nat.reduceEqDiff]
              iterate 9 (try (refine run_sem 4 ?_; simp -implicitDefEqProofs (disch := omega) only [go_sem, ↓reduceIte, reduceCtorEq, Nat.reduceEqDiff]))
              refine htail rfl rfl rfl rfl fun fr σ => ?_
              refine run_sem 4 ?_
              simp -implicitDefEqProofs (disch := omega) only [go_sem, ↓reduceIte]
              iterate 4 (try (refine run_sem 4 ?_; simp -implicitDefEqProofs (disch := omega) only [go_sem, need_of, ↓reduceIte, reduceCtorEq, Nat.reduceAdd, Nat.reduceEqDiff, Nat.reduceLeDiff, Nat.reduceLT, Nat.reduceSub, Nat.reduceMul, Int.reduceToNat, Int.reduceLE, Int.reduceLT, Int.reduceEq, Int.reduceNe, Nat.succ_ne_zero, Nat.zero_add, Nat.add_zero, Nat.mul_one, Nat.one_mul, Nat.zero_mul, decide_true, decide_false, Bool.not_true, Bool.not_false, Nat.le_refl, Nat.zero_le, ge_iff_le, gt_iff_lt, Nat.reduceBEq, Nat.reduceBNe, beq_self_eq_true, bne_self_eq_false, Option.isSome_some, Option.isSome_none, Option.getD_some, Option.getD_none, proofmarklaw08_RupTrue, proofmarklaw08_RupTrue_r0, proofmarklaw08_RupTrue_r1, proofmarklaw08_RupTrue_r2, proofmarklaw08_RupTrue_r3, proofmarklaw08_RupTrue_r4, proofmarklaw08_RupTrue_r5, proofmarklaw08_RupTrue_r6, proofmarklaw08_RupTrue_r7, proofmarklaw08_RupTrue_r8, proofmarklaw08_RupTrue_r9, proofmarklaw08_RupTrue_r10, proofmarklaw08_RupTrue_r11, proofmarklaw08_RupTrue_r12, proofmarklaw08_RupTrue_r13, proofmarklaw08_RupTrue_r14, proofmarklaw08_RupTrue_r15, proofmarklaw08_RupTrue_r16, proofmarklaw08_RupTrue_r17, proofmarklaw08_RupTrue_r18, proofmarklaw08_RupTrue_r19, proofmarklaw08_RupTrue_r20, rtH, List.length_map, ints_length, false_implies, true_implies, true_and, and_true, not_true_eq_false, not_false_eq_true, Bool.not_true, Bool.not_false, List.cons_append, List.nil_append]))
              refine callPS hT t_proofmarklaw08_works hW rfl 4 ?_
              simp -implicitDefEqProofs (disch := omega) only [go_sem, ↓reduceIte, Nat.reduceEqDiff, Nat.zero_le, and_true]
              iterate 4 (try (refine run_sem 4 ?_; simp -implicitDefEqProofs (disch := omega) only [go_sem, need_of, ↓reduceIte, reduceCtorEq, Nat.reduceAdd, Nat.reduceEqDiff, Nat.reduceLeDiff, Nat.reduceLT, Nat.reduceSub, Nat.reduceMul, Int.reduceToNat, Int.reduceLE, Int.reduceLT, Int.reduceEq, Int.reduceNe, Nat.succ_ne_zero, Nat.zero_add, Nat.add_zero, Nat.mul_one, Nat.one_mul, Nat.zero_mul, decide_true, decide_false, Bool.not_true, Bool.not_false, Nat.le_refl, Nat.zero_le, ge_iff_le, gt_iff_lt, Nat.reduceBEq, Nat.reduceBNe, beq_self_eq_true, bne_self_eq_false, Option.isSome_some, Option.isSome_none, Option.getD_some, Option.getD_none, proofmarklaw08_RupTrue, proofmarklaw08_RupTrue_r0, proofmarklaw08_RupTrue_r1, proofmarklaw08_RupTrue_r2, proofmarklaw08_RupTrue_r3, proofmarklaw08_RupTrue_r4, proofmarklaw08_RupTrue_r5, proofmarklaw08_RupTrue_r6, proofmarklaw08_RupTrue_r7, proofmarklaw08_RupTrue_r8, proofmarklaw08_RupTrue_r9, proofmarklaw08_RupTrue_r10, proofmarklaw08_RupTrue_r11, proofmarklaw08_RupTrue_r12, proofmarklaw08_RupTrue_r13, proofmarklaw08_RupTrue_r14, proofmarklaw08_RupTrue_r15, proofmarklaw08_RupTrue_r16, proofmarklaw08_RupTrue_r17, proofmarklaw08_RupTrue_r18, proofmarklaw08_RupTrue_r19, proofmarklaw08_RupTrue_r20, rtH, List.length_map, ints_length, false_implies, true_implies, true_and, and_true, not_true_eq_false, not_false_eq_true, Bool.not_true, Bool.not_false, List.cons_append, List.nil_append]))
            · have := check_sound h5 m
              simp [holdsS, this] at hm
end Go.Proofs.Ytingdebioipemaa
