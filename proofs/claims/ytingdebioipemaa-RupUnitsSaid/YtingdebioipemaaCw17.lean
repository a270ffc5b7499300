/- The law RupMore. -/
import Derived.Test.YtingdebioipemaaCw16
import Derived.Test.YtingdebioipemaaClD
namespace Go.Proofs.Ytingdebioipemaa
open Go Go.Am Go.Cl
set_option maxRecDepth 100000
variable {G : Nat → Option V}

theorem seen_ints {o : List (Option Ob)} {k w T : Nat} {c : List Int} (h : o[k]? = some (some (.arr w T (ints c)))) : Seen o (.sl k w 0 1 c.length none) (.lst 1 (ints c) false) := by
  have := Seen.row (o := o) k w 0 1 none T (ints c) (ints c) h (fun j u hj => ?_) (fun _ => rfl)
  · rwa [ints_length] at this
  · have hj' := hj
    simp only [ints, List.getElem?_map, Option.map_eq_some_iff] at hj
    obtain ⟨c, hc, rfl⟩ := hj
    refine ⟨rfl, fun i d hd => ?_⟩
    cases i with
    | zero =>
      simp [V.cells] at hd; subst hd
      refine ⟨?_, by simp [nameless]⟩
      rw [show 0 + j * 1 + 0 = j by omega]; exact hj'
    | succ i => simp [V.cells] at hd
theorem few_le {F : List (List Int)} {k : Nat} (h : fewS F k = true) : F.length ≤ k ∧ ∀ c ∈ F, c.length ≤ 20 := by
  simp only [fewS, Bool.and_eq_true, decide_eq_true_eq, List.all_eq_true] at h
  exact ⟨by omega, fun c hc => h.2 c hc⟩
theorem ints_flat : ∀ c : List Int, ((ints c).map V.cells).flatten = ints c
  | [] => rfl
  | n :: c => by
    have := ints_flat c
    simp only [ints, List.map_cons, List.flatten_cons] at this ⊢
    rw [this]; rfl
def mB (t tw t8 : Nat) (v : Int) (F Gs : List (List Int)) (c : List Int) : List (Option Ob) := [some (.arr t 24 [.int .i64 v, .lst 1 (F.map row) false]), some (.arr (t + 1) 24 [.int .i64 v, .sl 2 tw 0 1 (F.length + Gs.length) none]), some (.arr tw 25 (F.map row ++ Gs.map row)), some (.arr t8 24 [.int .i64 v, .lst 1 [.lst 1 (ints c) false] true])]
abbrev mJ (t tw t8 : Nat) (v : Int) (F Gs : List (List Int)) (c : List Int) : Nat → Fr → H → Prop := fun m fr σ => ∃ i t', i ≤ F.length ∧ m = F.length - i ∧ fget fr 3 = .ptr 0 t 0 ∧ fget fr 8 = .ptr 3 t8 0 ∧ fget fr 2 = .lst 1 (ints c) false ∧ fget fr 9 = .int .i64 ((i : Nat) : Int) ∧ σ = ⟨t', mB t tw t8 v F Gs c⟩
abbrev mE : AE → Fr → H → Prop := fun e _ _ => e = .ex 0
theorem right_mem {v : Int} {c : List Int} (h : right v [c] = true) : ∀ n ∈ c, n ≠ 0 ∧ -v ≤ n ∧ n ≤ v := fun n hn => by
  simp only [right, List.all_cons, List.all_nil, Bool.and_true, Bool.and_eq_true, List.all_eq_true, litOk, decide_eq_true_eq] at h
  exact h.2 n hn
set_option maxHeartbeats 1000000 in
theorem m_round (hT : TabOk Try.prog tab) {t tw t8 : Nat} {v : Int} {F Gs : List (List Int)} {c : List Int} (hF : F.length ≤ 30) (hFc : ∀ c ∈ F, c.length ≤ 20) (hcl : c.length ≤ 20) (hR : right v F = true) (hFb : ∀ c ∈ F, ∀ n ∈ c, -9223372036854775808 ≤ n ∧ n ≤ 9223372036854775807)
    (hb : ∀ n ∈ c, -9223372036854775808 ≤ n ∧ n ≤ 9223372036854775807) {m : Nat} {fr : Fr} {σ : H} (hJ : mJ t tw t8 v F Gs c m fr σ) :
    W Try.prog G 98 0 (AC.seq (AC.seq (AC.reg proofmarklaw08_RupMore_r10 [63, 64, 65, 66])   (AC.cond (Arg.t 67)   AC.skip   (AC.exit 0)))   (AC.seq (AC.block 1 (AC.seq (AC.reg proofmarklaw08_RupMore_r11 [])   (AC.seq (AC.reg proofmarklaw08_RupMore_r12 [70, 71, 72, 73, 74, 75, 76])   (AC.seq (AC.reg proofmarklaw08_RupMore_r13 [77, 78, 79, 80, 81, 82, 83, 84, 85, 86, 87, 88, 89, 90, 91, 92, 93, 94, 95])   (AC.cond (Arg.t 96)   (AC.seq (AC.reg proofmarklaw08_RupMore_r14 [])   AC.ret)   AC.skip)))))   (AC.reg proofmarklaw08_RupMore_r15 [68, 69]))) fr σ (seqQ (fun fr σ => ∃ m' fr' σ', m' < m ∧ Shift G 98 0 fr σ fr' σ' ∧ mJ t tw t8 v F Gs c m' fr' σ') mE) := by
  obtain ⟨i, t', hi, rfl, f3, f8, f2, f9, rfl⟩ := hJ
  rcases Nat.lt_or_ge i F.length with hlt | hge
  · obtain ⟨d, hdi⟩ : ∃ d, F[i]? = some d := ⟨_, List.getElem?_eq_getElem hlt⟩
    have hD := rows_getD hdi
    have hdm := List.mem_of_getElem? hdi
    have e2 := wnext hlt (by omega)
    have hdl := hFc d hdm
    have hdf := ints_flat d
    have hcf := ints_flat c
    have n1 : d.length * 8 ≤ 140737488355328 := by omega
    have n2 : d.length ≤ 9223372036854775807 := by omega
    have n3 : (d.length + c.length) * 8 ≤ 140737488355328 := by omega
    have n4 : d.length + c.length ≤ 9223372036854775807 := by omega
    have hFo := c_Follows (G := G) hT v F d (by omega) (fun c h => by have := hFc c h; omega) (by omega) (hFb d hdm)
    rw [show follows v F d = true by simpa using follows_wide hR hdm [] (by simp)] at hFo
    have hR1 := Pure.args (.cons _ _ _ _ (.agg [.int .i64 v, .lst 1 [.lst 1 (ints c) false] true] _ (.cons _ _ _ _ (.refl _) (.cons _ _ _ _ (.lst 1 1 _ _ true (WkL.refl _) (.inr rfl)) .nil))) .nil) (c_Right (P := Try.prog) (G := G) hT v [c] (by simp) (by simp; omega))
    simp only [fml, rows, row] at hFo hR1
    refine W_round [(3, .ptr 0 t 0), (8, .ptr 3 t8 0), (2, .lst 1 (ints c) false), (9, .int .i64 ((i : Nat) : Int))] ⟨f3, f8, f2, f9, trivial⟩  1000 ?_
    simp -implicitDefEqProofs (disch := omega) only [go_sem, need_of, ↓reduceIte, reduceCtorEq, Nat.reduceAdd, Nat.reduceEqDiff, Nat.zero_add, decide_true, Nat.le_refl, proofmarklaw08_RupMore_r10, proofmarklaw08_RupMore_r11, proofmarklaw08_RupMore_r12, proofmarklaw08_RupMore_r13, proofmarklaw08_RupMore_r14, proofmarklaw08_RupMore_r15, List.length_map, ints_length, List.length_cons, List.length_nil, List.cons_append, List.nil_append, mB, hlt, hD, hdf, n1, n2]
    refine callPS hT t_rup_Follows hFo (by simp [namelessL, nameless]) 1000 ?_
    simp -implicitDefEqProofs (disch := omega) only [go_sem, ↓reduceIte, reduceCtorEq, Nat.reduceAdd, Nat.reduceEqDiff, Nat.zero_add, Bool.not_true, Nat.le_refl, List.length_cons, List.length_nil]
    refine callPS hT t_clause_Right hR1 (by simp [namelessL, nameless]) 1000 ?_
    cases h1 : right v [c] with
    | false =>
      simp -implicitDefEqProofs (disch := omega) only [go_sem, ↓reduceIte, Nat.reduceAdd, Nat.reduceEqDiff]
      refine ⟨F.length - (i + 1), _, _, by omega, Shift.drop (o' := List.take 4 _) (subObs_take _ _) (Nat.le_refl _) (Nat.zero_le _), i + 1, t' + 1, by omega, rfl, ?_⟩
      simp -implicitDefEqProofs (disch := omega) only [go_sem, ↓reduceIte, Nat.reduceEqDiff, e2, mB, List.take_succ_cons, List.take_zero]
    | true =>
      simp -implicitDefEqProofs (disch := omega) only [go_sem, ↓reduceIte, reduceCtorEq, Nat.reduceAdd, Nat.reduceEqDiff, Nat.zero_add, Nat.mul_one, Bool.not_true, Nat.le_refl, Nat.zero_le, ints_length, List.length_cons, List.length_nil, hcf, n3, n4]
      have hV : ∀ (o : List (Option Ob)) (k w T : Nat), o[k]? = some (some (.arr w T (ints d ++ ints c))) → Seen o (.sl k w 0 1 (d.length + c.length) none) (.lst 1 (ints (d ++ c)) false) := fun o k w T h => by
        rw [← List.length_append]
        exact seen_ints (w := w) (T := T) (by rw [h]; simp [ints])
      have hFo2 := c_Follows (G := G) hT v F (d ++ c) (by omega) (fun c h => by have := hFc c h; omega) (by simp; omega) (fun n h => (List.mem_append.1 h).elim (hFb d hdm n) (hb n))
      rw [show follows v F (d ++ c) = true from follows_wide hR hdm c (right_mem h1)] at hFo2
      simp only [fml, rows, row] at hFo2
      refine callView hT t_rup_Follows hFo2 (.cons _ _ _ _ (.same _ (by simp [nameless, namelessL])) (.cons _ _ _ _ (hV _ _ _ _ rfl) .nil)) rfl 1000 ?_
      simp -implicitDefEqProofs (disch := omega) only [go_sem, ↓reduceIte, Nat.reduceAdd, Nat.reduceEqDiff, Bool.not_true]
      refine ⟨F.length - (i + 1), _, _, by omega, Shift.drop (o' := List.take 4 _) (subObs_take _ _) (Nat.le_refl _) (Nat.zero_le _), i + 1, t' + 1 + 1, by omega, rfl, ?_⟩
      simp -implicitDefEqProofs (disch := omega) only [go_sem, ↓reduceIte, Nat.reduceEqDiff, e2, mB, List.take_succ_cons, List.take_zero]
  · have hi : i = F.length := by omega
    refine W_round [(3, .ptr 0 t 0), (8, .ptr 3 t8 0), (2, .lst 1 (ints c) false), (9, .int .i64 ((i : Nat) : Int))] ⟨f3, f8, f2, f9, trivial⟩  1000 ?_
    simp -implicitDefEqProofs (disch := omega) only [go_sem, ↓reduceIte, Nat.reduceAdd, Nat.reduceEqDiff, Nat.zero_add, decide_false, Nat.le_refl, proofmarklaw08_RupMore_r10, proofmarklaw08_RupMore_r11, proofmarklaw08_RupMore_r12, proofmarklaw08_RupMore_r13, proofmarklaw08_RupMore_r14, proofmarklaw08_RupMore_r15, List.length_map, List.length_cons, List.length_nil, mB, hi, Nat.lt_irrefl]
theorem m_loop (hT : TabOk Try.prog tab) {t tw t8 t' : Nat} {v : Int} {F Gs : List (List Int)} {c : List Int} (hF : F.length ≤ 30) (hFc : ∀ c ∈ F, c.length ≤ 20) (hcl : c.length ≤ 20) (hR : right v F = true) (hFb : ∀ c ∈ F, ∀ n ∈ c, -9223372036854775808 ≤ n ∧ n ≤ 9223372036854775807)
    (hb : ∀ n ∈ c, -9223372036854775808 ≤ n ∧ n ≤ 9223372036854775807) {fr : Fr} (f3 : fget fr 3 = .ptr 0 t 0) (f8 : fget fr 8 = .ptr 3 t8 0) (f2 : fget fr 2 = .lst 1 (ints c) false) (f9 : fget fr 9 = .int .i64 0) :
    sem Try.prog G 98 0 (endK G [RV.tmp 6] (Keep 0 fun v _ => nameless v = true ∧ v = V.bool true)) [.ac (.loop (AC.seq (AC.seq (AC.reg proofmarklaw08_RupMore_r10 [63, 64, 65, 66])   (AC.cond (Arg.t 67)   AC.skip   (AC.exit 0)))   (AC.seq (AC.block 1 (AC.seq (AC.reg proofmarklaw08_RupMore_r11 [])   (AC.seq (AC.reg proofmarklaw08_RupMore_r12 [70, 71, 72, 73, 74, 75, 76])   (AC.seq (AC.reg proofmarklaw08_RupMore_r13 [77, 78, 79, 80, 81, 82, 83, 84, 85, 86, 87, 88, 89, 90, 91, 92, 93, 94, 95])   (AC.cond (Arg.t 96)   (AC.seq (AC.reg proofmarklaw08_RupMore_r14 [])   AC.ret)   AC.skip)))))   (AC.reg proofmarklaw08_RupMore_r15 [68, 69])))), .blk 0, .ac (AC.seq (AC.reg proofmarklaw08_RupMore_r16 [97]) AC.ret)] .nrm fr ⟨t', mB t tw t8 v F Gs c⟩ := by
  refine sem_invE (mJ t tw t8 v F Gs c) mE (m0 := F.length) ⟨0, t', by omega, rfl, f3, f8, f2, f9, rfl⟩ (fun m fr σ hJ => m_round hT hF hFc hcl hR hFb hb hJ) (fun e fr σ hE => ?_)
  obtain rfl := hE
  refine run_sem 1000 ?_
  simp -implicitDefEqProofs (disch := omega) only [go_sem, ↓reduceIte, proofmarklaw08_RupMore_r16]
  refine callPS hT t_proofmarklaw08_works (c_works (G := G) hT) rfl 1000 ?_
  simp -implicitDefEqProofs (disch := omega) only [go_sem, ↓reduceIte, Nat.reduceEqDiff, Nat.zero_le]
set_option maxHeartbeats 1000000 in
theorem c_RupMore (hT : TabOk Try.prog tab) (v : Int) (F Gs : List (List Int)) (c : List Int) (hF : F.length ≤ 9223372036854775807) (hFc : ∀ c ∈ F, c.length ≤ 9223372036854775807) (hG : Gs.length ≤ 9223372036854775807) (hGc : ∀ c ∈ Gs, c.length ≤ 9223372036854775807)
    (hcl : c.length ≤ 9223372036854775807) (hFb : ∀ c ∈ F, ∀ n ∈ c, -9223372036854775808 ≤ n ∧ n ≤ 9223372036854775807) (hb : ∀ n ∈ c, -9223372036854775808 ≤ n ∧ n ≤ 9223372036854775807) :
    Pure Try.prog G n_proofmarklaw08_RupMore [fml v F, rows Gs, row c] fun u => u = .bool true := by
  have hW := c_works (G := G) hT
  have hf1 := c_few (G := G) hT F 30 (by omega) hF hFc
  have hf2 := c_few (G := G) hT Gs 10 (by omega) hG hGc
  have hR := c_Right (P := Try.prog) (G := G) hT v F hF hFc
  simp only [fml, rows, row] at hf1 hf2 hR ⊢
  intro t
  refine C_keep 0 (Nat.zero_le _) (C_tab hT t_proofmarklaw08_RupMore (by simp [proofmarklaw08_RupMore]) (W_run 1000 ?_))
  simp -implicitDefEqProofs (disch := omega) only [go_sem, ↓reduceIte, reduceCtorEq, Nat.reduceAdd, Nat.reduceEqDiff, Nat.zero_add, Nat.le_refl, proofmarklaw08_RupMore, proofmarklaw08_RupMore_r0, proofmarklaw08_RupMore_r1, proofmarklaw08_RupMore_r2, proofmarklaw08_RupMore_r3, proofmarklaw08_RupMore_r4, proofmarklaw08_RupMore_r5, proofmarklaw08_RupMore_r6, proofmarklaw08_RupMore_r7, proofmarklaw08_RupMore_r8, proofmarklaw08_RupMore_r9, proofmarklaw08_RupMore_r10, proofmarklaw08_RupMore_r11, proofmarklaw08_RupMore_r12, proofmarklaw08_RupMore_r13, proofmarklaw08_RupMore_r14, proofmarklaw08_RupMore_r15, proofmarklaw08_RupMore_r16, List.length_cons, List.length_nil, List.nil_append]
  refine callPS hT t_proofmarklaw08_few hf1 (by simp [namelessL, nameless]) 1000 ?_
  cases h1 : fewS F 30 with
  | false =>
    simp -implicitDefEqProofs (disch := omega) only [go_sem, ↓reduceIte, reduceCtorEq, Nat.reduceEqDiff, Bool.not_false]
    refine callPS hT t_proofmarklaw08_works hW rfl 1000 ?_
    simp -implicitDefEqProofs (disch := omega) only [go_sem, ↓reduceIte, reduceCtorEq, Nat.reduceEqDiff, Nat.zero_add, Nat.zero_le, List.length_cons, List.length_nil]
  | true =>
    simp -implicitDefEqProofs (disch := omega) only [go_sem, ↓reduceIte, reduceCtorEq, Nat.reduceAdd, Nat.reduceEqDiff, Bool.not_true]
    refine callPS hT t_proofmarklaw08_few hf2 (by simp [namelessL, nameless]) 1000 ?_
    cases h2 : fewS Gs 10 with
    | false =>
      simp -implicitDefEqProofs (disch := omega) only [go_sem, ↓reduceIte, reduceCtorEq, Nat.reduceAdd, Nat.reduceEqDiff, Bool.not_false]
      refine callPS hT t_proofmarklaw08_works hW rfl 1000 ?_
      simp -implicitDefEqProofs (disch := omega) only [go_sem, ↓reduceIte, reduceCtorEq, Nat.reduceEqDiff, Nat.zero_add, Nat.zero_le, List.length_cons, List.length_nil]
    | true =>
      rcases Nat.lt_or_ge 20 c.length with h3 | h3
      · have h3' : ((20 : Int) < (c.length : Int)) = True := eq_true (by omega)
        simp -implicitDefEqProofs (disch := omega) only [go_sem, ↓reduceIte, reduceCtorEq, Nat.reduceAdd, Nat.reduceEqDiff, decide_true, Bool.not_true, gt_iff_lt, ints_length, h3']
        refine callPS hT t_proofmarklaw08_works hW rfl 1000 ?_
        simp -implicitDefEqProofs (disch := omega) only [go_sem, ↓reduceIte, reduceCtorEq, Nat.reduceEqDiff, Nat.zero_add, Nat.zero_le, List.length_cons, List.length_nil]
      · have h3' : ((20 : Int) < (c.length : Int)) = False := eq_false (by omega)
        obtain ⟨hF30, hF20⟩ := few_le (k := 30) h1
        obtain ⟨hG10, hG20⟩ := few_le (k := 10) h2
        simp -implicitDefEqProofs (disch := omega) only [go_sem, ↓reduceIte, reduceCtorEq, Nat.reduceAdd, Nat.reduceEqDiff, Nat.zero_add, decide_false, Bool.not_true, Nat.le_refl, gt_iff_lt, ints_length, List.length_cons, List.length_nil, h3']
        refine callPS hT t_clause_Right hR (by simp [namelessL, nameless]) 1000 ?_
        cases h4 : right v F with
        | false =>
          simp -implicitDefEqProofs (disch := omega) only [go_sem, ↓reduceIte, reduceCtorEq, Nat.reduceAdd, Nat.reduceEqDiff, Bool.not_false]
          refine callPS hT t_proofmarklaw08_works hW rfl 1000 ?_
          simp -implicitDefEqProofs (disch := omega) only [go_sem, ↓reduceIte, reduceCtorEq, Nat.reduceEqDiff, Nat.zero_add, Nat.zero_le, List.length_cons, List.length_nil]
        | true =>
          have hfl := rows_flat F
          have hgl := rows_flat Gs
          have n1 : F.length * 24 ≤ 140737488355328 := by omega
          have n2 : F.length ≤ 9223372036854775807 := hF
          have n3 : (F.length + Gs.length) * 24 ≤ 140737488355328 := by omega
          have n4 : F.length + Gs.length ≤ 9223372036854775807 := by omega
          have hV : ∀ (o : List (Option Ob)) (k w T : Nat), o[k]? = some (some (.arr w T (F.map row ++ Gs.map row))) → Seen o (.sl k w 0 1 (F.length + Gs.length) none) (.lst 1 ((F ++ Gs).map row) false) := fun o k w T h => by
            rw [← List.length_append]
            exact seen_rows (w := w) (T := T) (by rw [h, List.map_append])
          have hM : ∀ d ∈ F ++ Gs, d.length ≤ 20 := fun d h => (List.mem_append.1 h).elim (hF20 d) (hG20 d)
          have hR2 := c_Right (P := Try.prog) (G := G) hT v (F ++ Gs) (by simp; omega) (fun d h => by have := hM d h; omega)
          have hFo := c_Follows (G := G) hT v F c (by omega) (fun c h => by have := hF20 c h; omega) (by omega) hb
          have hFo2 := c_Follows (G := G) hT v (F ++ Gs) c (by simp; omega) (fun c h => by have := hM c h; omega) (by omega) hb
          simp only [fml, rows, row] at hR2 hFo hFo2
          simp -implicitDefEqProofs (disch := omega) only [go_sem, ↓reduceIte, reduceCtorEq, Nat.reduceAdd, Nat.reduceEqDiff, Nat.reduceLeDiff, Nat.zero_add, Nat.add_zero, Nat.mul_one, Bool.not_true, Bool.not_false, Nat.le_refl, Nat.zero_le, List.length_map, List.length_cons, List.length_nil, List.cons_append, List.nil_append, hfl, hgl, n1, n2, n3, n4]
          refine callView hT t_clause_Right hR2 (.cons _ _ _ _ (.agg _ _ (.cons _ _ _ _ (.same _ rfl) (.cons _ _ _ _ (hV _ _ _ _ rfl) .nil))) .nil) rfl 1000 ?_
          cases h5 : right v (F ++ Gs) with
          | false =>
            simp -implicitDefEqProofs (disch := omega) only [go_sem, ↓reduceIte, reduceCtorEq, Nat.reduceAdd, Nat.reduceEqDiff, Nat.reduceLeDiff, Nat.zero_add, Nat.add_zero, Bool.not_false, Nat.le_refl, Nat.zero_le, List.length_cons, List.length_nil, List.cons_append, List.nil_append]
            exact m_loop hT hF30 hF20 (by omega) h4 hFb hb rfl rfl rfl rfl
          | true =>
            simp -implicitDefEqProofs (disch := omega) only [go_sem, ↓reduceIte, reduceCtorEq, Nat.reduceAdd, Nat.reduceEqDiff, Nat.zero_add, Nat.le_refl, List.length_cons, List.length_nil]
            refine callPS hT t_rup_Follows hFo (by simp [namelessL, nameless]) 1000 ?_
            cases h6 : follows v F c with
            | false =>
              simp -implicitDefEqProofs (disch := omega) only [go_sem, ↓reduceIte, reduceCtorEq, Nat.reduceAdd, Nat.reduceEqDiff, Nat.reduceLeDiff, Nat.zero_add, Nat.add_zero, Bool.not_false, Nat.le_refl, Nat.zero_le, List.length_cons, List.length_nil, List.cons_append, List.nil_append]
              exact m_loop hT hF30 hF20 (by omega) h4 hFb hb rfl rfl rfl rfl
            | true =>
              simp -implicitDefEqProofs (disch := omega) only [go_sem, ↓reduceIte, reduceCtorEq, Nat.reduceAdd, Nat.reduceEqDiff, Nat.zero_add, Nat.le_refl, List.length_cons, List.length_nil]
              rw [follows_mono h6 (fun d h => List.mem_append_left _ h) h5] at hFo2
              refine callView hT t_rup_Follows hFo2 (.cons _ _ _ _ (.agg _ _ (.cons _ _ _ _ (.same _ rfl) (.cons _ _ _ _ (hV _ _ _ _ rfl) .nil))) (.cons _ _ _ _ (.same _ (by simp [nameless])) .nil)) rfl 1000 ?_
              simp -implicitDefEqProofs (disch := omega) only [go_sem, ↓reduceIte, reduceCtorEq, Nat.reduceAdd, Nat.reduceEqDiff, Nat.reduceLeDiff, Nat.zero_add, Nat.add_zero, Bool.not_true, Bool.not_false, Nat.le_refl, Nat.zero_le, List.length_cons, List.length_nil, List.cons_append, List.nil_append]
              exact m_loop hT hF30 hF20 (by omega) h4 hFb hb rfl rfl rfl rfl
end Go.Proofs.Ytingdebioipemaa
