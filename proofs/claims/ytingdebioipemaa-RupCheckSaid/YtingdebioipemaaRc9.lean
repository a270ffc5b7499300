/- Contracts: the document's side of proofs: rows that follow. -/
import Derived.Test.YtingdebioipemaaRc8
namespace Go.Proofs.Ytingdebioipemaa
open Go Go.Am Go.Cl
set_option maxRecDepth 100000
variable {P : Program} {G : Nat → Option V}

theorem c_r8Follows (hT : TabOk P tab) (v : Int) (F : List (List Int)) (c : List Int) (hF : F.length + c.length ≤ 1000) (hc : ∀ c ∈ F, c.length ≤ 1000) (hl : c.length ≤ 1000) (hb : ∀ n ∈ c, -9223372036854775808 ≤ n ∧ n ≤ 9223372036854775807) :
    Pure P G n_proofmarkref08_Follows [fml v F, row c] fun u => u = .bool (follows v F c) := by
  intro t
  have hR := c_rRight (P := P) (G := G) hT v F (by omega) (fun c h => by have := hc c h; omega)
  have hFo := c_r7Follows (P := P) (G := G) hT v F c hF hc hl hb
  simp only [fml, rows, row] at hR hFo ⊢
  refine C_keep 0 (Nat.zero_le _) (C_tab hT t_proofmarkref08_Follows (by simp [proofmarkref08_Follows]) (W_run 1000 ?_))
  simp -implicitDefEqProofs (disch := omega) only [go_sem, ↓reduceIte, reduceCtorEq, Nat.reduceAdd, Nat.reduceEqDiff, Nat.zero_add, Nat.le_refl, proofmarkref08_Follows, proofmarkref08_Follows_r0, proofmarkref08_Follows_r1, false_implies, and_true]
  refine callPS hT t_proofmarkref05_Right hR (by simp [namelessL, nameless]) 4 ?_
  cases hr : right v F with
  | false =>
    have hf : follows v F c = false := by simp [follows, hr]
    simp -implicitDefEqProofs (disch := omega) only [go_sem, ↓reduceIte, reduceCtorEq, Nat.reduceEqDiff]
    iterate 9 (try (refine run_sem 4 ?_; simp -implicitDefEqProofs (disch := omega) only [go_sem, ↓reduceIte, reduceCtorEq, Nat.reduceEqDiff, Nat.zero_add, Nat.zero_le, and_true, hf]))
  | true =>
    simp -implicitDefEqProofs (disch := omega) only [go_sem, ↓reduceIte, reduceCtorEq, Nat.reduceAdd, Nat.reduceEqDiff, Nat.zero_add, Nat.le_refl, false_implies, and_true]
    iterate 4 (try (refine run_sem 4 ?_; simp -implicitDefEqProofs (disch := omega) only [go_sem, need_of, ↓reduceIte, reduceCtorEq, Nat.reduceAdd, Nat.reduceEqDiff, Nat.reduceLeDiff, Nat.reduceLT, Nat.reduceSub, Nat.reduceMul, Int.reduceToNat, Int.reduceLE, Int.reduceLT, Int.reduceEq, Int.reduceNe, Nat.succ_ne_zero, Nat.zero_add, Nat.add_zero, Nat.mul_one, Nat.one_mul, Nat.zero_mul, decide_true, decide_false, Bool.not_true, Bool.not_false, Nat.le_refl, Nat.zero_le, ge_iff_le, gt_iff_lt, Nat.reduceBEq, Nat.reduceBNe, beq_self_eq_true, bne_self_eq_false, Option.isSome_some, Option.isSome_none, Option.getD_some, Option.getD_none, proofmarkref08_Follows, proofmarkref08_Follows_r0, proofmarkref08_Follows_r1, false_implies, true_implies, true_and, and_true, not_true_eq_false, not_false_eq_true, Bool.not_true, Bool.not_false]))
    refine callPS hT t_proofmarkref07_Follows (hFo hr) (by simp [namelessL, nameless]) 4 ?_
    simp -implicitDefEqProofs (disch := omega) only [go_sem, ↓reduceIte, reduceCtorEq, Nat.reduceEqDiff]
    iterate 9 (try (refine run_sem 4 ?_; simp -implicitDefEqProofs (disch := omega) only [go_sem, ↓reduceIte, reduceCtorEq, Nat.reduceEqDiff, Nat.zero_add, Nat.zero_le, and_true]))

def kH (tf tg tw : Nat) (v : Int) (F R : List (List Int)) : List (Option Ob) := [some (.arr tf 28 [.int .i64 v, .lst 1 (F.map row) false]), some (.arr tg 28 [.int .i64 v, .sl 2 tw 0 1 R.length none]), some (.arr tw 25 (R.map row))]
abbrev kiJ (tf tg : Nat) (v : Int) (F p : List (List Int)) : Nat → Fr → H → Prop := fun i fr σ => ∃ t tw, firstS v F p = i + firstS v (F ++ p.take i) (p.drop i) ∧ fget fr 1 = .lst 1 (p.map row) false ∧ fget fr 5 = .ptr 1 tg 0 ∧ fget fr 6 = .int .i64 ((i : Nat) : Int) ∧ σ = ⟨t, kH tf tg tw v F (F ++ p.take i)⟩
abbrev kiE (v : Int) (F p : List (List Int)) : AE → Fr → H → Prop := fun e fr _ => (e = .ret ∧ fget fr 4 = .int .i64 (firstS v F p)) ∨ (e = .ex 0 ∧ fget fr 1 = .lst 1 (p.map row) false ∧ firstS v F p = p.length)
set_option maxHeartbeats 1000000 in
theorem ki_round (hT : TabOk P tab) {tf tg : Nat} {v : Int} {F p : List (List Int)} (hF : F.length + p.length ≤ 500) (hc : ∀ c ∈ F, c.length ≤ 500) (hp : ∀ c ∈ p, c.length ≤ 500) (hb : ∀ c ∈ p, ∀ n ∈ c, -9223372036854775808 ≤ n ∧ n ≤ 9223372036854775807) {i : Nat} {c : List Int} (hci : p[i]? = some c) {fr : Fr} {σ : H} (hJ : kiJ tf tg v F p i fr σ) :
    W P G 41 0 (AC.seq (AC.seq (AC.reg proofmarkref08_First_r4 [16, 17, 18])   (AC.cond (Arg.t 19)   AC.skip   (AC.exit 0)))   (AC.seq (AC.block 1 (AC.seq (AC.seq (AC.reg proofmarkref08_First_r5 [22, 23, 24, 25, 26, 27])   (AC.cond (Arg.t 28)   (AC.seq (AC.reg proofmarkref08_First_r6 [29])   AC.ret)   AC.skip))   (AC.reg proofmarkref08_First_r7 [30, 31, 32, 33, 34, 35, 36, 37, 38])))   (AC.reg proofmarkref08_First_r8 [20, 21]))) fr σ (seqQ (fun fr σ => ∃ fr' σ', Shift G 41 0 fr σ fr' σ' ∧ kiJ tf tg v F p (i + 1) fr' σ') (kiE v F p)) := by
  obtain ⟨t, tw, hfi, f1, f5, f6, rfl⟩ := hJ
  obtain ⟨hlt, hD, e2⟩ := at_rows hci (by omega)
  have hcm := List.mem_of_getElem? hci
  have hd : p.drop i = c :: p.drop (i + 1) := by
    rw [List.drop_eq_getElem_cons hlt]
    congr 1
    exact (List.getElem?_eq_some_iff.1 hci).2
  have hts := take_snoc hci
  have hRl : (F ++ p.take i).length ≤ 499 := by rw [List.length_append, List.length_take]; omega
  have hRc : ∀ d ∈ F ++ p.take i, d.length ≤ 500 := fun d h => (List.mem_append.1 h).elim (hc d) fun h => hp d (List.mem_of_mem_take h)
  have hFo := c_r8Follows (P := P) (G := G) hT v (F ++ p.take i) c (by have := hp c hcm; omega) (fun c h => by have := hRc c h; omega) (by have := hp c hcm; omega) (hb c hcm)
  rw [hd, firstS] at hfi
  have happ : F ++ p.take (i + 1) = (F ++ p.take i) ++ [c] := by rw [hts, List.append_assoc]
  generalize F ++ p.take i = R at *
  simp only [fml, rows, row] at hFo
  cases hfo : follows v R c with
  | false =>
    rw [hfo] at hFo hfi
    have hres : firstS v F p = i := by simpa using hfi
    refine W_round [(1, .lst 1 (p.map row) false), (5, .ptr 1 tg 0), (6, .int .i64 ((i : Nat) : Int))] ⟨f1, f5, f6, trivial⟩  1000 ?_
    simp -implicitDefEqProofs (disch := omega) only [go_sem, need_of, ↓reduceIte, reduceCtorEq, Nat.reduceAdd, Nat.reduceEqDiff, Nat.zero_add, decide_true, Nat.le_refl, proofmarkref08_First_r4, proofmarkref08_First_r5, proofmarkref08_First_r6, proofmarkref08_First_r7, proofmarkref08_First_r8, List.length_map, List.length_cons, List.length_nil, false_implies, true_implies, and_true, kH, hlt, hD]
    refine callView hT t_proofmarkref08_Follows hFo (.cons _ _ _ _ (.agg _ _ (.cons _ _ _ _ (.same _ rfl) (.cons _ _ _ _ (seen_rows rfl) .nil))) (.cons _ _ _ _ (.same _ (by simp [nameless])) .nil)) rfl 1000 ?_
    simp -implicitDefEqProofs (disch := omega) only [go_sem, ↓reduceIte, Nat.reduceEqDiff, Bool.not_false]
    exact .inl ⟨rfl, by rw [hres]; rfl⟩
  | true =>
    rw [hfo] at hFo hfi
    rw [if_pos rfl, ← happ] at hfi
    refine W_round [(1, .lst 1 (p.map row) false), (5, .ptr 1 tg 0), (6, .int .i64 ((i : Nat) : Int))] ⟨f1, f5, f6, trivial⟩  1000 ?_
    simp -implicitDefEqProofs (disch := omega) only [go_sem, need_of, ↓reduceIte, reduceCtorEq, Nat.reduceAdd, Nat.reduceEqDiff, Nat.zero_add, decide_true, Nat.le_refl, proofmarkref08_First_r4, proofmarkref08_First_r5, proofmarkref08_First_r6, proofmarkref08_First_r7, proofmarkref08_First_r8, List.length_map, List.length_cons, List.length_nil, false_implies, true_implies, and_true, kH, hlt, hD]
    refine callView hT t_proofmarkref08_Follows hFo (.cons _ _ _ _ (.agg _ _ (.cons _ _ _ _ (.same _ rfl) (.cons _ _ _ _ (seen_rows rfl) .nil))) (.cons _ _ _ _ (.same _ (by simp [nameless])) .nil)) rfl 1000 ?_
    simp -implicitDefEqProofs (disch := omega) only [go_sem, need_of, ↓reduceIte, reduceCtorEq, Nat.reduceAdd, Nat.reduceEqDiff, Nat.reduceLeDiff, Nat.zero_add, Nat.mul_one, Bool.not_true, Bool.not_false, Nat.le_refl, Nat.zero_le, List.length_map, List.length_cons, List.length_nil, List.cons_append, List.nil_append, true_implies, true_and, and_true, hlt, hD]
    refine ⟨_, _, Shift.refl _ _ _ _, t + 1, t, by omega, ?_⟩
    simp -implicitDefEqProofs (disch := omega) only [go_sem, ↓reduceIte, Nat.reduceEqDiff, Nat.zero_add, List.length_cons, List.length_nil, and_true, kH, e2, happ, List.length_append, List.map_append, row]
set_option maxHeartbeats 1000000 in
theorem c_rFirst (hT : TabOk P tab) (v : Int) (F p : List (List Int)) (hF : F.length + p.length ≤ 500) (hc : ∀ c ∈ F, c.length ≤ 500) (hp : ∀ c ∈ p, c.length ≤ 500) (hb : ∀ c ∈ p, ∀ n ∈ c, -9223372036854775808 ≤ n ∧ n ≤ 9223372036854775807) :
    Pure P G n_proofmarkref08_First [fml v F, rows p] fun u => u = .int .i64 (firstS v F p) := by
  intro t0
  simp only [fml, rows]
  have hfl := rows_flat F
  have n1 : F.length * 24 ≤ 140737488355328 := by omega
  refine C_keep 0 (Nat.zero_le _) (C_tab hT t_proofmarkref08_First (by simp [proofmarkref08_First]) (W_run 1000 ?_))
  simp -implicitDefEqProofs (disch := omega) only [go_sem, need_of, ↓reduceIte, reduceCtorEq, Nat.reduceAdd, Nat.reduceEqDiff, Nat.reduceLeDiff, Nat.zero_add, Nat.add_zero, Bool.not_false, Nat.le_refl, Nat.zero_le, proofmarkref08_First, proofmarkref08_First_r0, proofmarkref08_First_r1, proofmarkref08_First_r2, proofmarkref08_First_r3, proofmarkref08_First_r4, proofmarkref08_First_r5, proofmarkref08_First_r6, proofmarkref08_First_r7, proofmarkref08_First_r8, proofmarkref08_First_r9, List.length_map, List.length_cons, List.length_nil, List.cons_append, List.nil_append, true_implies, true_and, and_true, hfl, n1]
  refine sem_for p (kiJ t0 (t0 + 1) v F p) (kiE v F p) ⟨t0 + 1 + 1 + 1, t0 + 1 + 1, by simp, ?_⟩ (fun i c hci fr σ hJ => ki_round hT hF hc hp hb hci hJ) (fun i hi fr σ hJ => ?_) (fun e fr σ hE => ?_)
  · simp -implicitDefEqProofs (disch := omega) only [go_sem, ↓reduceIte, reduceCtorEq, Nat.reduceEqDiff, true_and, and_true, kH, List.take_zero, List.append_nil]
    simp
  · obtain ⟨t, tw, hfi, f1, f5, f6, rfl⟩ := hJ
    have hres : firstS v F p = p.length := by rw [hi, List.drop_length] at hfi; simpa [firstS] using hfi
    refine W_round [(1, .lst 1 (p.map row) false), (5, .ptr 1 (t0 + 1) 0), (6, .int .i64 ((i : Nat) : Int))] ⟨f1, f5, f6, trivial⟩ 1000 ?_
    simp -implicitDefEqProofs (disch := omega) only [go_sem, ↓reduceIte, Nat.reduceEqDiff, decide_false, List.length_map, kH, hi, Nat.lt_irrefl]
    exact .inr ⟨rfl, rfl, hres⟩
  · rcases hE with ⟨rfl, f4⟩ | ⟨rfl, f1, hres⟩
    · refine run_sem 1000 ?_
      simp -implicitDefEqProofs (disch := omega) only [go_sem, Nat.zero_le, and_true, f4]
    · refine run_sem 1000 ?_
      simp -implicitDefEqProofs (disch := omega) only [go_sem, ↓reduceIte, Nat.reduceEqDiff, Nat.zero_le, List.length_map, and_true, f1, hres]
theorem c_rCheck (hT : TabOk P tab) (v : Int) (F p : List (List Int)) (hF : F.length + p.length ≤ 500) (hc : ∀ c ∈ F, c.length ≤ 500) (hp : ∀ c ∈ p, c.length ≤ 500) (hb : ∀ c ∈ p, ∀ n ∈ c, -9223372036854775808 ≤ n ∧ n ≤ 9223372036854775807) :
    Pure P G n_proofmarkref08_Check [fml v F, rows p] fun u => u = .bool (checkS v F p) := by
  intro t
  have hFi := c_rFirst (P := P) (G := G) hT v F p hF hc hp hb
  have hle := firstS_le v p F
  simp only [fml, rows] at hFi ⊢
  refine C_keep 0 (Nat.zero_le _) (C_tab hT t_proofmarkref08_Check (by simp [proofmarkref08_Check]) (W_run 14 ?_))
  have hnF : namelessL [V.agg [V.int .i64 v, V.lst 1 (F.map row) false], V.lst 1 (p.map row) false] = true := by simp [namelessL, nameless]
  rcases Nat.eq_zero_or_pos p.length with hz | hpos
  · have hcs : checkS v F p = false := by rw [checkS_eq]; simp [hz]
    have h0 : ¬ (0 < (p.length : Int)) := by omega
    have h0' : decide (0 < (p.length : Int)) = false := decide_eq_false h0
    simp -implicitDefEqProofs (disch := omega) only [go_sem, ↓reduceIte, reduceCtorEq, Nat.reduceEqDiff, Nat.zero_add, proofmarkref08_Check, proofmarkref08_Check_r0, proofmarkref08_Check_r1, proofmarkref08_Check_r2, List.length_map, and_true]
    iterate 14 (try (refine run_sem 2 ?_; simp -implicitDefEqProofs (disch := omega) only [go_sem, ↓reduceIte, reduceCtorEq, Nat.reduceEqDiff, Nat.zero_add, decide_false, Nat.zero_le, gt_iff_lt, true_and, h0]))
    rw [hcs]
  · have h0 : 0 < (p.length : Int) := by omega
    have h0' : decide (0 < (p.length : Int)) = true := decide_eq_true h0
    obtain ⟨c, hci⟩ : ∃ c, p[p.length - 1]? = some c := ⟨_, List.getElem?_eq_getElem (by omega)⟩
    have hD := rows_getD hci
    have hlast : p.getLast? = some c := by rw [List.getLast?_eq_getElem?]; exact hci
    have e4 : IntKind.i64.wrap ((p.length : Int) - 1) = ((p.length - 1 : Nat) : Int) := by rw [wself (by omega)]; omega
    have hlt : p.length - 1 < p.length := by omega
    by_cases hcn : c = []
    · have hcl : ((c.length : Int) == 0) = true := by rw [hcn]; rfl
      have hcs : checkS v F p = decide (firstS v F p = p.length) := by rw [checkS_eq]; simp [hpos, hlast, hcn]
      simp -implicitDefEqProofs (disch := omega) only [go_sem, ↓reduceIte, reduceCtorEq, Nat.reduceEqDiff, Nat.zero_add, proofmarkref08_Check, proofmarkref08_Check_r0, proofmarkref08_Check_r1, proofmarkref08_Check_r2, List.length_map, and_true]
      iterate 14 (try (refine run_sem 2 ?_; simp -implicitDefEqProofs (disch := omega) only [go_sem, need_of, ↓reduceIte, reduceCtorEq, Nat.reduceAdd, Nat.reduceEqDiff, Nat.zero_add, decide_true, Nat.le_refl, gt_iff_lt, List.length_map, ints_length, false_implies, true_implies, and_true, h0, e4, hD, hlt, hcl]))
      refine callPS hT t_proofmarkref08_First hFi hnF 2 ?_
      simp -implicitDefEqProofs (disch := omega) only [go_sem, ↓reduceIte, reduceCtorEq, Nat.reduceAdd, Nat.reduceEqDiff, Nat.zero_add]
      iterate 9 (try (refine run_sem 2 ?_; simp -implicitDefEqProofs (disch := omega) only [go_sem, ↓reduceIte, reduceCtorEq, Nat.reduceEqDiff, Nat.zero_add, Nat.zero_le, true_and]))
      rw [hcs]
      congr 1
      rw [Bool.eq_iff_iff, beq_iff_eq, decide_eq_true_eq]
      omega
    · have hcl : ((c.length : Int) == 0) = false := by
        rw [beq_eq_false_iff_ne]; have := List.length_pos_iff.2 hcn; omega
      have hcs : checkS v F p = false := by rw [checkS_eq]; simp [hlast, hcn]
      simp -implicitDefEqProofs (disch := omega) only [go_sem, ↓reduceIte, reduceCtorEq, Nat.reduceEqDiff, Nat.zero_add, proofmarkref08_Check, proofmarkref08_Check_r0, proofmarkref08_Check_r1, proofmarkref08_Check_r2, List.length_map, and_true]
      iterate 14 (try (refine run_sem 2 ?_; simp -implicitDefEqProofs (disch := omega) only [go_sem, need_of, ↓reduceIte, reduceCtorEq, Nat.reduceAdd, Nat.reduceEqDiff, Nat.zero_add, decide_true, Nat.le_refl, Nat.zero_le, gt_iff_lt, List.length_map, ints_length, true_implies, true_and, and_true, h0, e4, hD, hlt, hcl]))
      rw [hcs]
end Go.Proofs.Ytingdebioipemaa
