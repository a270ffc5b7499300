/- Contracts: does a clause follow? -/
import Derived.Test.YtingdebioipemaaCw8
namespace Go.Proofs.Ytingdebioipemaa
open Go Go.Am Go.Cl
set_option maxRecDepth 100000
variable {G : Nat → Option V}

theorem run_stop {P : Program} {n base : Nat} {Q : AE → Fr → H → Prop} {s : List KI} {e : AE} {fr : Fr} {σ : H} (h : sem P G n base Q s e fr σ) : run P G n base Q 0 s e fr σ := h

def fH (tf tw : Nat) (v : Int) (F : List (List Int)) (cells : List V) : List (Option Ob) := [some (.arr tf 24 [.int .i64 v, .lst 1 (F.map row) false]), some (.arr tw 3 cells)]
abbrev fJ (tf tw t : Nat) (v : Int) (F : List (List Int)) (q : List Int) : Nat → Fr → H → Prop := fun m fr σ => ∃ i, i ≤ q.length ∧ m = q.length - i ∧ fget fr 2 = .ptr 0 tf 0 ∧ fget fr 7 = .sl 1 tw 0 1 q.length none ∧ fget fr 36 = .lst 1 (ints q) false ∧ fget fr 37 = .int .i64 q.length ∧ fget fr 38 = .int .i64 ((i : Nat) : Int) ∧ σ = ⟨t, fH tf tw v F (ints ((q.take i).map fun n => -n) ++ ints (List.replicate (q.length - i) 0))⟩
abbrev fE (tf tw t : Nat) (v : Int) (F : List (List Int)) (q : List Int) : AE → Fr → H → Prop := fun e fr σ => e = .ex 0 ∧ fget fr 2 = .ptr 0 tf 0 ∧ fget fr 7 = .sl 1 tw 0 1 q.length none ∧ σ = ⟨t, fH tf tw v F (ints (q.map fun n => -n))⟩
theorem f_round {P : Program} (hT : TabOk P tab) {tf tw t : Nat} {v : Int} {F : List (List Int)} {q : List Int} (hq : ∀ n ∈ q, -16777216 ≤ n ∧ n ≤ 16777216) (hl : q.length ≤ 1000000) {m : Nat} {fr : Fr} {σ : H} (hJ : fJ tf tw t v F q m fr σ) :
    W P G 62 0 (AC.seq (AC.reg rup_Follows_r8 [])   (AC.seq (AC.cond (Arg.t 39)   AC.skip   (AC.exit 0))   (AC.seq (AC.block 1 (AC.seq (AC.reg rup_Follows_r9 [40, 41, 42])   (AC.reg rup_Follows_r10 [43, 44, 45, 46, 47])))   (AC.reg rup_Follows_r11 [48])))) fr σ (seqQ (fun fr σ => ∃ m' fr' σ', m' < m ∧ Shift G 62 0 fr σ fr' σ' ∧ fJ tf tw t v F q m' fr' σ') (fE tf tw t v F q)) := by
  obtain ⟨i, hi, rfl, f2, f7, f36, f37, f38, rfl⟩ := hJ
  rcases Nat.lt_or_ge i q.length with hlt | hge
  · obtain ⟨n, hni⟩ : ∃ n, q[i]? = some n := ⟨_, List.getElem?_eq_getElem hlt⟩
    have hD := ints_getD hni
    have e2 := wnext hlt (by omega)
    have hn := hq n (List.mem_of_getElem? hni)
    have hneg : IntKind.i64.wrap (0 - n) = -n := by
      rw [wneg64 (by omega), neg_ne (by unfold mn; omega)]
    have hlen : (ints ((q.take i).map fun n => -n) ++ ints (List.replicate (q.length - i) 0)).length = q.length := by simp [ints]; omega
    have hset : ∀ L : List V, L = ints ((q.take i).map fun n => -n) ++ ints (List.replicate (q.length - i) 0) → L.take i ++ [V.int .i64 (-n)] ++ L.drop (i + 1) = ints ((q.take (i + 1)).map fun n => -n) ++ ints (List.replicate (q.length - (i + 1)) 0) := fun L hL => by
      have h1 : (ints ((q.take i).map fun n => -n)).length = i := by simp [ints]; omega
      have h2 : List.replicate (q.length - i) (0 : Int) = 0 :: List.replicate (q.length - (i + 1)) 0 := by
        rw [show q.length - i = (q.length - (i + 1)) + 1 by omega, List.replicate_succ]
      rw [hL, List.take_append_of_le_length (by omega), List.take_of_length_le (by omega), List.drop_append, List.drop_eq_nil_of_le (by omega), h2, take_snoc hni, h1]
      simp [ints]
    generalize ints ((q.take i).map fun n => -n) ++ ints (List.replicate (q.length - i) 0) = L at *
    have hset := hset L rfl
    refine W_round [(2, .ptr 0 tf 0), (7, .sl 1 tw 0 1 q.length none), (36, .lst 1 (ints q) false), (37, .int .i64 q.length), (38, .int .i64 ((i : Nat) : Int))] ⟨f2, f7, f36, f37, f38, trivial⟩  1000 ?_
    simp -implicitDefEqProofs (disch := omega) only [go_sem, need_of, ↓reduceIte, Nat.reduceEqDiff, Nat.zero_add, Nat.mul_one, decide_true, Bool.not_false, Nat.le_refl, Nat.zero_le, rup_Follows_r8, rup_Follows_r9, rup_Follows_r10, rup_Follows_r11, ints_length, List.length_cons, List.length_nil, fH, hlt, hD, hneg, hlen]
    refine ⟨q.length - (i + 1), _, _, by omega, Shift.refl _ _ _ _, i + 1, by omega, rfl, ?_⟩
    simp -implicitDefEqProofs (disch := omega) only [go_sem, ↓reduceIte, Nat.reduceEqDiff, fH, e2, hset]
  · have hi : i = q.length := by omega
    refine W_round [(2, .ptr 0 tf 0), (7, .sl 1 tw 0 1 q.length none), (36, .lst 1 (ints q) false), (37, .int .i64 q.length), (38, .int .i64 ((i : Nat) : Int))] ⟨f2, f7, f36, f37, f38, trivial⟩  1000 ?_
    simp -implicitDefEqProofs (disch := omega) only [go_sem, ↓reduceIte, Nat.reduceEqDiff, decide_false, rup_Follows_r8, rup_Follows_r9, rup_Follows_r10, rup_Follows_r11, hi, Nat.lt_irrefl]
    exact ⟨rfl, rfl, rfl, by rw [List.take_length, Nat.sub_self]; simp [ints]⟩

theorem right_one {v : Int} {F : List (List Int)} {c : List Int} (h : right v F = true) : right v [c] = c.all (litOk v) := by
  have h := (right_iff.1 h).1
  simp [right, h.1, h.2.1]
theorem right_assign {v : Int} {F : List (List Int)} {L : List Int} (h : right v F = true) : right v (assign F L) = true := by
  obtain ⟨⟨a, b, c⟩, d⟩ := right_iff.1 h
  have hl : (assign F L).length ≤ F.length := by unfold assign; rw [List.length_map]; exact List.length_filter_le _ _
  refine right_iff.2 ⟨⟨a, b, by omega⟩, fun x hx n hn => ?_⟩
  obtain ⟨y, hy, rfl⟩ := List.mem_map.1 hx
  exact d y (List.mem_filter.1 hy).1 n (List.mem_filter.1 hn).1
theorem assign_len {F : List (List Int)} {L : List Int} {k : Nat} (hc : ∀ c ∈ F, c.length ≤ k) : ∀ c ∈ assign F L, c.length ≤ k := fun c h => by
  obtain ⟨y, hy, rfl⟩ := List.mem_map.1 h
  exact Nat.le_trans (List.length_filter_le _ _) (hc y (List.mem_filter.1 hy).1)
theorem canon_len {c : List Int} : (canon c).length ≤ c.length := by
  unfold canon
  rw [sortV_length]
  exact nodup_sub (nodup_dd c) fun n hn => mem_dd.1 hn

set_option maxHeartbeats 1000000 in
theorem c_Follows (hT : TabOk Try.prog tab) (v : Int) (F : List (List Int)) (c : List Int) (hF : F.length ≤ 1000) (hc : ∀ c ∈ F, c.length ≤ 1000) (hl : c.length ≤ 1000) (hb : ∀ n ∈ c, -9223372036854775808 ≤ n ∧ n ≤ 9223372036854775807) :
    Pure Try.prog G n_rup_Follows [fml v F, row c] fun u => u = .bool (follows v F c) := by
  intro t
  have hR := c_Right (P := Try.prog) (G := G) hT v F (by omega) (fun c h => by have := hc c h; omega)
  have hR2 := c_Right (P := Try.prog) (G := G) hT v [c] (by simp) (fun c h => by simp at h; subst h; omega)
  have hC := c_Clean (G := G) hT c hb (by omega)
  simp only [fml, rows, row, List.map_cons, List.map_nil] at hR hR2 hC ⊢
  have hR3 : Pure Try.prog G n_clause_Right [.agg [.int .i64 v, .lst 1 [.lst 1 (ints c) false] true]] fun u => u = .bool (right v [c]) :=
    hR2.args (.cons _ _ _ _ (.agg _ _ (.cons _ _ _ _ (.refl _) (.cons _ _ _ _ (.lst _ _ _ _ _ (.refl _) (.inr rfl)) .nil))) .nil)
  have hnF : namelessL [V.agg [V.int .i64 v, V.lst 1 (F.map row) false]] = true := by simp [namelessL, nameless]
  have hnL : namelessL [V.agg [V.int .i64 v, V.lst 1 [V.lst 1 (ints c) false] true]] = true := by simp [namelessL, nameless]
  refine C_keep 0 (Nat.zero_le _) (C_tab hT t_rup_Follows (by simp [rup_Follows]) (W_run 12 ?_))
  cases hr : right v F with
  | false =>
    have hf : follows v F c = false := by simp [follows, hr]
    rw [hr] at hR
    simp -implicitDefEqProofs (disch := omega) only [go_sem, ↓reduceIte, reduceCtorEq, Nat.reduceAdd, Nat.reduceEqDiff, Nat.zero_add, Nat.le_refl, rup_Follows, rup_Follows_r0, rup_Follows_r1, rup_Follows_r2, rup_Follows_r3, rup_Follows_r4, rup_Follows_r5, rup_Follows_r6, rup_Follows_r7, rup_Follows_r8, rup_Follows_r9, rup_Follows_r10, rup_Follows_r11, rup_Follows_r12, rup_Follows_r13, rup_Follows_r14, List.length_cons, List.length_nil, List.nil_append]
    refine callPS hT t_clause_Right hR hnF 2 ?_
    simp -implicitDefEqProofs (disch := omega) only [go_sem, ↓reduceIte, reduceCtorEq, Nat.reduceEqDiff, Bool.not_false]
    iterate 9 (try (refine run_sem 2 ?_; simp -implicitDefEqProofs (disch := omega) only [go_sem, ↓reduceIte, reduceCtorEq, Nat.reduceEqDiff, Nat.zero_add, Nat.zero_le, List.length_cons, List.length_nil, true_and]))
    try refine run_sem 1000 ?_
    try simp -implicitDefEqProofs (disch := omega) only [go_sem, need_of, ↓reduceIte, reduceCtorEq, Nat.reduceAdd, Nat.reduceEqDiff, Nat.reduceLeDiff, Nat.reduceLT, Nat.reduceSub, Nat.reduceMul, Int.reduceToNat, Int.reduceLE, Int.reduceLT, Int.reduceEq, Int.reduceNe, Nat.succ_ne_zero, Nat.zero_add, Nat.add_zero, Nat.mul_one, Nat.one_mul, Nat.zero_mul, decide_true, decide_false, Bool.not_true, Bool.not_false, Nat.le_refl, Nat.zero_le, ge_iff_le, gt_iff_lt, Nat.reduceBEq, Nat.reduceBNe, beq_self_eq_true, bne_self_eq_false, Option.isSome_some, Option.isSome_none, Option.getD_some, Option.getD_none, rup_Follows, rup_Follows_r0, rup_Follows_r1, rup_Follows_r2, rup_Follows_r3, rup_Follows_r4, rup_Follows_r5, rup_Follows_r6, rup_Follows_r7, rup_Follows_r8, rup_Follows_r9, rup_Follows_r10, rup_Follows_r11, rup_Follows_r12, rup_Follows_r13, rup_Follows_r14, List.length_map, ints_length, List.length_cons, List.length_nil, List.cons_append, List.nil_append]
    rw [hf]
  | true =>
    rw [hr] at hR
    cases hr2 : c.all (litOk v) with
    | false =>
      have hf : follows v F c = false := by simp [follows, hr, hr2]
      rw [right_one hr, hr2] at hR3
      simp -implicitDefEqProofs (disch := omega) only [go_sem, ↓reduceIte, reduceCtorEq, Nat.reduceAdd, Nat.reduceEqDiff, Nat.zero_add, Nat.le_refl, rup_Follows, rup_Follows_r0, rup_Follows_r1, rup_Follows_r2, rup_Follows_r3, rup_Follows_r4, rup_Follows_r5, rup_Follows_r6, rup_Follows_r7, rup_Follows_r8, rup_Follows_r9, rup_Follows_r10, rup_Follows_r11, rup_Follows_r12, rup_Follows_r13, rup_Follows_r14, List.length_cons, List.length_nil, List.nil_append]
      refine callPS hT t_clause_Right hR hnF 2 ?_
      simp -implicitDefEqProofs (disch := omega) only [go_sem, ↓reduceIte, reduceCtorEq, Nat.reduceEqDiff, Bool.not_true]
      iterate 5 (try (refine run_sem 2 ?_; simp -implicitDefEqProofs (disch := omega) only [go_sem, ↓reduceIte, reduceCtorEq, Nat.reduceAdd, Nat.reduceEqDiff, Nat.reduceLeDiff, Nat.zero_add, Nat.add_zero, Nat.le_refl, List.length_cons, List.length_nil, List.cons_append, List.nil_append, true_implies, and_true]))
      refine callPS hT t_clause_Right hR3 hnL 2 ?_
      simp -implicitDefEqProofs (disch := omega) only [go_sem, ↓reduceIte, reduceCtorEq, Nat.reduceAdd, Nat.reduceEqDiff, Bool.not_false]
      iterate 5 (try (refine run_sem 2 ?_; simp -implicitDefEqProofs (disch := omega) only [go_sem, ↓reduceIte, reduceCtorEq, Nat.reduceEqDiff, Nat.zero_add, Nat.zero_le, List.length_cons, List.length_nil, true_and]))
      try refine run_sem 1000 ?_
      try simp -implicitDefEqProofs (disch := omega) only [go_sem, need_of, ↓reduceIte, reduceCtorEq, Nat.reduceAdd, Nat.reduceEqDiff, Nat.reduceLeDiff, Nat.reduceLT, Nat.reduceSub, Nat.reduceMul, Int.reduceToNat, Int.reduceLE, Int.reduceLT, Int.reduceEq, Int.reduceNe, Nat.succ_ne_zero, Nat.zero_add, Nat.add_zero, Nat.mul_one, Nat.one_mul, Nat.zero_mul, decide_true, decide_false, Bool.not_true, Bool.not_false, Nat.le_refl, Nat.zero_le, ge_iff_le, gt_iff_lt, Nat.reduceBEq, Nat.reduceBNe, beq_self_eq_true, bne_self_eq_false, Option.isSome_some, Option.isSome_none, Option.getD_some, Option.getD_none, rup_Follows, rup_Follows_r0, rup_Follows_r1, rup_Follows_r2, rup_Follows_r3, rup_Follows_r4, rup_Follows_r5, rup_Follows_r6, rup_Follows_r7, rup_Follows_r8, rup_Follows_r9, rup_Follows_r10, rup_Follows_r11, rup_Follows_r12, rup_Follows_r13, rup_Follows_r14, List.length_map, ints_length, List.length_cons, List.length_nil, List.cons_append, List.nil_append]
      rw [hf]
    | true =>
      have hrt := (right_iff.1 hr)
      rw [right_one hr, hr2] at hR3
      cases hbad : bad c with
      | true =>
        have hf : follows v F c = true := by simp [follows, hr, hr2, hbad]
        have hcl : cleanS c = ([], false) := by rw [cleanS, hbad]; rfl
        rw [hcl] at hC
        simp -implicitDefEqProofs (disch := omega) only [go_sem, ↓reduceIte, reduceCtorEq, Nat.reduceAdd, Nat.reduceEqDiff, Nat.zero_add, Nat.le_refl, rup_Follows, rup_Follows_r0, rup_Follows_r1, rup_Follows_r2, rup_Follows_r3, rup_Follows_r4, rup_Follows_r5, rup_Follows_r6, rup_Follows_r7, rup_Follows_r8, rup_Follows_r9, rup_Follows_r10, rup_Follows_r11, rup_Follows_r12, rup_Follows_r13, rup_Follows_r14, List.length_cons, List.length_nil, List.nil_append]
        refine callPS hT t_clause_Right hR hnF 2 ?_
        simp -implicitDefEqProofs (disch := omega) only [go_sem, ↓reduceIte, reduceCtorEq, Nat.reduceEqDiff, Bool.not_true]
        iterate 5 (try (refine run_sem 2 ?_; simp -implicitDefEqProofs (disch := omega) only [go_sem, ↓reduceIte, reduceCtorEq, Nat.reduceAdd, Nat.reduceEqDiff, Nat.reduceLeDiff, Nat.zero_add, Nat.add_zero, Nat.le_refl, List.length_cons, List.length_nil, List.cons_append, List.nil_append, true_implies, and_true]))
        refine callPS hT t_clause_Right hR3 hnL 2 ?_
        simp -implicitDefEqProofs (disch := omega) only [go_sem, ↓reduceIte, reduceCtorEq, Nat.reduceAdd, Nat.reduceEqDiff, Bool.not_true]
        iterate 2 (try (refine run_sem 2 ?_; simp -implicitDefEqProofs (disch := omega) only [go_sem, ↓reduceIte, reduceCtorEq, Nat.reduceEqDiff]))
        try refine run_sem 1000 ?_
        try simp -implicitDefEqProofs (disch := omega) only [go_sem, ↓reduceIte, reduceCtorEq, Nat.reduceEqDiff]
        refine callPS hT t_clause_Clean hC (by simp [namelessL, nameless]) 1000 ?_
        simp -implicitDefEqProofs (disch := omega) only [go_sem, ↓reduceIte, reduceCtorEq, Nat.reduceAdd, Nat.reduceEqDiff, Nat.reduceLT, Nat.zero_add, Bool.not_false, Nat.zero_le, List.length_cons, List.length_nil]
        rw [hf]
      | false =>
        have hcl : cleanS c = (canon c, true) := by rw [cleanS, hbad]; rfl
        rw [hcl] at hC
        have hf : follows v F c = (units (assign F ((canon c).map fun n => -n))).isNone := by
          rw [units_left (right_nz hr) hbad]; simp [follows, hr, hr2, hbad]
        have hbn := bad_not hbad
        have hlit : ∀ n ∈ c, n ≠ 0 ∧ -v ≤ n ∧ n ≤ v := by simpa [litOk] using hr2
        have hcl2 := canon_len (c := c)
        have hq : ∀ n ∈ canon c, -16777216 ≤ n ∧ n ≤ 16777216 := fun n hn => by
          have := hlit n (mem_canon.1 hn); have := hrt.1; omega
        have hqn : ∀ n ∈ (canon c).map (fun n => -n), -9223372036854775808 ≤ n ∧ n ≤ 9223372036854775807 := fun n hn => by
          obtain ⟨m, hm, rfl⟩ := List.mem_map.1 hn
          have := hq m hm; omega
        have hA := c_Assign (P := Try.prog) (G := G) hT v F ((canon c).map fun n => -n) hF hc (by simp; omega) hqn
        have hav : assignV v F ((canon c).map fun n => -n) = .tup [fml v (assign F ((canon c).map fun n => -n)), .bool true] := by
          have h1 : right v [(canon c).map fun n => -n] = true := by
            rw [right_one hr]
            simp only [litOk, List.all_eq_true, List.mem_map, decide_eq_true_eq]
            rintro x ⟨m, hm, rfl⟩
            have := hlit m (mem_canon.1 hm); omega
          have h2 : (((canon c).map fun n => -n).any fun n => decide (neg n ∈ (canon c).map fun n => -n)) = false := by
            rw [List.any_eq_false]
            intro x hx
            obtain ⟨m, hm, rfl⟩ := List.mem_map.1 hx
            have hqm := hq m hm
            rw [neg_ne (by unfold mn; omega), decide_eq_true_eq]
            intro hh
            obtain ⟨k, hk, e⟩ := List.mem_map.1 hh
            have : k = -m := by omega
            exact (hbn m (mem_canon.1 hm)).2.2 (this ▸ mem_canon.1 hk)
          unfold assignV
          rw [hr, h1, h2]; rfl
        rw [hav] at hA
        have hU := c_Units (P := Try.prog) (G := G) hT sortU v (assign F ((canon c).map fun n => -n)) (by
          have : (assign F ((canon c).map fun n => -n)).length ≤ F.length := by unfold assign; rw [List.length_map]; exact List.length_filter_le _ _
          omega) (assign_len hc)
        rw [right_assign hr, if_pos rfl] at hU
        rw [hf]
        generalize assign F ((canon c).map fun n => -n) = B at hA hU ⊢
        generalize canon c = q at *
        simp only [fml, rows, row] at hA hU
        simp -implicitDefEqProofs (disch := omega) only [go_sem, ↓reduceIte, reduceCtorEq, Nat.reduceAdd, Nat.reduceEqDiff, Nat.zero_add, Nat.le_refl, rup_Follows, rup_Follows_r0, rup_Follows_r1, rup_Follows_r2, rup_Follows_r3, rup_Follows_r4, rup_Follows_r5, rup_Follows_r6, rup_Follows_r7, rup_Follows_r8, rup_Follows_r9, rup_Follows_r10, rup_Follows_r11, rup_Follows_r12, rup_Follows_r13, rup_Follows_r14, List.length_cons, List.length_nil, List.nil_append]
        refine callPS hT t_clause_Right hR hnF 2 ?_
        simp -implicitDefEqProofs (disch := omega) only [go_sem, ↓reduceIte, reduceCtorEq, Nat.reduceEqDiff, Bool.not_true]
        iterate 5 (try (refine run_sem 2 ?_; simp -implicitDefEqProofs (disch := omega) only [go_sem, ↓reduceIte, reduceCtorEq, Nat.reduceAdd, Nat.reduceEqDiff, Nat.reduceLeDiff, Nat.zero_add, Nat.add_zero, Nat.le_refl, List.length_cons, List.length_nil, List.cons_append, List.nil_append, true_implies, and_true]))
        refine callPS hT t_clause_Right hR3 hnL 2 ?_
        simp -implicitDefEqProofs (disch := omega) only [go_sem, ↓reduceIte, reduceCtorEq, Nat.reduceAdd, Nat.reduceEqDiff, Bool.not_true]
        iterate 2 (try (refine run_sem 2 ?_; simp -implicitDefEqProofs (disch := omega) only [go_sem, ↓reduceIte, reduceCtorEq, Nat.reduceEqDiff]))
        try refine run_sem 1000 ?_
        try simp -implicitDefEqProofs (disch := omega) only [go_sem, ↓reduceIte, reduceCtorEq, Nat.reduceEqDiff]
        refine callPS hT t_clause_Clean hC (by simp [namelessL, nameless]) 1000 ?_
        simp -implicitDefEqProofs (disch := omega) only [go_sem, need_of, ↓reduceIte, reduceCtorEq, Nat.reduceAdd, Nat.reduceEqDiff, Nat.reduceLT, Nat.zero_add, Bool.not_true, Nat.le_refl, ints_length, List.length_cons, List.length_nil, List.cons_append, List.nil_append]
        refine sem_invE (fJ t (t + 1) (t + 1 + 1) v F q) (fE t (t + 1) (t + 1 + 1) v F q) (m0 := q.length) ⟨0, by omega, rfl, ?_⟩ (fun m fr σ hJ => f_round hT hq (by omega) hJ) (fun e fr σ hE => ?_)
        · simp -implicitDefEqProofs (disch := omega) only [go_sem, ↓reduceIte, reduceCtorEq, Nat.reduceEqDiff]
          simp [fH, ints]
          try (induction q.length with | zero => rfl | succ k ih => rw [List.replicate_succ, List.flatten_cons, ih, List.replicate_succ]; rfl)
        · obtain ⟨rfl, f2, f7, rfl⟩ := hE
          refine run_sem 1 ?_
          simp -implicitDefEqProofs (disch := omega) only [go_sem, ↓reduceIte]
          refine run_stop ?_
          refine sem_slots [(2, .ptr 0 t 0), (7, .sl 1 (t + 1) 0 1 q.length none)] ⟨f2, f7, trivial⟩ ?_
          refine sem_shift (Shift.freeze (k := 1) (v := t + 1) (T := 3) (cs := ints (q.map fun n => -n)) (Nat.zero_le _) rfl (ints_nameless _)) ?_
          have hz : List.take q.length (ints (q.map fun n => -n)) = ints (q.map fun n => -n) := List.take_of_length_le (by simp [ints])
          simp only [frzFr_cons, frzFr_nil, frzV, rowsV, fH, mapFrom, Ob.mapV, List.set_cons_succ, List.set_cons_zero, Option.map_some, Option.map_none, List.map_cons, List.map_nil, ints_length, List.length_map]
          refine run_sem 1000 ?_
          simp -implicitDefEqProofs (disch := omega) only [go_sem, ↓reduceIte, reduceCtorEq, Nat.reduceAdd, Nat.reduceEqDiff, Nat.succ_ne_zero, Nat.zero_add, Nat.mul_one, Nat.le_refl, List.length_cons, List.length_nil, Nat.le_refl, hz]
          refine callPS hT t_clause_Assign hA (by simp [namelessL, nameless]) 1000 ?_
          simp -implicitDefEqProofs (disch := omega) only [go_sem, ↓reduceIte, reduceCtorEq, Nat.reduceAdd, Nat.reduceEqDiff, Nat.reduceLT, Nat.zero_add, Bool.not_false, Nat.le_refl, Nat.zero_le, List.length_cons, List.length_nil, List.cons_append, List.nil_append]
          have hnB : namelessL [V.agg [V.int .i64 v, V.lst 1 (B.map row) false]] = true := by simp [namelessL, nameless]
          cases hu : units B with
          | none =>
            rw [hu] at hU
            simp only at hU
            refine callPS hT t_clause_Units hU hnB 1000 ?_
            simp -implicitDefEqProofs (disch := omega) only [go_sem, ↓reduceIte, Nat.reduceAdd, Nat.reduceEqDiff, Nat.reduceLT, Nat.zero_add, Bool.not_false, Nat.zero_le, List.length_cons, List.length_nil]
            simp
          | some l =>
            rw [hu] at hU
            simp only at hU
            refine callPS hT t_clause_Units hU hnB 1000 ?_
            simp -implicitDefEqProofs (disch := omega) only [go_sem, ↓reduceIte, Nat.reduceAdd, Nat.reduceEqDiff, Nat.reduceLT, Nat.zero_add, Bool.not_true, Nat.zero_le, List.length_cons, List.length_nil]
            simp
end Go.Proofs.Ytingdebioipemaa
