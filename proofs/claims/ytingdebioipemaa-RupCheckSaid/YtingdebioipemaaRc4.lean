/- Contracts: the document's side of clauses: clean ones. -/
import Derived.Test.YtingdebioipemaaRc3
namespace Go.Proofs.Ytingdebioipemaa
open Go Go.Am Go.Cl
set_option maxRecDepth 100000
variable {P : Program} {G : Nat → Option V}

/-- What is returned holds a row of ours, which stays from then on; or none. -/
theorem Pure_frz {f : FuncId} {args : List V} {X : V} (h : ∀ t, C P G 0 f args ⟨t, []⟩ fun u σ => (nameless u = true ∧ Wk u X) ∨ ∃ k v' T cs, σ.o[k]? = some (some (.arr v' T cs)) ∧ namelessL cs = true ∧ nameless (frzV k v' cs u) = true ∧ Wk (frzV k v' cs u) X) (hX : nameless X = true) : Pure P G f args fun u => u = X := by
  intro t
  refine C_res (Q := fun u _ => nameless u = true ∧ Wk u X) (C_freezeO (h t) fun u σ hu => ?_) fun u σ hu => ⟨X, hu.2, hX, rfl⟩
  rcases hu with hu | ⟨k, v', T, cs, h1, h2, h3, h4⟩
  · exact .inl hu
  · exact .inr ⟨k, v', T, cs, Nat.zero_le _, h1, h2, h3, h4⟩
theorem wk_row0 (tight : Bool) : Wk (.lst 0 [] tight) (row []) := .lst _ _ _ _ _ .nil (.inl rfl)
theorem frz_row {k w T : Nat} {l : List Int} : frzV k w (ints l) (.sl k w 0 1 l.length none) = row l := by
  simp [frzV, rowsV, ints_length, row]
  rw [← ints_length l, List.take_length]
theorem nameless_row (l : List Int) : nameless (row l) = true := by simp [row, nameless]

theorem wneg_neg {n : Int} (h : -9223372036854775808 ≤ n ∧ n ≤ 9223372036854775807) : IntKind.i64.wrap (0 - n) = neg n := by
  unfold neg
  split
  · subst n; decide
  · rw [wself (by omega)]; omega
theorem max_neg {n : Int} : (if n < -n then -n else n) = av n := by unfold av; split <;> split <;> omega
theorem c_before (hT : TabOk P tab) (a b : Int) (ha : -9223372036854775808 < a ∧ a ≤ 9223372036854775807) (hb : -9223372036854775808 < b ∧ b ≤ 9223372036854775807) : Pure P G n_proofmarkref05_before [.int .i64 a, .int .i64 b] fun u => u = .bool (decide (av a < av b)) := by
  intro t
  have h1 := wneg_neg (n := a) (by omega)
  have h2 := wneg_neg (n := b) (by omega)
  rw [neg, if_neg (by omega)] at h1 h2
  refine C_keep 0 (Nat.zero_le _) (C_tab hT t_proofmarkref05_before (by simp [proofmarkref05_before]) (W_run 1000 ?_))
  simp -implicitDefEqProofs (disch := omega) only [go_sem, ↓reduceIte, reduceCtorEq, Nat.reduceEqDiff, Nat.zero_add, Nat.le_refl, gt_iff_lt, proofmarkref05_before, proofmarkref05_before_r0, proofmarkref05_before_r1, h1, h2, max_neg]

theorem put_ints {Q S : List Int} {p n : Int} : (ints (Q ++ n :: S)).take Q.length ++ [V.int .i64 p] ++ (ints (Q ++ n :: S)).drop (Q.length + 1) = ints (Q ++ p :: S) := by
  simp [ints, List.drop_append]
theorem put_ints2 {Q S : List Int} {p n q : Int} : (ints (Q ++ q :: n :: S)).take (Q.length + 1) ++ [V.int .i64 p] ++ (ints (Q ++ q :: n :: S)).drop (Q.length + 1 + 1) = ints (Q ++ q :: p :: S) := by
  have := put_ints (Q := Q ++ [q]) (S := S) (p := p) (n := n)
  simpa using this
theorem get_mid {Q S : List Int} {n : Int} : (ints (Q ++ n :: S)).getD Q.length .any = .int .i64 n := by simp [ints, List.getD_eq_getElem?_getD]
theorem get_mid2 {Q S : List Int} {p n : Int} : (ints (Q ++ p :: n :: S)).getD (Q.length + 1) .any = .int .i64 n := by simp [ints, List.getD_eq_getElem?_getD]

/-- A literal goes down its row. -/
abbrev rdnJ (t tw : Nat) (c : List Int) (i z : Nat) (n : Int) (l : List Int) : Nat → Fr → H → Prop := fun m fr σ => ∃ Q S, m = Q.length ∧ Q ++ S = l ∧ (∀ s ∈ S, av n < av s) ∧ fget fr 0 = .lst 1 (ints c) false ∧ fget fr 4 = .sl 0 tw 0 1 (z + 1) none ∧ fget fr 5 = .int .i64 ((i : Nat) : Int) ∧ fget fr 6 = .int .i64 ((m : Nat) : Int) ∧ σ = ⟨t, [some (.arr tw 3 (ints (Q ++ n :: S)))]⟩
abbrev rdnE (t tw : Nat) (c : List Int) (i z : Nat) (n : Int) (l : List Int) : AE → Fr → H → Prop := fun e fr σ => e = .ex 2 ∧ ∃ Q S, Q ++ S = l ∧ Srt (Q ++ n :: S) ∧ fget fr 0 = .lst 1 (ints c) false ∧ fget fr 4 = .sl 0 tw 0 1 (z + 1) none ∧ fget fr 5 = .int .i64 ((i : Nat) : Int) ∧ σ = ⟨t, [some (.arr tw 3 (ints (Q ++ n :: S)))]⟩
theorem wpred {q : Nat} (h : q ≤ 1000000) : IntKind.i64.wrap (((q + 1 : Nat) : Int) - 1) = ((q : Nat) : Int) := by rw [wself (by omega)]; omega
theorem rdn_round (hT : TabOk P tab) {t tw : Nat} {c : List Int} {i z : Nat} {n : Int} {l : List Int} (hl : Srt l) (hn : ∀ s ∈ l, av s ≠ av n) (hb : ∀ s ∈ n :: l, -9223372036854775808 < s ∧ s ≤ 9223372036854775807) (hz : l.length = z) (hlen : z ≤ 1000000) {m : Nat} {fr : Fr} {σ : H} (hJ : rdnJ t tw c i z n l m fr σ) :
    W P G 76 0 (AC.seq (AC.seq (AC.reg proofmarkref05_Clean_r9 [43, 44, 45, 46, 47, 48, 49, 50, 51, 52, 53, 54, 55])   (AC.cond (Arg.t 56)   AC.skip   (AC.exit 2)))   (AC.seq (AC.block 3 (AC.reg proofmarkref05_Clean_r10 [59, 60, 61, 62, 63, 64, 65, 66, 67, 68, 69, 70, 71, 72, 73, 74]))   (AC.reg proofmarkref05_Clean_r11 [57, 58]))) fr σ (seqQ (fun fr σ => ∃ m' fr' σ', m' < m ∧ Shift G 76 0 fr σ fr' σ' ∧ rdnJ t tw c i z n l m' fr' σ') (rdnE t tw c i z n l)) := by
  obtain ⟨Q, S, hq, hQS, hS, f0, f4, f5, f6, rfl⟩ := hJ
  rcases List.eq_nil_or_concat Q with rfl | ⟨Q, p, rfl⟩
  · rw [List.length_nil] at hq
    subst hq
    refine W_round [(0, .lst 1 (ints c) false), (4, .sl 0 tw 0 1 (z + 1) none), (5, .int .i64 ((i : Nat) : Int)), (6, .int .i64 0)] ⟨f0, f4, f5, f6, trivial⟩  14 ?_
    simp -implicitDefEqProofs (disch := omega) only [go_sem, ↓reduceIte, reduceCtorEq, Nat.reduceEqDiff, decide_false, gt_iff_lt, proofmarkref05_Clean_r9, proofmarkref05_Clean_r10, proofmarkref05_Clean_r11, Int.lt_irrefl]
    iterate 9 (try (refine run_sem 2 ?_; simp -implicitDefEqProofs (disch := omega) only [go_sem, ↓reduceIte, reduceCtorEq, Nat.reduceEqDiff]))
    iterate 4 (try (refine run_sem 4 ?_; simp -implicitDefEqProofs (disch := omega) only [go_sem, need_of, ↓reduceIte, reduceCtorEq, Nat.reduceAdd, Nat.reduceEqDiff, Nat.reduceLeDiff, Nat.reduceLT, Nat.reduceSub, Nat.reduceMul, Int.reduceToNat, Int.reduceLE, Int.reduceLT, Int.reduceEq, Int.reduceNe, Nat.succ_ne_zero, Nat.zero_add, Nat.add_zero, Nat.mul_one, Nat.one_mul, Nat.zero_mul, decide_true, decide_false, Bool.not_true, Bool.not_false, Nat.le_refl, Nat.zero_le, ge_iff_le, gt_iff_lt, Nat.reduceBEq, Nat.reduceBNe, beq_self_eq_true, bne_self_eq_false, Option.isSome_some, Option.isSome_none, Option.getD_some, Option.getD_none, proofmarkref05_Clean, proofmarkref05_Clean_r0, proofmarkref05_Clean_r1, proofmarkref05_Clean_r2, proofmarkref05_Clean_r3, proofmarkref05_Clean_r4, proofmarkref05_Clean_r5, proofmarkref05_Clean_r6, proofmarkref05_Clean_r7, proofmarkref05_Clean_r8, proofmarkref05_Clean_r9, proofmarkref05_Clean_r10, proofmarkref05_Clean_r11, proofmarkref05_Clean_r12, proofmarkref05_Clean_r13, List.length_map, ints_length, false_implies, true_implies, true_and, and_true, not_true_eq_false, not_false_eq_true, List.length_append, List.length_cons]))
    exact ⟨rfl, [], S, hQS, srt_put (P := []) (hQS ▸ hl) hS (by simp), rfl, rfl, rfl, rfl⟩
  · rw [List.concat_eq_append] at *
    rw [List.length_append, List.length_singleton] at hq
    rw [List.append_assoc] at hQS
    have hQz : Q.length + S.length + 1 = z := by rw [← hz, ← hQS]; simp; omega
    subst hq
    have w1 := wpred (q := Q.length) (by omega)
    have w2 : (0 : Int) < ((Q.length + 1 : Nat) : Int) := by omega
    have w2' : decide ((0 : Int) < ((Q.length + 1 : Nat) : Int)) = true := decide_eq_true w2
    have g1 := get_mid (Q := Q) (S := n :: S) (n := p)
    have g2 := get_mid2 (Q := Q) (S := S) (p := p) (n := n)
    have g3 := put_ints2 (Q := Q) (S := S) (p := p) (n := n) (q := p)
    have g4 := put_ints (Q := Q) (S := p :: S) (p := n) (n := p)
    have hp : p ∈ l := by rw [← hQS]; simp
    have hB := c_before (P := P) (G := G) hT n p (hb n (by simp)) (hb p (by simp [hp]))
    have e1 : Q ++ [p] ++ n :: S = Q ++ p :: n :: S := by simp
    by_cases hlt : av n < av p
    · have hlt' : decide (av n < av p) = true := by simpa using hlt
      rw [hlt'] at hB
      rw [e1]
      refine W_round [(0, .lst 1 (ints c) false), (4, .sl 0 tw 0 1 (z + 1) none), (5, .int .i64 ((i : Nat) : Int)), (6, .int .i64 ((Q.length + 1 : Nat) : Int))] ⟨f0, f4, f5, f6, trivial⟩  14 ?_
      simp -implicitDefEqProofs (disch := omega) only [go_sem, need_of, ↓reduceIte, reduceCtorEq, Nat.reduceAdd, Nat.reduceEqDiff, Nat.zero_add, Nat.mul_one, decide_true, gt_iff_lt, proofmarkref05_Clean_r9, proofmarkref05_Clean_r10, proofmarkref05_Clean_r11, ints_length, true_implies, true_and, and_true, List.length_append, List.length_cons, w1, w2, g2]
      iterate 4 (try (refine run_sem 2 ?_; simp -implicitDefEqProofs (disch := omega) only [go_sem, need_of, ↓reduceIte, reduceCtorEq, Nat.reduceAdd, Nat.reduceEqDiff, Nat.zero_add, ints_length, true_implies, true_and, and_true, List.length_append, List.length_cons, g1]))
      refine callPS hT t_proofmarkref05_before hB rfl 4 ?_
      simp -implicitDefEqProofs (disch := omega) only [go_sem, ↓reduceIte, reduceCtorEq, Nat.reduceEqDiff]
      iterate 9 (try (refine run_sem 4 ?_; simp -implicitDefEqProofs (disch := omega) only [go_sem, need_of, ↓reduceIte, reduceCtorEq, Nat.reduceEqDiff, Nat.zero_add, Nat.mul_one, Bool.not_false, Nat.le_refl, ints_length, true_implies, true_and, and_true, List.length_append, List.length_cons, w1, g1, g2, g3, g4]))
      refine ⟨Q.length, _, _, by omega, Shift.refl _ _ _ _, Q, p :: S, rfl, by rw [← hQS]; simp, fun s hs => ?_, ?_⟩
      · rcases List.mem_cons.1 hs with rfl | hs
        · exact hlt
        · exact hS s hs
      · simp -implicitDefEqProofs (disch := omega) only [go_sem, ↓reduceIte, reduceCtorEq, Nat.reduceEqDiff, and_true]
    · have hlt' : decide (av n < av p) = false := by simpa using hlt
      rw [hlt'] at hB
      rw [e1]
      have hsr : Srt (Q ++ p :: n :: S) := by
        have := srt_put (P := Q ++ [p]) (S := S) (n := n) (by rw [← hQS] at hl; simpa using hl) hS (fun q hq => by
          simp at hq; subst hq
          have := hn p hp; omega)
        rwa [e1] at this
      refine W_round [(0, .lst 1 (ints c) false), (4, .sl 0 tw 0 1 (z + 1) none), (5, .int .i64 ((i : Nat) : Int)), (6, .int .i64 ((Q.length + 1 : Nat) : Int))] ⟨f0, f4, f5, f6, trivial⟩  14 ?_
      simp -implicitDefEqProofs (disch := omega) only [go_sem, need_of, ↓reduceIte, reduceCtorEq, Nat.reduceAdd, Nat.reduceEqDiff, Nat.zero_add, Nat.mul_one, decide_true, gt_iff_lt, proofmarkref05_Clean_r9, proofmarkref05_Clean_r10, proofmarkref05_Clean_r11, ints_length, true_implies, true_and, and_true, List.length_append, List.length_cons, w1, w2, g2]
      iterate 4 (try (refine run_sem 2 ?_; simp -implicitDefEqProofs (disch := omega) only [go_sem, need_of, ↓reduceIte, reduceCtorEq, Nat.reduceAdd, Nat.reduceEqDiff, Nat.zero_add, ints_length, true_implies, true_and, and_true, List.length_append, List.length_cons, g1]))
      refine callPS hT t_proofmarkref05_before hB rfl 4 ?_
      simp -implicitDefEqProofs (disch := omega) only [go_sem, ↓reduceIte, reduceCtorEq, Nat.reduceEqDiff]
      iterate 9 (try (refine run_sem 4 ?_; simp -implicitDefEqProofs (disch := omega) only [go_sem]))
      exact ⟨rfl, Q ++ [p], S, by rw [← hQS]; simp, by rw [e1]; exact hsr, rfl, rfl, rfl, by rw [e1]⟩
abbrev rcnJ (c : List Int) : Nat → Fr → H → Prop := fun i fr σ => ∃ out t tw, Srt out ∧ (∀ x, x ∈ out ↔ x ∈ c.take i) ∧ (∀ x ∈ c.take i, x ≠ 0 ∧ neg x ∉ c) ∧ fget fr 0 = .lst 1 (ints c) false ∧ fget fr 4 = .sl 0 tw 0 1 out.length none ∧ fget fr 5 = .int .i64 ((i : Nat) : Int) ∧ σ = ⟨t, [some (.arr tw 3 (ints out))]⟩
abbrev rcnE (c : List Int) : AE → Fr → H → Prop := fun e fr σ => (e = .ret ∧ bad c = true ∧ fget fr 2 = .lst 0 [] true ∧ fget fr 3 = .bool false) ∨ (e = .ex 0 ∧ bad c = false ∧ ∃ t tw, fget fr 4 = .sl 0 tw 0 1 (canon c).length none ∧ σ = ⟨t, [some (.arr tw 3 (ints (canon c)))]⟩)
theorem srt_nodup {l : List Int} (h : Srt l) : l.Nodup := List.Pairwise.imp (fun {a b} (h : av a < av b) (e : a = b) => by rw [e] at h; omega) h
theorem bad_of {c : List Int} {n : Int} (h : n ∈ c) (k : n = 0 ∨ neg n ∈ c) : bad c = true := bad_iff.2 ⟨n, h, k⟩
theorem rcn_round (hT : TabOk P tab) {c : List Int} (hb : ∀ n ∈ c, -9223372036854775808 ≤ n ∧ n ≤ 9223372036854775807) (hl : c.length ≤ 1000000) {i : Nat} {n : Int} (ha : c[i]? = some n) {fr : Fr} {σ : H} (hJ : rcnJ c i fr σ) :
    W P G 76 0 (AC.seq (AC.seq (AC.reg proofmarkref05_Clean_r3 [7, 8, 9])   (AC.cond (Arg.t 10)   AC.skip   (AC.exit 0)))   (AC.seq (AC.block 1 (AC.seq (AC.seq (AC.reg proofmarkref05_Clean_r4 [13, 14, 15, 16, 17, 18, 19, 20, 21, 22, 23, 24, 25])   (AC.cond (Arg.t 26)   (AC.seq (AC.reg proofmarkref05_Clean_r5 [])   AC.ret)   AC.skip))   (AC.seq (AC.seq (AC.reg proofmarkref05_Clean_r6 [27, 28, 29, 30, 31])   (AC.cond (Arg.t 32)   (AC.exit 1)   AC.skip))   (AC.seq (AC.reg proofmarkref05_Clean_r7 [33, 34, 35, 36, 37, 38, 39])   (AC.seq (AC.reg proofmarkref05_Clean_r8 [40, 41, 42])   (AC.block 2 (AC.loop (AC.seq (AC.seq (AC.reg proofmarkref05_Clean_r9 [43, 44, 45, 46, 47, 48, 49, 50, 51, 52, 53, 54, 55])   (AC.cond (Arg.t 56)   AC.skip   (AC.exit 2)))   (AC.seq (AC.block 3 (AC.reg proofmarkref05_Clean_r10 [59, 60, 61, 62, 63, 64, 65, 66, 67, 68, 69, 70, 71, 72, 73, 74]))   (AC.reg proofmarkref05_Clean_r11 [57, 58]))))))))))   (AC.reg proofmarkref05_Clean_r12 [11, 12]))) fr σ (seqQ (fun fr σ => ∃ fr' σ', Shift G 76 0 fr σ fr' σ' ∧ rcnJ c (i + 1) fr' σ') (rcnE c)) := by
  obtain ⟨out, t, tw, hs, hm, hno, f0, f4, f5, rfl⟩ := hJ
  obtain ⟨hlt, hD, e2⟩ := at_ints ha (by omega)
  have hnm := List.mem_of_getElem? ha
  have hts := take_snoc ha
  have hol : out.length ≤ 1000000 := by
    have := nodup_sub (srt_nodup hs) (m := c) fun x hx => List.mem_of_mem_take ((hm x).1 hx)
    omega
  have hneg := wneg_neg (hb n hnm)
  by_cases h0 : n = 0
  · have h0' : (n == 0) = true := by simp [h0]
    have hbad := bad_of hnm (.inl h0)
    refine W_round [(0, .lst 1 (ints c) false), (4, .sl 0 tw 0 1 out.length none), (5, .int .i64 ((i : Nat) : Int))] ⟨f0, f4, f5, trivial⟩  14 ?_
    simp -implicitDefEqProofs (disch := omega) only [go_sem, ↓reduceIte, reduceCtorEq, Nat.reduceEqDiff, decide_true, proofmarkref05_Clean_r3, proofmarkref05_Clean_r4, proofmarkref05_Clean_r5, proofmarkref05_Clean_r6, proofmarkref05_Clean_r7, proofmarkref05_Clean_r8, proofmarkref05_Clean_r9, proofmarkref05_Clean_r10, proofmarkref05_Clean_r11, proofmarkref05_Clean_r12, ints_length, hlt]
    iterate 9 (try (refine run_sem 4 ?_; simp -implicitDefEqProofs (disch := omega) only [go_sem, need_of, ↓reduceIte, reduceCtorEq, Nat.reduceEqDiff, Nat.zero_add, Nat.le_refl, beq_self_eq_true, ints_length, true_implies, and_true, List.length_cons, hlt, hD, h0]))
    exact .inl ⟨rfl, hbad, rfl, rfl⟩
  have h0' : (n == 0) = false := by simpa using h0
  have hH := c_has (P := P) (G := G) hT c (neg n) (by omega)
  have hH2 := c_has (P := P) (G := G) hT out n (by omega)
  simp only [row] at hH hH2
  by_cases h1 : neg n ∈ c
  · have h1' : decide (neg n ∈ c) = true := by simpa using h1
    have hbad := bad_of hnm (.inr h1)
    rw [h1'] at hH
    refine W_round [(0, .lst 1 (ints c) false), (4, .sl 0 tw 0 1 out.length none), (5, .int .i64 ((i : Nat) : Int))] ⟨f0, f4, f5, trivial⟩  14 ?_
    simp -implicitDefEqProofs (disch := omega) only [go_sem, ↓reduceIte, reduceCtorEq, Nat.reduceEqDiff, decide_true, proofmarkref05_Clean_r3, proofmarkref05_Clean_r4, proofmarkref05_Clean_r5, proofmarkref05_Clean_r6, proofmarkref05_Clean_r7, proofmarkref05_Clean_r8, proofmarkref05_Clean_r9, proofmarkref05_Clean_r10, proofmarkref05_Clean_r11, proofmarkref05_Clean_r12, ints_length, hlt]
    iterate 9 (try (refine run_sem 2 ?_; simp -implicitDefEqProofs (disch := omega) only [go_sem, need_of, ↓reduceIte, reduceCtorEq, Nat.reduceAdd, Nat.reduceEqDiff, Nat.zero_add, Nat.le_refl, ints_length, true_implies, and_true, List.length_cons, h0', hneg, hlt, hD]))
    refine callPS hT t_proofmarkref05_has hH (by simp [namelessL, nameless]) 4 ?_
    simp -implicitDefEqProofs (disch := omega) only [go_sem, ↓reduceIte, reduceCtorEq, Nat.reduceEqDiff]
    iterate 9 (try (refine run_sem 4 ?_; simp -implicitDefEqProofs (disch := omega) only [go_sem, ↓reduceIte, reduceCtorEq, Nat.reduceEqDiff]))
    exact .inl ⟨rfl, hbad, rfl, rfl⟩
  have h1' : decide (neg n ∈ c) = false := by simpa using h1
  rw [h1'] at hH
  have hno2 : ∀ x ∈ c.take (i + 1), x ≠ 0 ∧ neg x ∉ c := fun x hx => by
    rw [hts, List.mem_append] at hx
    rcases hx with hx | hx
    · exact hno x hx
    · simp at hx; subst hx; exact ⟨h0, h1⟩
  by_cases h2 : n ∈ out
  · have h2' : decide (n ∈ out) = true := by simpa using h2
    rw [h2'] at hH2
    have hm2 : ∀ x, x ∈ out ↔ x ∈ c.take (i + 1) := fun x => by
      rw [hts, List.mem_append, ← hm x]
      simp only [List.mem_singleton]
      exact ⟨.inl, fun h => h.elim id fun e => e ▸ h2⟩
    refine W_round [(0, .lst 1 (ints c) false), (4, .sl 0 tw 0 1 out.length none), (5, .int .i64 ((i : Nat) : Int))] ⟨f0, f4, f5, trivial⟩  14 ?_
    simp -implicitDefEqProofs (disch := omega) only [go_sem, ↓reduceIte, reduceCtorEq, Nat.reduceEqDiff, decide_true, proofmarkref05_Clean_r3, proofmarkref05_Clean_r4, proofmarkref05_Clean_r5, proofmarkref05_Clean_r6, proofmarkref05_Clean_r7, proofmarkref05_Clean_r8, proofmarkref05_Clean_r9, proofmarkref05_Clean_r10, proofmarkref05_Clean_r11, proofmarkref05_Clean_r12, ints_length, hlt]
    iterate 9 (try (refine run_sem 2 ?_; simp -implicitDefEqProofs (disch := omega) only [go_sem, need_of, ↓reduceIte, reduceCtorEq, Nat.reduceAdd, Nat.reduceEqDiff, Nat.zero_add, Nat.le_refl, ints_length, true_implies, and_true, List.length_cons, h0', hneg, hlt, hD]))
    refine callPS hT t_proofmarkref05_has hH (by simp [namelessL, nameless]) 4 ?_
    simp -implicitDefEqProofs (disch := omega) only [go_sem, ↓reduceIte, reduceCtorEq, Nat.reduceEqDiff]
    iterate 5 (try (refine run_sem 4 ?_; simp -implicitDefEqProofs (disch := omega) only [go_sem, need_of, ↓reduceIte, reduceCtorEq, Nat.reduceEqDiff, Nat.zero_add, Nat.le_refl, ints_length, true_implies, and_true, List.length_cons, hlt, hD]))
    refine callView hT t_proofmarkref05_has hH2 (.cons _ _ _ _ (seen_ints rfl) (.cons _ _ _ _ (.same _ rfl) .nil)) rfl 1000 ?_
    simp -implicitDefEqProofs (disch := omega) only [go_sem, ↓reduceIte, reduceCtorEq, Nat.reduceEqDiff]
    refine ⟨_, _, Shift.refl _ _ _ _, out, t, tw, hs, hm2, hno2, ?_⟩
    simp -implicitDefEqProofs (disch := omega) only [go_sem, ↓reduceIte, reduceCtorEq, Nat.reduceEqDiff, and_true, e2]
  · have h2' : decide (n ∈ out) = false := by simpa using h2
    rw [h2'] at hH2
    have w1 := wpred (q := out.length) hol
    have hap : ints out ++ [V.int .i64 n] = ints (out ++ [n]) := by simp [ints]
    have hne : ∀ s ∈ out, av s ≠ av n := fun s hs' e => by
      obtain ⟨hs0, hs1⟩ := hno s ((hm s).1 hs')
      have hsc : s ∈ c := List.mem_of_mem_take ((hm s).1 hs')
      have hsm : s ≠ mn := fun e' => hs1 (by subst e'; exact hsc)
      by_cases e2 : s = n
      · exact h2 (e2 ▸ hs')
      · have : n = -s := by unfold av at e; split at e <;> split at e <;> omega
        rw [neg_ne hsm, ← this] at hs1
        exact hs1 hnm
    have hbn : ∀ s ∈ n :: out, -9223372036854775808 < s ∧ s ≤ 9223372036854775807 := fun s hs' => by
      have hk : s ∈ c ∧ neg s ∉ c := by
        rcases List.mem_cons.1 hs' with rfl | hs'
        · exact ⟨hnm, h1⟩
        · exact ⟨List.mem_of_mem_take ((hm s).1 hs'), (hno s ((hm s).1 hs')).2⟩
      have hsm : s ≠ mn := fun e' => hk.2 (by subst e'; exact hk.1)
      have := hb s hk.1
      unfold mn at hsm
      omega
    refine W_round [(0, .lst 1 (ints c) false), (4, .sl 0 tw 0 1 out.length none), (5, .int .i64 ((i : Nat) : Int))] ⟨f0, f4, f5, trivial⟩  14 ?_
    simp -implicitDefEqProofs (disch := omega) only [go_sem, ↓reduceIte, reduceCtorEq, Nat.reduceEqDiff, decide_true, proofmarkref05_Clean_r3, proofmarkref05_Clean_r4, proofmarkref05_Clean_r5, proofmarkref05_Clean_r6, proofmarkref05_Clean_r7, proofmarkref05_Clean_r8, proofmarkref05_Clean_r9, proofmarkref05_Clean_r10, proofmarkref05_Clean_r11, proofmarkref05_Clean_r12, ints_length, hlt]
    iterate 9 (try (refine run_sem 2 ?_; simp -implicitDefEqProofs (disch := omega) only [go_sem, need_of, ↓reduceIte, reduceCtorEq, Nat.reduceAdd, Nat.reduceEqDiff, Nat.zero_add, Nat.le_refl, ints_length, true_implies, and_true, List.length_cons, h0', hneg, hlt, hD]))
    refine callPS hT t_proofmarkref05_has hH (by simp [namelessL, nameless]) 4 ?_
    simp -implicitDefEqProofs (disch := omega) only [go_sem, ↓reduceIte, reduceCtorEq, Nat.reduceEqDiff]
    iterate 5 (try (refine run_sem 4 ?_; simp -implicitDefEqProofs (disch := omega) only [go_sem, need_of, ↓reduceIte, reduceCtorEq, Nat.reduceEqDiff, Nat.zero_add, Nat.le_refl, ints_length, true_implies, and_true, List.length_cons, hlt, hD]))
    refine callView hT t_proofmarkref05_has hH2 (.cons _ _ _ _ (seen_ints rfl) (.cons _ _ _ _ (.same _ rfl) .nil)) rfl 1000 ?_
    simp -implicitDefEqProofs (disch := omega) only [go_sem, need_of, ↓reduceIte, reduceCtorEq, Nat.reduceEqDiff, Nat.reduceLeDiff, Nat.zero_add, Nat.mul_one, Bool.not_true, Nat.le_refl, ints_length, true_implies, true_and, and_true, List.length_cons, hlt, hD, w1]
    refine sem_invE (rdnJ (t + 1) t c i out.length n out) (rdnE (t + 1) t c i out.length n out) (m0 := out.length) ⟨out, [], rfl, by simp, by simp, ?_⟩ (fun m fr σ hJ => rdn_round hT hs hne hbn rfl hol hJ) (fun e fr σ hE => ?_)
    · rw [← hap]
      simp -implicitDefEqProofs (disch := omega) only [go_sem, ↓reduceIte, reduceCtorEq, Nat.reduceEqDiff, and_true]
    · obtain ⟨rfl, Q, S, hQS, hsr, f0, f4, f5, rfl⟩ := hE
      subst hQS
      have hm2 : ∀ x, x ∈ Q ++ n :: S ↔ x ∈ c.take (i + 1) := fun x => by
        rw [hts, List.mem_append (s := c.take i), ← hm x, mem_put]
        simp only [List.mem_singleton]
      refine run_sem 1000 ?_
      simp -implicitDefEqProofs (disch := omega) only [go_sem, ↓reduceIte, f5]
      refine ⟨_, _, Shift.refl _ _ _ _, Q ++ n :: S, t + 1, t, hsr, hm2, hno2, ?_⟩
      simp -implicitDefEqProofs (disch := omega) only [go_sem, ↓reduceIte, reduceCtorEq, Nat.reduceEqDiff, Nat.succ_ne_zero, and_true, List.length_append, List.length_cons, f0, f4, e2, Nat.add_assoc]
set_option maxHeartbeats 1000000 in
theorem c_rClean (hT : TabOk P tab) (c : List Int) (hb : ∀ n ∈ c, -9223372036854775808 ≤ n ∧ n ≤ 9223372036854775807) (hl : c.length ≤ 1000000) : Pure P G n_proofmarkref05_Clean [row c] fun u => u = .tup [row (cleanS c).1, .bool (cleanS c).2] := by
  refine Pure_frz (fun t => ?_) (by simp [nameless, namelessL, nameless_row])
  simp only [row]
  refine C_tab hT t_proofmarkref05_Clean (by simp [proofmarkref05_Clean]) (W_run 1000 ?_)
  simp -implicitDefEqProofs (disch := omega) only [go_sem, ↓reduceIte, reduceCtorEq, Nat.reduceEqDiff, proofmarkref05_Clean, proofmarkref05_Clean_r0, proofmarkref05_Clean_r1, proofmarkref05_Clean_r2, proofmarkref05_Clean_r3, proofmarkref05_Clean_r4, proofmarkref05_Clean_r5, proofmarkref05_Clean_r6, proofmarkref05_Clean_r7, proofmarkref05_Clean_r8, proofmarkref05_Clean_r9, proofmarkref05_Clean_r10, proofmarkref05_Clean_r11, proofmarkref05_Clean_r12, proofmarkref05_Clean_r13]
  refine sem_shift (Shift.own (s := 4) (z := 0) (sz := 1) (T := 3) (by simp -implicitDefEqProofs (disch := omega) only [go_sem, ↓reduceIte, reduceCtorEq, Nat.reduceEqDiff]) (by decide)) ?_
  simp -implicitDefEqProofs (disch := omega) only [go_sem, ↓reduceIte, reduceCtorEq, Nat.reduceEqDiff, H.push, List.length_nil, List.nil_append]
  refine sem_for c (rcnJ c) (rcnE c) ⟨[], t + 1, t, .nil, by simp, by simp, ?_⟩ (fun i n ha fr σ hJ => rcn_round hT hb hl ha hJ) (fun i hi fr σ hJ => ?_) (fun e fr σ hE => ?_)
  · simp -implicitDefEqProofs (disch := omega) only [go_sem, ↓reduceIte, reduceCtorEq, Nat.reduceEqDiff, true_and]
    simp [ints]
  · obtain ⟨out, t, tw, hs, hm, hno, f0, f4, f5, rfl⟩ := hJ
    rw [hi, List.take_length] at hm hno
    have hbad : bad c = false := by
      rw [Bool.eq_false_iff, ne_eq, bad_iff]
      rintro ⟨n, hn, h⟩
      exact h.elim (hno n hn).1 (hno n hn).2
    have ho := canon_is hbad hs hm
    refine W_round [(0, .lst 1 (ints c) false), (4, .sl 0 tw 0 1 out.length none), (5, .int .i64 ((i : Nat) : Int))] ⟨f0, f4, f5, trivial⟩  1000 ?_
    simp -implicitDefEqProofs (disch := omega) only [go_sem, ↓reduceIte, reduceCtorEq, Nat.reduceEqDiff, decide_false, ints_length, hi, Nat.lt_irrefl]
    exact .inr ⟨rfl, hbad, t, tw, by rw [ho]; rfl, by rw [ho]⟩
  · rcases hE with ⟨rfl, hbad, f2, f3⟩ | ⟨rfl, hbad, t, tw, f4, rfl⟩
    · refine run_sem 1000 ?_
      have hcs : cleanS c = ([], false) := by rw [cleanS, if_pos hbad]
      simp -implicitDefEqProofs (disch := omega) only [go_sem, true_and, f2, f3, hcs]
      exact .inl (.tup _ _ (.cons _ _ _ _ (wk_row0 _) (.cons _ _ _ _ (.refl _) .nil)))
    · refine run_sem 1000 ?_
      have hcs : cleanS c = (canon c, true) := by rw [cleanS, if_neg (by simp [hbad])]
      simp -implicitDefEqProofs (disch := omega) only [go_sem, ↓reduceIte, Nat.reduceEqDiff, f4, hcs]
      refine ⟨0, tw, _, ints (canon c), rfl, ints_nameless _, ?_, ?_⟩
      · simp only [frzV, frzL] at *
        have := frz_row (k := 0) (w := tw) (T := 0) (l := canon c)
        simp only [frzV] at this
        rw [this]
        simp [nameless, namelessL, nameless_row]
      · have := frz_row (k := 0) (w := tw) (T := 0) (l := canon c)
        simp only [frzV, frzL] at this ⊢
        rw [this]
        exact .refl _
end Go.Proofs.Ytingdebioipemaa
