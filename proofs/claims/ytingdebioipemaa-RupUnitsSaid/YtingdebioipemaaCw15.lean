/- Contracts of the laws' own aids. -/
import Derived.Test.YtingdebioipemaaCw14
namespace Go.Proofs.Ytingdebioipemaa
open Go Go.Am Go.Cl
set_option maxRecDepth 100000
variable {P : Program} {G : Nat → Option V}

def fewS (F : List (List Int)) (k : Int) : Bool := decide ((F.length : Int) ≤ k) && F.all fun c => decide (c.length ≤ 20)
abbrev fwJ (t : Nat) (F : List (List Int)) : Nat → Fr → H → Prop := fun m fr σ => ∃ i, i ≤ F.length ∧ m = F.length - i ∧ (∀ c ∈ F.take i, c.length ≤ 20) ∧ fget fr 0 = .lst 1 (F.map row) false ∧ fget fr 5 = .int .i64 ((i : Nat) : Int) ∧ σ = ⟨t, []⟩
abbrev fwE (t : Nat) (F : List (List Int)) : AE → Fr → H → Prop := fun e fr σ => (e = .ret ∧ fget fr 4 = .bool false ∧ (F.all fun c => decide (c.length ≤ 20)) = false) ∨ (e = .ex 0 ∧ (F.all fun c => decide (c.length ≤ 20)) = true)
theorem fw_round (hT : TabOk P tab) {t : Nat} {F : List (List Int)} (hl : F.length ≤ 1000000) (hc : ∀ c ∈ F, c.length ≤ 9223372036854775807) {m : Nat} {fr : Fr} {σ : H} (hJ : fwJ t F m fr σ) :
    W P G 22 0 (AC.seq (AC.seq (AC.reg proofmarklaw08_few_r4 [10, 11, 12])   (AC.cond (Arg.t 13)   AC.skip   (AC.exit 0)))   (AC.seq (AC.block 1 (AC.seq (AC.reg proofmarklaw08_few_r5 [16, 17, 18, 19, 20])   (AC.cond (Arg.t 21)   (AC.seq (AC.reg proofmarklaw08_few_r6 [])   AC.ret)   AC.skip)))   (AC.reg proofmarklaw08_few_r7 [14, 15]))) fr σ (seqQ (fun fr σ => ∃ m' fr' σ', m' < m ∧ Shift G 22 0 fr σ fr' σ' ∧ fwJ t F m' fr' σ') (fwE t F)) := by
  obtain ⟨i, hi, rfl, hall, f0, f5, rfl⟩ := hJ
  rcases Nat.lt_or_ge i F.length with hlt | hge
  · obtain ⟨c, hci⟩ : ∃ c, F[i]? = some c := ⟨_, List.getElem?_eq_getElem hlt⟩
    have hD := rows_getD hci
    have hcm := List.mem_of_getElem? hci
    have e2 := wnext hlt (by omega)
    have hts := take_snoc hci
    rcases Nat.lt_or_ge 20 c.length with h20 | h20
    · have h20' : (20 : Int) < (c.length : Int) := by omega
      have hfa : (F.all fun c => decide (c.length ≤ 20)) = false := by
        rw [List.all_eq_false]
        exact ⟨c, hcm, by simp; omega⟩
      refine W_round [(0, .lst 1 (F.map row) false), (5, .int .i64 ((i : Nat) : Int))] ⟨f0, f5, trivial⟩  1000 ?_
      simp -implicitDefEqProofs (disch := omega) only [go_sem, need_of, ↓reduceIte, reduceCtorEq, Nat.reduceEqDiff, Nat.zero_add, decide_true, Nat.le_refl, gt_iff_lt, proofmarklaw08_few_r4, proofmarklaw08_few_r5, proofmarklaw08_few_r6, proofmarklaw08_few_r7, List.length_map, ints_length, hlt, hD, h20']
      exact .inl ⟨rfl, rfl, hfa⟩
    · have h20' : ¬ (20 : Int) < (c.length : Int) := by omega
      refine W_round [(0, .lst 1 (F.map row) false), (5, .int .i64 ((i : Nat) : Int))] ⟨f0, f5, trivial⟩  1000 ?_
      simp -implicitDefEqProofs (disch := omega) only [go_sem, need_of, ↓reduceIte, reduceCtorEq, Nat.reduceEqDiff, Nat.zero_add, decide_true, decide_false, Nat.le_refl, gt_iff_lt, proofmarklaw08_few_r4, proofmarklaw08_few_r5, proofmarklaw08_few_r6, proofmarklaw08_few_r7, List.length_map, ints_length, hlt, hD, h20']
      refine ⟨F.length - (i + 1), _, _, by omega, Shift.refl _ _ _ _, i + 1, by omega, rfl, fun d hd => ?_, ?_⟩
      · rw [hts, List.mem_append] at hd
        rcases hd with hd | hd
        · exact hall d hd
        · simp at hd; subst hd; omega
      · simp -implicitDefEqProofs (disch := omega) only [go_sem, ↓reduceIte, reduceCtorEq, e2]
  · have hi : i = F.length := by omega
    rw [hi, List.take_length] at hall
    refine W_round [(0, .lst 1 (F.map row) false), (5, .int .i64 ((i : Nat) : Int))] ⟨f0, f5, trivial⟩  1000 ?_
    simp -implicitDefEqProofs (disch := omega) only [go_sem, ↓reduceIte, reduceCtorEq, Nat.reduceEqDiff, decide_false, proofmarklaw08_few_r4, proofmarklaw08_few_r5, proofmarklaw08_few_r6, proofmarklaw08_few_r7, List.length_map, hi, Nat.lt_irrefl]
    exact .inr ⟨rfl, List.all_eq_true.2 fun c h => by simpa using hall c h⟩
theorem c_few (hT : TabOk P tab) (F : List (List Int)) (k : Nat) (hk : k ≤ 1000) (hF : F.length ≤ 9223372036854775807) (hc : ∀ c ∈ F, c.length ≤ 9223372036854775807) :
    Pure P G n_proofmarklaw08_few [rows F, .int .i64 k] fun u => u = .bool (fewS F k) := by
  intro t
  simp only [rows]
  refine C_keep 0 (Nat.zero_le _) (C_tab hT t_proofmarklaw08_few (by simp [proofmarklaw08_few]) (W_run 1000 ?_))
  rcases Nat.lt_or_ge k F.length with h | h
  · have h' : (k : Int) < (F.length : Int) := by omega
    have hf : fewS F k = false := by unfold fewS; rw [decide_eq_false (by omega)]; rfl
    simp -implicitDefEqProofs (disch := omega) only [go_sem, ↓reduceIte, reduceCtorEq, Nat.reduceEqDiff, Nat.zero_add, decide_true, Nat.le_refl, gt_iff_lt, proofmarklaw08_few, proofmarklaw08_few_r0, proofmarklaw08_few_r1, proofmarklaw08_few_r2, proofmarklaw08_few_r3, proofmarklaw08_few_r4, proofmarklaw08_few_r5, proofmarklaw08_few_r6, proofmarklaw08_few_r7, proofmarklaw08_few_r8, List.length_map, h', hf]
  · have h' : ¬ (k : Int) < (F.length : Int) := by omega
    have hf : fewS F k = F.all fun c => decide (c.length ≤ 20) := by unfold fewS; rw [decide_eq_true (by omega)]; rfl
    simp -implicitDefEqProofs (disch := omega) only [go_sem, ↓reduceIte, reduceCtorEq, Nat.reduceEqDiff, Nat.zero_add, decide_false, gt_iff_lt, proofmarklaw08_few, proofmarklaw08_few_r0, proofmarklaw08_few_r1, proofmarklaw08_few_r2, proofmarklaw08_few_r3, proofmarklaw08_few_r4, proofmarklaw08_few_r5, proofmarklaw08_few_r6, proofmarklaw08_few_r7, proofmarklaw08_few_r8, List.length_map, h', hf]
    refine sem_invE (fwJ t F) (fwE t F) (m0 := F.length) ⟨0, by omega, rfl, by simp, ?_⟩ (fun m fr σ hJ => fw_round hT (by omega) hc hJ) (fun e fr σ hE => ?_)
    · simp -implicitDefEqProofs (disch := omega) only [go_sem, ↓reduceIte, reduceCtorEq, Nat.reduceEqDiff]
      rfl
    · rcases hE with ⟨rfl, f4, hh⟩ | ⟨rfl, hh⟩
      · refine run_sem 1000 ?_
        simp -implicitDefEqProofs (disch := omega) only [go_sem, Nat.zero_le, f4, hh]
      · refine run_sem 1000 ?_
        simp -implicitDefEqProofs (disch := omega) only [go_sem, ↓reduceIte, Nat.zero_le, hh]
abbrev siJ (t : Nat) (a b : List Int) : Nat → Fr → H → Prop := fun m fr σ => ∃ i, i ≤ a.length ∧ m = a.length - i ∧ a.take i = b.take i ∧ fget fr 0 = .lst 1 (ints a) false ∧ fget fr 1 = .lst 1 (ints b) false ∧ fget fr 5 = .int .i64 ((i : Nat) : Int) ∧ σ = ⟨t, []⟩
abbrev siE (t : Nat) (a b : List Int) : AE → Fr → H → Prop := fun e fr σ => (e = .ret ∧ fget fr 4 = .bool false ∧ a ≠ b) ∨ (e = .ex 0 ∧ a = b)
theorem si_round (hT : TabOk P tab) {t : Nat} {a b : List Int} (hab : a.length = b.length) (hl : a.length ≤ 9223372036854775807) {m : Nat} {fr : Fr} {σ : H} (hJ : siJ t a b m fr σ) :
    W P G 26 0 (AC.seq (AC.seq (AC.reg proofmarkkit_SameInts_r4 [11, 12, 13])   (AC.cond (Arg.t 14)   AC.skip   (AC.exit 0)))   (AC.seq (AC.block 1 (AC.seq (AC.reg proofmarkkit_SameInts_r5 [17, 18, 19, 20, 21, 22, 23, 24])   (AC.cond (Arg.t 25)   (AC.seq (AC.reg proofmarkkit_SameInts_r6 [])   AC.ret)   AC.skip)))   (AC.reg proofmarkkit_SameInts_r7 [15, 16]))) fr σ (seqQ (fun fr σ => ∃ m' fr' σ', m' < m ∧ Shift G 26 0 fr σ fr' σ' ∧ siJ t a b m' fr' σ') (siE t a b)) := by
  obtain ⟨i, hi, rfl, heq, f0, f1, f5, rfl⟩ := hJ
  rcases Nat.lt_or_ge i a.length with hlt | hge
  · obtain ⟨x, hx⟩ : ∃ x, a[i]? = some x := ⟨_, List.getElem?_eq_getElem hlt⟩
    obtain ⟨y, hy⟩ : ∃ y, b[i]? = some y := ⟨_, List.getElem?_eq_getElem (by omega)⟩
    have hltb : i < b.length := by omega
    have hD1 := ints_getD hx
    have hD2 := ints_getD hy
    have e2 := wnext hlt hl
    by_cases hxy : x = y
    · subst hxy
      have hb : (x == x) = true := by simp
      refine W_round [(0, .lst 1 (ints a) false), (1, .lst 1 (ints b) false), (5, .int .i64 ((i : Nat) : Int))] ⟨f0, f1, f5, trivial⟩  1000 ?_
      simp -implicitDefEqProofs (disch := omega) only [go_sem, need_of, ↓reduceIte, reduceCtorEq, Nat.reduceEqDiff, Nat.zero_add, decide_true, Nat.le_refl, bne_self_eq_false, proofmarkkit_SameInts_r4, proofmarkkit_SameInts_r5, proofmarkkit_SameInts_r6, proofmarkkit_SameInts_r7, ints_length, true_implies, and_true, hlt, hltb, hD1, hD2]
      refine ⟨a.length - (i + 1), _, _, by omega, Shift.refl _ _ _ _, i + 1, by omega, rfl, by rw [take_snoc hx, take_snoc hy, heq], ?_⟩
      simp -implicitDefEqProofs (disch := omega) only [go_sem, ↓reduceIte, reduceCtorEq, Nat.reduceEqDiff, and_true, e2]
    · have hb : (x = y) = False := eq_false hxy
      have hne : a ≠ b := fun e => by rw [e, hy] at hx; exact hxy (Option.some.inj hx).symm
      refine W_round [(0, .lst 1 (ints a) false), (1, .lst 1 (ints b) false), (5, .int .i64 ((i : Nat) : Int))] ⟨f0, f1, f5, trivial⟩  1000 ?_
      simp -implicitDefEqProofs (disch := omega) only [go_sem, need_of, ↓reduceIte, reduceCtorEq, Nat.reduceEqDiff, Nat.zero_add, decide_true, Nat.le_refl, proofmarkkit_SameInts_r4, proofmarkkit_SameInts_r5, proofmarkkit_SameInts_r6, proofmarkkit_SameInts_r7, ints_length, not_false_eq_true, false_implies, true_implies, and_true, hlt, hltb, hD1, hD2, hb]
      exact .inl ⟨rfl, rfl, hne⟩
  · have hi : i = a.length := by omega
    rw [hi, List.take_length, hab, List.take_length] at heq
    refine W_round [(0, .lst 1 (ints a) false), (1, .lst 1 (ints b) false), (5, .int .i64 ((i : Nat) : Int))] ⟨f0, f1, f5, trivial⟩  1000 ?_
    simp -implicitDefEqProofs (disch := omega) only [go_sem, ↓reduceIte, reduceCtorEq, Nat.reduceEqDiff, decide_false, proofmarkkit_SameInts_r4, proofmarkkit_SameInts_r5, proofmarkkit_SameInts_r6, proofmarkkit_SameInts_r7, ints_length, hi, Nat.lt_irrefl]
    exact .inr ⟨rfl, heq⟩
theorem c_SameInts (hT : TabOk P tab) (a b : List Int) (hl : a.length ≤ 9223372036854775807) (hl' : b.length ≤ 9223372036854775807) :
    Pure P G n_proofmarkkit_SameInts [row a, row b] fun u => u = .bool (decide (a = b)) := by
  intro t
  simp only [row]
  refine C_keep 0 (Nat.zero_le _) (C_tab hT t_proofmarkkit_SameInts (by simp [proofmarkkit_SameInts]) (W_run 1000 ?_))
  by_cases h : a.length = b.length
  · have h' : ((a.length : Int) = (b.length : Int)) = True := eq_true (by omega)
    simp -implicitDefEqProofs (disch := omega) only [go_sem, ↓reduceIte, reduceCtorEq, Nat.reduceEqDiff, Nat.zero_add, Nat.le_refl, proofmarkkit_SameInts, proofmarkkit_SameInts_r0, proofmarkkit_SameInts_r1, proofmarkkit_SameInts_r2, proofmarkkit_SameInts_r3, proofmarkkit_SameInts_r4, proofmarkkit_SameInts_r5, proofmarkkit_SameInts_r6, proofmarkkit_SameInts_r7, proofmarkkit_SameInts_r8, ints_length, not_true_eq_false, false_implies, true_implies, true_and, h']
    refine sem_invE (siJ t a b) (siE t a b) (m0 := a.length) ⟨0, by omega, rfl, by simp, ?_⟩ (fun m fr σ hJ => si_round hT h hl hJ) (fun e fr σ hE => ?_)
    · simp -implicitDefEqProofs (disch := omega) only [go_sem, ↓reduceIte, reduceCtorEq, Nat.reduceEqDiff, true_and, and_true]
      rfl
    · rcases hE with ⟨rfl, f4, hh⟩ | ⟨rfl, hh⟩
      · refine run_sem 1000 ?_
        simp -implicitDefEqProofs (disch := omega) only [go_sem, decide_false, Nat.zero_le, and_true, f4, hh]
      · refine run_sem 1000 ?_
        simp -implicitDefEqProofs (disch := omega) only [go_sem, ↓reduceIte, decide_true, Nat.zero_le, and_true, hh]
  · have h' : ((a.length : Int) = (b.length : Int)) = False := eq_false (by omega)
    have hne : a ≠ b := fun e => h (by rw [e])
    simp -implicitDefEqProofs (disch := omega) only [go_sem, ↓reduceIte, reduceCtorEq, Nat.reduceEqDiff, Nat.zero_add, decide_false, Nat.le_refl, proofmarkkit_SameInts, proofmarkkit_SameInts_r0, proofmarkkit_SameInts_r1, proofmarkkit_SameInts_r2, proofmarkkit_SameInts_r3, proofmarkkit_SameInts_r4, proofmarkkit_SameInts_r5, proofmarkkit_SameInts_r6, proofmarkkit_SameInts_r7, proofmarkkit_SameInts_r8, ints_length, not_false_eq_true, false_implies, true_implies, and_true, h', hne]
abbrev srJ (t : Nat) (a b : List (List Int)) : Nat → Fr → H → Prop := fun m fr σ => ∃ i, i ≤ a.length ∧ m = a.length - i ∧ a.take i = b.take i ∧ fget fr 0 = .lst 1 (a.map row) false ∧ fget fr 1 = .lst 1 (b.map row) false ∧ fget fr 5 = .int .i64 ((i : Nat) : Int) ∧ σ = ⟨t, []⟩
abbrev srE (t : Nat) (a b : List (List Int)) : AE → Fr → H → Prop := fun e fr σ => (e = .ret ∧ fget fr 4 = .bool false ∧ a ≠ b) ∨ (e = .ex 0 ∧ a = b)
theorem sr_round (hT : TabOk P tab) {t : Nat} {a b : List (List Int)} (hab : a.length = b.length) (hl : a.length ≤ 1000000) (ha : ∀ c ∈ a, c.length ≤ 1000000) (hb : ∀ c ∈ b, c.length ≤ 1000000) {m : Nat} {fr : Fr} {σ : H} (hJ : srJ t a b m fr σ) :
    W P G 27 0 (AC.seq (AC.seq (AC.reg proofmarklaw08_sameRows_r4 [11, 12, 13])   (AC.cond (Arg.t 14)   AC.skip   (AC.exit 0)))   (AC.seq (AC.block 1 (AC.seq (AC.reg proofmarklaw08_sameRows_r5 [17, 18, 19, 20, 21, 22, 23, 24, 25])   (AC.cond (Arg.t 26)   (AC.seq (AC.reg proofmarklaw08_sameRows_r6 [])   AC.ret)   AC.skip)))   (AC.reg proofmarklaw08_sameRows_r7 [15, 16]))) fr σ (seqQ (fun fr σ => ∃ m' fr' σ', m' < m ∧ Shift G 27 0 fr σ fr' σ' ∧ srJ t a b m' fr' σ') (srE t a b)) := by
  obtain ⟨i, hi, rfl, heq, f0, f1, f5, rfl⟩ := hJ
  rcases Nat.lt_or_ge i a.length with hlt | hge
  · obtain ⟨x, hx⟩ : ∃ x, a[i]? = some x := ⟨_, List.getElem?_eq_getElem hlt⟩
    obtain ⟨y, hy⟩ : ∃ y, b[i]? = some y := ⟨_, List.getElem?_eq_getElem (by omega)⟩
    have hltb : i < b.length := by omega
    have hD1 := rows_getD hx
    have hD2 := rows_getD hy
    have e2 := wnext hlt (by omega)
    have hS := c_SameInts (G := G) hT x y (by have := ha x (List.mem_of_getElem? hx); omega) (by have := hb y (List.mem_of_getElem? hy); omega)
    simp only [row] at hS
    by_cases hxy : x = y
    · subst hxy
      refine W_round [(0, .lst 1 (a.map row) false), (1, .lst 1 (b.map row) false), (5, .int .i64 ((i : Nat) : Int))] ⟨f0, f1, f5, trivial⟩  1000 ?_
      simp -implicitDefEqProofs (disch := omega) only [go_sem, need_of, ↓reduceIte, reduceCtorEq, Nat.reduceEqDiff, Nat.zero_add, decide_true, Nat.le_refl, proofmarklaw08_sameRows_r4, proofmarklaw08_sameRows_r5, proofmarklaw08_sameRows_r6, proofmarklaw08_sameRows_r7, List.length_map, true_implies, and_true, hlt, hltb, hD1, hD2]
      refine callPS hT t_proofmarkkit_SameInts hS (by simp [namelessL, nameless]) 1000 ?_
      simp -implicitDefEqProofs (disch := omega) only [go_sem, ↓reduceIte, reduceCtorEq, Nat.reduceEqDiff, decide_true, Bool.not_true]
      refine ⟨a.length - (i + 1), _, _, by omega, Shift.refl _ _ _ _, i + 1, by omega, rfl, by rw [take_snoc hx, take_snoc hy, heq], ?_⟩
      simp -implicitDefEqProofs (disch := omega) only [go_sem, ↓reduceIte, reduceCtorEq, Nat.reduceEqDiff, and_true, e2]
    · have hne : a ≠ b := fun e => by rw [e, hy] at hx; exact hxy (Option.some.inj hx).symm
      refine W_round [(0, .lst 1 (a.map row) false), (1, .lst 1 (b.map row) false), (5, .int .i64 ((i : Nat) : Int))] ⟨f0, f1, f5, trivial⟩  1000 ?_
      simp -implicitDefEqProofs (disch := omega) only [go_sem, need_of, ↓reduceIte, reduceCtorEq, Nat.reduceEqDiff, Nat.zero_add, decide_true, Nat.le_refl, proofmarklaw08_sameRows_r4, proofmarklaw08_sameRows_r5, proofmarklaw08_sameRows_r6, proofmarklaw08_sameRows_r7, List.length_map, true_implies, and_true, hlt, hltb, hD1, hD2]
      refine callPS hT t_proofmarkkit_SameInts hS (by simp [namelessL, nameless]) 1000 ?_
      simp -implicitDefEqProofs (disch := omega) only [go_sem, ↓reduceIte, reduceCtorEq, Nat.reduceEqDiff, decide_false, Bool.not_false, hxy]
      exact .inl ⟨rfl, rfl, hne⟩
  · have hi : i = a.length := by omega
    rw [hi, List.take_length, hab, List.take_length] at heq
    refine W_round [(0, .lst 1 (a.map row) false), (1, .lst 1 (b.map row) false), (5, .int .i64 ((i : Nat) : Int))] ⟨f0, f1, f5, trivial⟩  1000 ?_
    simp -implicitDefEqProofs (disch := omega) only [go_sem, ↓reduceIte, reduceCtorEq, Nat.reduceEqDiff, decide_false, proofmarklaw08_sameRows_r4, proofmarklaw08_sameRows_r5, proofmarklaw08_sameRows_r6, proofmarklaw08_sameRows_r7, List.length_map, hi, Nat.lt_irrefl]
    exact .inr ⟨rfl, heq⟩
theorem c_sameRows (hT : TabOk P tab) (a b : List (List Int)) (hl : a.length ≤ 1000000) (hl' : b.length ≤ 1000000) (ha : ∀ c ∈ a, c.length ≤ 1000000) (hb : ∀ c ∈ b, c.length ≤ 1000000) :
    Pure P G n_proofmarklaw08_sameRows [rows a, rows b] fun u => u = .bool (decide (a = b)) := by
  intro t
  simp only [rows]
  refine C_keep 0 (Nat.zero_le _) (C_tab hT t_proofmarklaw08_sameRows (by simp [proofmarklaw08_sameRows]) (W_run 1000 ?_))
  by_cases h : a.length = b.length
  · have h' : ((a.length : Int) = (b.length : Int)) = True := eq_true (by omega)
    simp -implicitDefEqProofs (disch := omega) only [go_sem, ↓reduceIte, reduceCtorEq, Nat.reduceEqDiff, Nat.zero_add, Nat.le_refl, proofmarklaw08_sameRows, proofmarklaw08_sameRows_r0, proofmarklaw08_sameRows_r1, proofmarklaw08_sameRows_r2, proofmarklaw08_sameRows_r3, proofmarklaw08_sameRows_r4, proofmarklaw08_sameRows_r5, proofmarklaw08_sameRows_r6, proofmarklaw08_sameRows_r7, proofmarklaw08_sameRows_r8, List.length_map, not_true_eq_false, false_implies, true_implies, true_and, h']
    refine sem_invE (srJ t a b) (srE t a b) (m0 := a.length) ⟨0, by omega, rfl, by simp, ?_⟩ (fun m fr σ hJ => sr_round hT h hl ha hb hJ) (fun e fr σ hE => ?_)
    · simp -implicitDefEqProofs (disch := omega) only [go_sem, ↓reduceIte, reduceCtorEq, Nat.reduceEqDiff, true_and, and_true]
      rfl
    · rcases hE with ⟨rfl, f4, hh⟩ | ⟨rfl, hh⟩
      · refine run_sem 1000 ?_
        simp -implicitDefEqProofs (disch := omega) only [go_sem, decide_false, Nat.zero_le, and_true, f4, hh]
      · refine run_sem 1000 ?_
        simp -implicitDefEqProofs (disch := omega) only [go_sem, ↓reduceIte, decide_true, Nat.zero_le, and_true, hh]
  · have h' : ((a.length : Int) = (b.length : Int)) = False := eq_false (by omega)
    have hne : a ≠ b := fun e => h (by rw [e])
    simp -implicitDefEqProofs (disch := omega) only [go_sem, ↓reduceIte, reduceCtorEq, Nat.reduceEqDiff, Nat.zero_add, decide_false, Nat.le_refl, proofmarklaw08_sameRows, proofmarklaw08_sameRows_r0, proofmarklaw08_sameRows_r1, proofmarklaw08_sameRows_r2, proofmarklaw08_sameRows_r3, proofmarklaw08_sameRows_r4, proofmarklaw08_sameRows_r5, proofmarklaw08_sameRows_r6, proofmarklaw08_sameRows_r7, proofmarklaw08_sameRows_r8, List.length_map, not_false_eq_true, false_implies, true_implies, and_true, h', hne]
end Go.Proofs.Ytingdebioipemaa
