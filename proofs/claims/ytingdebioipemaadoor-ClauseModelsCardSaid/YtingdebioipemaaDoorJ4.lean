/- Contracts: how many clauses, and literals; formulas as the document has them; what is the same. -/
import Derived.Test.YtingdebioipemaaDoorJ3
import Derived.Test.YtingdebioipemaaDoorJ2
/- Contracts: how many clauses, and literals; formulas as the document has them; what is the same. -/
namespace Go.Proofs.YtingdebioipemaaDoor
open Go Go.Am Go.Cl
set_option maxRecDepth 100000
variable {P : Program} {G : Nat → Option V}
def few5 (F : List (List Int)) (k : Nat) : Bool := decide (F.length ≤ k) && F.all fun c => decide (c.length ≤ 30)
def fwH (t : Nat) (v : Int) (F : List (List Int)) : List (Option Ob) := [some (.arr t 24 [.int .i64 v, .lst 1 (F.map row) false])]
theorem c_few5 (hT : TabOk P tab) (v : Int) (F : List (List Int)) (k : Nat) (hk : k ≤ 1000) (hF : F.length ≤ 9223372036854775807) (hc : ∀ c ∈ F, c.length ≤ 9223372036854775807) :
    Pure P G n_proofmarklaw05_few [fml v F, .int .i64 k] fun u => u = .bool (few5 F k) := by
  intro t
  simp only [fml, rows]
  refine C_keep 0 (Nat.zero_le _) (C_tab hT t_proofmarklaw05_few (by simp [proofmarklaw05_few]) (W_run 1000 ?_))
  rcases Nat.lt_or_ge k F.length with h | h
  · have h' : (k : Int) < (F.length : Int) := by omega
    have hf : few5 F k = false := by unfold few5; rw [decide_eq_false (by omega)]; rfl
    simp -implicitDefEqProofs (disch := omega) only [go_sem, ↓reduceIte, reduceCtorEq, Nat.reduceAdd, Nat.reduceEqDiff, Nat.zero_add, decide_true, Nat.le_refl, Nat.zero_le, gt_iff_lt, proofmarklaw05_few, zq3_0, zq3_1, zq3_2, zq3_3, zq3_4, zq3_5, zq3_6, zq3_7, zq3_8, List.length_map, true_implies, and_true, h', hf]
  · have h' : ¬ (k : Int) < (F.length : Int) := by omega
    have hf : few5 F k = F.all fun c => decide (c.length ≤ 30) := by unfold few5; rw [decide_eq_true (by omega)]; rfl
    simp -implicitDefEqProofs (disch := omega) only [go_sem, ↓reduceIte, reduceCtorEq, Nat.reduceAdd, Nat.reduceEqDiff, Nat.zero_add, decide_false, Nat.le_refl, gt_iff_lt, proofmarklaw05_few, zq3_0, zq3_1, zq3_2, zq3_3, zq3_4, zq3_5, zq3_6, zq3_7, zq3_8, List.length_map, true_implies, and_true, h', hf]
    refine sem_for F (fun i fr σ => (∀ c ∈ F.take i, c.length ≤ 30) ∧ fget fr 2 = .ptr 0 t 0 ∧ fget fr 5 = .int .i64 ((i : Nat) : Int) ∧ σ = ⟨t + 1, fwH t v F⟩)
      (fun e fr σ => (e = .ret ∧ fget fr 4 = .bool false ∧ F.all (fun c => decide (c.length ≤ 30)) = false) ∨ (e = .ex 0 ∧ F.all (fun c => decide (c.length ≤ 30)) = true)) ⟨by simp, ?_⟩ (fun i c hci fr σ hJ => ?_) (fun i hi fr σ hJ => ?_) (fun e fr σ hE => ?_)
    · simp -implicitDefEqProofs (disch := omega) only [go_sem, ↓reduceIte, reduceCtorEq, Nat.reduceEqDiff, fwH, true_and, and_true]
      rfl
    · obtain ⟨hok, f2, f5, rfl⟩ := hJ
      obtain ⟨hlt, hD, e2⟩ := at_rows hci hF
      have hcm := List.mem_of_getElem? hci
      have hts := take_snoc hci
      rcases Nat.lt_or_ge 30 c.length with hb | hb
      · have hb' : (30 : Int) < (c.length : Int) := by omega
        refine W_round [(2, .ptr 0 t 0), (5, .int .i64 ((i : Nat) : Int))] ⟨f2, f5, trivial⟩  1000 ?_
        simp -implicitDefEqProofs (disch := omega) only [go_sem, need_of, ↓reduceIte, reduceCtorEq, Nat.reduceAdd, Nat.reduceEqDiff, Nat.zero_add, decide_true, Nat.le_refl, gt_iff_lt, fwH, List.length_map, ints_length, true_implies, true_and, and_true, hlt, hD, hb']
        rw [List.all_eq_false]; exact ⟨c, hcm, by simp; omega⟩
      · have hb' : ¬ (30 : Int) < (c.length : Int) := by omega
        refine W_round [(2, .ptr 0 t 0), (5, .int .i64 ((i : Nat) : Int))] ⟨f2, f5, trivial⟩  1000 ?_
        simp -implicitDefEqProofs (disch := omega) only [go_sem, need_of, ↓reduceIte, Nat.reduceAdd, Nat.reduceEqDiff, Nat.zero_add, decide_true, decide_false, Nat.le_refl, gt_iff_lt, fwH, List.length_map, ints_length, true_implies, and_true, hlt, hD, hb']
        refine ⟨_, _, Shift.refl _ _ _ _, fun x hx => ?_, ?_⟩
        · rw [hts, List.mem_append] at hx
          rcases hx with hx | hx
          · exact hok x hx
          · simp at hx; subst hx; exact hb
        · simp -implicitDefEqProofs (disch := omega) only [go_sem, ↓reduceIte, Nat.reduceEqDiff, and_true, e2]
    · obtain ⟨hok, f2, f5, rfl⟩ := hJ
      rw [hi, List.take_length] at hok
      refine W_round [(2, .ptr 0 t 0), (5, .int .i64 ((i : Nat) : Int))] ⟨f2, f5, trivial⟩  1000 ?_
      simp -implicitDefEqProofs (disch := omega) only [go_sem, ↓reduceIte, reduceCtorEq, Nat.reduceAdd, Nat.reduceEqDiff, Nat.zero_add, decide_false, Nat.le_refl, fwH, List.length_map, true_implies, true_and, and_true, hi, Nat.lt_irrefl]
      rw [List.all_eq_true]; intro c h; exact decide_eq_true (hok c h)
    · rcases hE with ⟨rfl, f4, hh⟩ | ⟨rfl, hh⟩
      · refine run_sem 1000 ?_
        simp -implicitDefEqProofs (disch := omega) only [go_sem, Nat.zero_le, and_true, f4, hh]
      · refine run_sem 1000 ?_
        simp -implicitDefEqProofs (disch := omega) only [go_sem, ↓reduceIte, Nat.zero_le, and_true, hh]
abbrev siJ (t : Nat) (a b : List Int) : Nat → Fr → H → Prop := fun m fr σ => ∃ i, i ≤ a.length ∧ m = a.length - i ∧ a.take i = b.take i ∧ fget fr 0 = .lst 1 (ints a) false ∧ fget fr 1 = .lst 1 (ints b) false ∧ fget fr 5 = .int .i64 ((i : Nat) : Int) ∧ σ = ⟨t, []⟩
abbrev siE (t : Nat) (a b : List Int) : AE → Fr → H → Prop := fun e fr σ => (e = .ret ∧ fget fr 4 = .bool false ∧ a ≠ b) ∨ (e = .ex 0 ∧ a = b)
theorem si_round (hT : TabOk P tab) {t : Nat} {a b : List Int} (hab : a.length = b.length) (hl : a.length ≤ 9223372036854775807) {m : Nat} {fr : Fr} {σ : H} (hJ : siJ t a b m fr σ) :
    W P G 26 0 (AC.seq (AC.seq (AC.reg zq8_4 [11, 12, 13])   (AC.cond (Arg.t 14)   AC.skip   (AC.exit 0)))   (AC.seq (AC.block 1 (AC.seq (AC.reg zq8_5 [17, 18, 19, 20, 21, 22, 23, 24])   (AC.cond (Arg.t 25)   (AC.seq (AC.reg zq8_6 [])   AC.ret)   AC.skip)))   (AC.reg zq8_7 [15, 16]))) fr σ (seqQ (fun fr σ => ∃ m' fr' σ', m' < m ∧ Shift G 26 0 fr σ fr' σ' ∧ siJ t a b m' fr' σ') (siE t a b)) := by
  obtain ⟨i, hi, rfl, heq, f0, f1, f5, rfl⟩ := hJ
  rcases Nat.lt_or_ge i a.length with hlt | hge
  · obtain ⟨x, hx⟩ : ∃ x, a[i]? = some x := ⟨_, List.getElem?_eq_getElem hlt⟩
    obtain ⟨y, hy⟩ : ∃ y, b[i]? = some y := ⟨_, List.getElem?_eq_getElem (by omega)⟩
    have hltb : i < b.length := by omega
    have hD1 := ints_getD hx
    have hD2 := ints_getD hy
    have e2 := wnext hlt hl
    by_cases hxy : x = y
    · subst hxy
      have hb : (x == x) = true := by simp
      refine W_round [(0, .lst 1 (ints a) false), (1, .lst 1 (ints b) false), (5, .int .i64 ((i : Nat) : Int))] ⟨f0, f1, f5, trivial⟩  1000 ?_
      simp -implicitDefEqProofs (disch := omega) only [go_sem, need_of, ↓reduceIte, reduceCtorEq, Nat.reduceEqDiff, Nat.zero_add, decide_true, Nat.le_refl, bne_self_eq_false, zq8_4, zq8_5, zq8_6, zq8_7, ints_length, true_implies, and_true, hlt, hltb, hD1, hD2]
      refine ⟨a.length - (i + 1), _, _, by omega, Shift.refl _ _ _ _, i + 1, by omega, rfl, by rw [take_snoc hx, take_snoc hy, heq], ?_⟩
      simp -implicitDefEqProofs (disch := omega) only [go_sem, ↓reduceIte, reduceCtorEq, Nat.reduceEqDiff, and_true, e2]
    · have hb : (x = y) = False := eq_false hxy
      have hne : a ≠ b := fun e => by rw [e, hy] at hx; exact hxy (Option.some.inj hx).symm
      refine W_round [(0, .lst 1 (ints a) false), (1, .lst 1 (ints b) false), (5, .int .i64 ((i : Nat) : Int))] ⟨f0, f1, f5, trivial⟩  1000 ?_
      simp -implicitDefEqProofs (disch := omega) only [go_sem, need_of, ↓reduceIte, reduceCtorEq, Nat.reduceEqDiff, Nat.zero_add, decide_true, Nat.le_refl, zq8_4, zq8_5, zq8_6, zq8_7, ints_length, not_false_eq_true, false_implies, true_implies, and_true, hlt, hltb, hD1, hD2, hb]
      exact .inl ⟨rfl, rfl, hne⟩
  · have hi : i = a.length := by omega
    rw [hi, List.take_length, hab, List.take_length] at heq
    refine W_round [(0, .lst 1 (ints a) false), (1, .lst 1 (ints b) false), (5, .int .i64 ((i : Nat) : Int))] ⟨f0, f1, f5, trivial⟩  1000 ?_
    simp -implicitDefEqProofs (disch := omega) only [go_sem, ↓reduceIte, reduceCtorEq, Nat.reduceEqDiff, decide_false, zq8_4, zq8_5, zq8_6, zq8_7, ints_length, hi, Nat.lt_irrefl]
    exact .inr ⟨rfl, heq⟩
theorem c_SameInts (hT : TabOk P tab) (a b : List Int) (hl : a.length ≤ 9223372036854775807) (hl' : b.length ≤ 9223372036854775807) :
    Pure P G n_proofmarkkit_SameInts [row a, row b] fun u => u = .bool (decide (a = b)) := by
  intro t
  simp only [row]
  refine C_keep 0 (Nat.zero_le _) (C_tab hT t_proofmarkkit_SameInts (by simp [proofmarkkit_SameInts]) (W_run 1000 ?_))
  by_cases h : a.length = b.length
  · have h' : ((a.length : Int) = (b.length : Int)) = True := eq_true (by omega)
    simp -implicitDefEqProofs (disch := omega) only [go_sem, ↓reduceIte, reduceCtorEq, Nat.reduceEqDiff, Nat.zero_add, Nat.le_refl, proofmarkkit_SameInts, zq8_0, zq8_1, zq8_2, zq8_3, zq8_4, zq8_5, zq8_6, zq8_7, zq8_8, ints_length, not_true_eq_false, false_implies, true_implies, true_and, h']
    refine sem_invE (siJ t a b) (siE t a b) (m0 := a.length) ⟨0, by omega, rfl, by simp, ?_⟩ (fun m fr σ hJ => si_round hT h hl hJ) (fun e fr σ hE => ?_)
    · simp -implicitDefEqProofs (disch := omega) only [go_sem, ↓reduceIte, reduceCtorEq, Nat.reduceEqDiff, true_and, and_true]
      rfl
    · rcases hE with ⟨rfl, f4, hh⟩ | ⟨rfl, hh⟩
      · refine run_sem 1000 ?_
        simp -implicitDefEqProofs (disch := omega) only [go_sem, decide_false, Nat.zero_le, and_true, f4, hh]
      · refine run_sem 1000 ?_
        simp -implicitDefEqProofs (disch := omega) only [go_sem, ↓reduceIte, decide_true, Nat.zero_le, and_true, hh]
  · have h' : ((a.length : Int) = (b.length : Int)) = False := eq_false (by omega)
    have hne : a ≠ b := fun e => h (by rw [e])
    simp -implicitDefEqProofs (disch := omega) only [go_sem, ↓reduceIte, reduceCtorEq, Nat.reduceEqDiff, Nat.zero_add, decide_false, Nat.le_refl, proofmarkkit_SameInts, zq8_0, zq8_1, zq8_2, zq8_3, zq8_4, zq8_5, zq8_6, zq8_7, zq8_8, ints_length, not_false_eq_true, false_implies, true_implies, and_true, h', hne]
end Go.Proofs.YtingdebioipemaaDoor
/- Contracts: a place picked; literals that hold each. -/
namespace Go.Proofs.YtingdebioipemaaDoor
open Go Go.Am Go.Cl
set_option maxRecDepth 100000
variable {P : Program} {G : Nat → Option V}
theorem c_Pick (hT : TabOk P tab) (i : Int) (n : Nat) (hi : -9223372036854775808 ≤ i ∧ i ≤ 9223372036854775807) (hn : n ≤ 1000) : ∃ k : Nat, (n = 0 → k = 0) ∧ (0 < n → k < n) ∧ Pure P G n_proofmarkkit_Pick [.int .i64 i, .int .i64 n] fun u => u = .int .i64 k := by
  rcases Nat.eq_zero_or_pos n with h0 | h0
  · subst h0
    refine ⟨0, fun _ => rfl, fun h => by omega, fun t => C_keep 0 (Nat.zero_le _) (C_tab hT t_proofmarkkit_Pick (by simp [proofmarkkit_Pick]) (W_run 1000 ?_))⟩
    simp -implicitDefEqProofs (disch := omega) only [go_sem, ↓reduceIte, reduceCtorEq, Nat.reduceEqDiff, Nat.zero_add, Nat.le_refl, proofmarkkit_Pick, zqe_0, zqe_1, zqe_2, zqe_3]
    try simp
  · have hr := Int.tmod_lt_of_pos i (show (0 : Int) < n by omega)
    have hr2 : -(n : Int) < i.tmod n := by
      have := Int.lt_tmod_of_pos i (show (0 : Int) < n by omega); omega
    have hw1 : IntKind.i64.wrap (i.tmod n) = i.tmod n := wself (by omega)
    have hw2 : IntKind.i64.wrap (i.tmod n + n) = i.tmod n + n := wself (by omega)
    have hk1 := Int.tmod_lt_of_pos (i.tmod n + n) (show (0 : Int) < n by omega)
    have hk0 := Int.tmod_nonneg (a := i.tmod n + n) (n : Int) (by omega)
    have hw3 : IntKind.i64.wrap ((i.tmod n + n).tmod n) = (i.tmod n + n).tmod n := wself (by omega)
    have hle : ¬ (n : Int) ≤ 0 := by omega
    have hne : ¬ (n : Int) = 0 := by omega
    refine ⟨((i.tmod n + n).tmod n).toNat, fun h => by omega, fun _ => by omega, fun t => C_keep 0 (Nat.zero_le _) (C_tab hT t_proofmarkkit_Pick (by simp [proofmarkkit_Pick]) (W_run 1000 ?_))⟩
    simp -implicitDefEqProofs (disch := omega) only [go_sem, ↓reduceIte, reduceCtorEq, Nat.reduceEqDiff, Nat.zero_add, decide_false, Nat.le_refl, proofmarkkit_Pick, zqe_0, zqe_1, zqe_2, zqe_3, hle, hne, hw2, Int.toNat_of_nonneg hk0]
theorem slc_one {l : List Int} {i : Nat} {n : Int} (h : l[i]? = some n) : List.take (i + 1 - i) (List.drop i (ints l)) = [V.int .i64 n] := by
  have hlt := (List.getElem?_eq_some_iff.1 h).1
  rw [show i + 1 - i = 1 by omega, List.drop_eq_getElem_cons (by simpa [ints] using hlt)]
  have := (List.getElem?_eq_some_iff.1 h).2
  simp [ints, this]
theorem c_each (hT : TabOk P tab) (l : List Int) (m : List Bool) (hc : ∀ n ∈ l, n ≠ 0 ∧ -(m.length : Int) ≤ n ∧ n ≤ m.length) (hm : m.length ≤ 16777216) (hl : l.length ≤ 1000000) :
    Pure P G n_proofmarklaw05_each [row l, bools m] fun u => u = .bool (l.all fun n => clauseT m [n]) := by
  intro t
  simp only [row, bools]
  refine C_keep 0 (Nat.zero_le _) (C_tab hT t_proofmarklaw05_each (by simp [proofmarklaw05_each]) (W_run 1000 ?_))
  simp -implicitDefEqProofs (disch := omega) only [go_sem, ↓reduceIte, reduceCtorEq, Nat.reduceEqDiff, Nat.zero_add, proofmarklaw05_each, zqg_0, zqg_1, zqg_2, zqg_3, zqg_4, zqg_5, zqg_6]
  refine sem_for l (fun i fr σ => (∀ n ∈ l.take i, clauseT m [n] = true) ∧ fget fr 0 = .lst 1 (ints l) false ∧ fget fr 1 = .lst 1 (m.map V.bool) false ∧ fget fr 5 = .int .i64 ((i : Nat) : Int) ∧ σ = ⟨t, []⟩)
    (fun e fr σ => (e = .ret ∧ fget fr 4 = .bool false ∧ l.all (fun n => clauseT m [n]) = false) ∨ (e = .ex 0 ∧ l.all (fun n => clauseT m [n]) = true)) ⟨by simp, ?_⟩ (fun i n hn fr σ hJ => ?_) (fun i hi fr σ hJ => ?_) (fun e fr σ hE => ?_)
  · simp -implicitDefEqProofs (disch := omega) only [go_sem, ↓reduceIte, reduceCtorEq, Nat.reduceEqDiff, true_and, and_true]
    rfl
  · obtain ⟨hok, f0, f1, f5, rfl⟩ := hJ
    obtain ⟨hlt, hD, e2⟩ := at_ints hn (by omega)
    have hnm := List.mem_of_getElem? hn
    have hts := take_snoc hn
    have hs := slc_one hn
    have hlt' : i < l.length := by omega
    have hC := c_rClause (P := P) (G := G) hT [n] m (fun x hx => by simp at hx; subst hx; exact hc x hnm) hm (by simp)
    simp only [row, bools, ints, List.map_cons, List.map_nil] at hC
    have hnl : namelessL [V.lst 1 [V.int .i64 n] false, V.lst 1 (m.map V.bool) false] = true := by simp [namelessL, nameless]
    cases hcl : clauseT m [n] with
    | false =>
      rw [hcl] at hC
      refine W_round [(0, .lst 1 (ints l) false), (1, .lst 1 (m.map V.bool) false), (5, .int .i64 ((i : Nat) : Int))] ⟨f0, f1, f5, trivial⟩  1000 ?_
      simp -implicitDefEqProofs (disch := omega) only [go_sem, need_of, ↓reduceIte, reduceCtorEq, Nat.reduceEqDiff, decide_true, ints_length, hlt, e2, hs]
      refine callPS hT t_proofmarkref05_Clause hC hnl 1000 ?_
      simp -implicitDefEqProofs (disch := omega) only [go_sem, ↓reduceIte, reduceCtorEq, Nat.reduceEqDiff, Bool.not_false, true_and]
      rw [List.all_eq_false]; exact ⟨n, hnm, by simp [hcl]⟩
    | true =>
      rw [hcl] at hC
      refine W_round [(0, .lst 1 (ints l) false), (1, .lst 1 (m.map V.bool) false), (5, .int .i64 ((i : Nat) : Int))] ⟨f0, f1, f5, trivial⟩  1000 ?_
      simp -implicitDefEqProofs (disch := omega) only [go_sem, need_of, ↓reduceIte, reduceCtorEq, Nat.reduceEqDiff, decide_true, ints_length, hlt, e2, hs]
      refine callPS hT t_proofmarkref05_Clause hC hnl 1000 ?_
      simp -implicitDefEqProofs (disch := omega) only [go_sem, ↓reduceIte, reduceCtorEq, Nat.reduceEqDiff, Bool.not_true]
      refine ⟨_, _, Shift.refl _ _ _ _, fun x hx => ?_, ?_⟩
      · rw [hts, List.mem_append] at hx
        rcases hx with hx | hx
        · exact hok x hx
        · simp at hx; subst hx; exact hcl
      · simp -implicitDefEqProofs (disch := omega) only [go_sem, ↓reduceIte, reduceCtorEq, Nat.reduceEqDiff, and_true, e2]
  · obtain ⟨hok, f0, f1, f5, rfl⟩ := hJ
    rw [hi, List.take_length] at hok
    refine W_round [(0, .lst 1 (ints l) false), (1, .lst 1 (m.map V.bool) false), (5, .int .i64 ((i : Nat) : Int))] ⟨f0, f1, f5, trivial⟩  1000 ?_
    simp -implicitDefEqProofs (disch := omega) only [go_sem, ↓reduceIte, reduceCtorEq, Nat.reduceEqDiff, decide_false, ints_length, true_and, hi, Nat.lt_irrefl]
    rw [List.all_eq_true]; exact hok
  · rcases hE with ⟨rfl, f4, hh⟩ | ⟨rfl, hh⟩
    · refine run_sem 1000 ?_
      simp -implicitDefEqProofs (disch := omega) only [go_sem, Nat.zero_le, and_true, f4, hh]
    · refine run_sem 1000 ?_
      simp -implicitDefEqProofs (disch := omega) only [go_sem, ↓reduceIte, Nat.zero_le, and_true, hh]
end Go.Proofs.YtingdebioipemaaDoor
/- Contracts: literals let hold. -/
namespace Go.Proofs.YtingdebioipemaaDoor
open Go Go.Am Go.Cl
set_option maxRecDepth 100000
variable {P : Program} {G : Nat → Option V}
theorem namelessL_append : ∀ {l m : List V}, namelessL l = true → namelessL m = true → namelessL (l ++ m) = true
  | [], _, _, h => h
  | v :: l, m, h, k => by
    simp only [namelessL, Bool.and_eq_true, List.cons_append] at h ⊢
    exact ⟨h.1, namelessL_append h.2 k⟩
theorem mput_im_mem (k : IntKind) (f : Int → V) (a : Int) (v : V) (hv : v = f a) : ∀ S : List Int, a ∈ S → mput [.i] (.int k a) v (im k f S) = im k f S
  | [], h => absurd h (by simp)
  | b :: S, h => by
    by_cases e : a = b
    · subst e
      simp [im, mput, keyEq_i, hv]
    · have ih := mput_im_mem k f a v hv S (by simpa [e] using h)
      unfold im at ih ⊢
      simp only [List.map_cons, mput, keyEq_i, e, decide_false]
      rw [ih]; simp
def addN (S : List Int) (a : Int) : List Int := if a ∈ S then S else S ++ [a]
theorem mem_addN {S : List Int} {a n : Int} : n ∈ addN S a ↔ n ∈ S ∨ n = a := by
  unfold addN; split
  · rename_i h; exact ⟨.inl, fun x => x.elim id fun e => e ▸ h⟩
  · simp
theorem mput_kn (S : List Int) (a : Int) : mput [Kd.i] (V.int .i64 a) (V.int .i64 1) (im .i64 (fun _ => V.int .i64 1) S) = im .i64 (fun _ => V.int .i64 1) (addN S a) := by
  unfold addN; split
  · rename_i h; exact mput_im_mem .i64 (fun _ => V.int .i64 1) a _ rfl S h
  · rename_i h; exact mput_im .i64 (fun _ => V.int .i64 1) a _ rfl S h
def knOf (L : List Int) : List Int := L.foldl addN []
theorem mem_foldl_addN {n : Int} : ∀ {L S : List Int}, n ∈ L.foldl addN S ↔ n ∈ S ∨ n ∈ L
  | [], S => by simp
  | a :: L, S => by
    rw [List.foldl_cons, mem_foldl_addN (L := L), mem_addN, List.mem_cons, or_assoc]
theorem mem_knOf {n : Int} {L : List Int} : n ∈ knOf L ↔ n ∈ L := by rw [knOf, mem_foldl_addN]; simp
def aH (tf tr tm tb : Nat) (v : Int) (F : List (List Int)) (S : List Int) : List (Option Ob) :=
  [some (.arr tf 24 [.int .i64 v, .lst 1 (F.map row) false]), some (.arr tr 24 [.int .i64 0, .lst 0 [] true]), some (.map tm (kn S)), some (.arr tb 53 [.mp 2 tm])]
def bH (to tw : Nat) (v : Int) (R : List (List Int)) : List (Option Ob) := [some (.arr to 24 [.int .i64 v, .sl 5 tw 0 1 R.length none]), some (.arr tw 28 (R.map row))]
theorem c_left (hT : TabOk P tab) {tf tr tm tb to tw w t : Nat} {v : Int} {F R : List (List Int)} {S c : List Int} (hb : ∀ n ∈ c, -9223372036854775808 ≤ n ∧ n ≤ 9223372036854775807) (hl : c.length ≤ 1000000) :
    C P G 0 n_slices_DeleteFunc_int_int [.sl 6 w 0 1 c.length none, .fn (.func n_clause_Assign_S3) [] [.ptr 3 tb 0]] ⟨t, aH tf tr tm tb v F S ++ bH to tw v R ++ [some (.arr w 3 (ints c))]⟩
      fun u σ => u = .lst 1 (ints (c.filter fun n => !decide (neg n ∈ S))) false ∧ ∃ t', t ≤ t' ∧ σ = ⟨t', aH tf tr tm tb v F S ++ bH to tw v R ++ [none]⟩ := by
  have h := c_DeleteFunc (P := P) (G := G) (base := 6) (t := t) (w := w) hT (o := aH tf tr tm tb v F S ++ bH to tw v R) (c := c) (Nat.le_refl _) (fun w' cells => k_clause_Assign_S3 hT (kb := 3) (km := 2) (S := S) hb rfl rfl) hl
  refine C.wk (base' := 6) (Nat.zero_le _) (by simp [aH, bH]) (C_freeze h fun u σ ⟨t', cells, ht, hn, e1, e2⟩ => ?_)
  subst e1 e2
  refine ⟨6, w, 3, _, Nat.le_refl _, rfl, namelessL_append (ints_nameless _) hn, ?_, t', ht, ?_⟩
  · simp [frzV, rowsV, ints_length, aH, bH]
  · simp [mapFrom, aH, bH]
theorem knOf_snoc {L : List Int} {i : Nat} {n : Int} (h : L[i]? = some n) : knOf (L.take (i + 1)) = addN (knOf (L.take i)) n := by
  unfold knOf; rw [take_snoc h, List.foldl_append]; rfl
abbrev aJ (tf tr tb : Nat) (v : Int) (F : List (List Int)) (L : List Int) : Nat → Fr → H → Prop := fun m fr σ => ∃ i t tm, i ≤ L.length ∧ m = L.length - i ∧ fget fr 1 = .lst 1 (ints L) false ∧ fget fr 2 = .ptr 0 tf 0 ∧ fget fr 4 = .ptr 1 tr 0 ∧ fget fr 6 = .ptr 3 tb 0 ∧ fget fr 26 = .lst 1 (ints L) false ∧ fget fr 27 = .int .i64 L.length ∧ fget fr 28 = .int .i64 ((i : Nat) : Int) ∧ σ = ⟨t, aH tf tr tm tb v F (knOf (L.take i))⟩
abbrev aE (tf tr tb : Nat) (v : Int) (F : List (List Int)) (L : List Int) : AE → Fr → H → Prop := fun e fr σ => ∃ t tm, e = .ex 0 ∧ fget fr 1 = .lst 1 (ints L) false ∧ fget fr 2 = .ptr 0 tf 0 ∧ fget fr 4 = .ptr 1 tr 0 ∧ fget fr 6 = .ptr 3 tb 0 ∧ σ = ⟨t, aH tf tr tm tb v F (knOf L)⟩
theorem a_round (hT : TabOk P tab) {tf tr tb : Nat} {v : Int} {F : List (List Int)} {L : List Int} (hl : L.length ≤ 1000000) {m : Nat} {fr : Fr} {σ : H} (hJ : aJ tf tr tb v F L m fr σ) :
    W P G 64 0 (AC.seq (AC.reg zqa_5 [])   (AC.seq (AC.cond (Arg.t 29)   AC.skip   (AC.exit 0))   (AC.seq (AC.block 1 (AC.seq (AC.reg zqa_6 [30, 31])   (AC.reg zqa_7 [32, 33])))   (AC.reg zqa_8 [34])))) fr σ (seqQ (fun fr σ => ∃ m' fr' σ', m' < m ∧ Shift G 64 0 fr σ fr' σ' ∧ aJ tf tr tb v F L m' fr' σ') (aE tf tr tb v F L)) := by
  obtain ⟨i, t, tm, hi, rfl, f1, f2, f4, f6, f26, f27, f28, rfl⟩ := hJ
  rcases Nat.lt_or_ge i L.length with hlt | hge
  · obtain ⟨n, hni⟩ : ∃ n, L[i]? = some n := ⟨_, List.getElem?_eq_getElem hlt⟩
    have hD := ints_getD hni
    have e2 := wnext hlt (by omega)
    have h3 := keysOk_im .i64 (fun _ => .int .i64 1) (knOf (L.take i)) n
    have hput := mput_kn (knOf (L.take i)) n
    have hk := knOf_snoc hni
    refine W_round [(1, .lst 1 (ints L) false), (2, .ptr 0 tf 0), (4, .ptr 1 tr 0), (6, .ptr 3 tb 0), (26, .lst 1 (ints L) false), (27, .int .i64 L.length), (28, .int .i64 ((i : Nat) : Int))] ⟨f1, f2, f4, f6, f26, f27, f28, trivial⟩  1000 ?_
    simp -implicitDefEqProofs (disch := omega) only [go_sem, need_of, ↓reduceIte, Nat.reduceEqDiff, Nat.zero_add, decide_true, Bool.not_false, Nat.le_refl, Nat.zero_le, zqa_5, zqa_6, zqa_7, zqa_8, aH, ints_length, List.length_cons, List.length_nil, hlt, hD, kn, hput]
    refine ⟨L.length - (i + 1), _, _, by omega, Shift.refl _ _ _ _, i + 1, t, tm, by omega, rfl, ?_⟩
    simp -implicitDefEqProofs (disch := omega) only [go_sem, ↓reduceIte, Nat.reduceEqDiff, aH, e2, kn, hk]
  · have hi : i = L.length := by omega
    refine W_round [(1, .lst 1 (ints L) false), (2, .ptr 0 tf 0), (4, .ptr 1 tr 0), (6, .ptr 3 tb 0), (26, .lst 1 (ints L) false), (27, .int .i64 L.length), (28, .int .i64 ((i : Nat) : Int))] ⟨f1, f2, f4, f6, f26, f27, f28, trivial⟩  1000 ?_
    simp -implicitDefEqProofs (disch := omega) only [go_sem, ↓reduceIte, Nat.reduceEqDiff, decide_false, zqa_5, zqa_6, zqa_7, zqa_8, aH, hi, Nat.lt_irrefl]
    exact ⟨t, tm, rfl, rfl, rfl, rfl, rfl, by rw [List.take_length]; rfl⟩
theorem assign_snoc {F : List (List Int)} {L : List Int} {i : Nat} {c : List Int} (h : F[i]? = some c) : assign (F.take (i + 1)) L = assign (F.take i) L ++ if c.any (fun n => decide (n ∈ L)) then [] else [assignC L c] := by
  unfold assign
  rw [take_snoc h, List.filter_append, List.map_append]
  congr 1
  cases hc : c.any fun n => decide (n ∈ L) <;> simp [hc]
abbrev bJ (tf tr tm tb to : Nat) (v : Int) (F : List (List Int)) (L : List Int) : Nat → Fr → H → Prop := fun m fr σ => ∃ i t tw, i ≤ F.length ∧ m = F.length - i ∧ fget fr 2 = .ptr 0 tf 0 ∧ fget fr 4 = .ptr 1 tr 0 ∧ fget fr 6 = .ptr 3 tb 0 ∧ fget fr 9 = .ptr 4 to 0 ∧ fget fr 43 = .lst 1 (F.map row) false ∧ fget fr 44 = .int .i64 F.length ∧ fget fr 45 = .int .i64 ((i : Nat) : Int) ∧ σ = ⟨t, aH tf tr tm tb v F (knOf L) ++ bH to tw v (assign (F.take i) L)⟩
abbrev bE (tf tr tm tb to : Nat) (v : Int) (F : List (List Int)) (L : List Int) : AE → Fr → H → Prop := fun e fr σ => ∃ t tw, e = .ex 2 ∧ fget fr 4 = .ptr 1 tr 0 ∧ fget fr 9 = .ptr 4 to 0 ∧ σ = ⟨t, aH tf tr tm tb v F (knOf L) ++ bH to tw v (assign F L)⟩
set_option maxHeartbeats 1000000 in
theorem b_round (hT : TabOk P tab) {tf tr tm tb to : Nat} {v : Int} {F : List (List Int)} {L : List Int} (hF : F.length ≤ 1000) (hc : ∀ c ∈ F, c.length ≤ 1000) (hrt : ∀ c ∈ F, ∀ n ∈ c, -16777216 ≤ n ∧ n ≤ 16777216) {m : Nat} {fr : Fr} {σ : H} (hJ : bJ tf tr tm tb to v F L m fr σ) :
    W P G 64 0 (AC.seq (AC.reg zqa_13 [])   (AC.seq (AC.cond (Arg.t 46)   AC.skip   (AC.exit 2))   (AC.seq (AC.block 3 (AC.seq (AC.reg zqa_14 [47, 48])   (AC.seq (AC.reg zqa_15 [49, 50, 51])   (AC.cond (Arg.t 52)   (AC.reg zqa_16 [53, 54, 55, 56, 57, 58, 59, 60, 61])   AC.skip))))   (AC.reg zqa_17 [62])))) fr σ (seqQ (fun fr σ => ∃ m' fr' σ', m' < m ∧ Shift G 64 0 fr σ fr' σ' ∧ bJ tf tr tm tb to v F L m' fr' σ') (bE tf tr tm tb to v F L)) := by
  obtain ⟨i, t, tw, hi, rfl, f2, f4, f6, f9, f43, f44, f45, rfl⟩ := hJ
  rcases Nat.lt_or_ge i F.length with hlt | hge
  · obtain ⟨c, hci⟩ : ∃ c, F[i]? = some c := ⟨_, List.getElem?_eq_getElem hlt⟩
    have hD := rows_getD hci
    have hcm := List.mem_of_getElem? hci
    have e2 := wnext hlt (by omega)
    have hcl := hc c hcm
    have hb64 : ∀ n ∈ c, -9223372036854775808 ≤ n ∧ n ≤ 9223372036854775807 := fun n hn => by have := hrt c hcm n hn; omega
    have hsn := assign_snoc (L := L) hci
    have hany : c.any (fun n => decide (n ∈ knOf L)) = c.any (fun n => decide (n ∈ L)) := by
      congr 1; funext n; simp [mem_knOf]
    have hfil : c.filter (fun n => !decide (neg n ∈ knOf L)) = assignC L c := by
      unfold assignC
      refine List.filter_congr fun n hn => ?_
      have hne : n ≠ mn := by have := hrt c hcm n hn; unfold mn; omega
      rw [neg_ne hne]; simp [mem_knOf]
    have hsome := fun t => c_some (P := P) (G := G) (base := 0) (t := t) hT (k_clause_Assign_S2 (c := c) hT (kb := 3) (tb := tb) (T := 53) (km := 2) (vm := tm) (S := knOf L) (o := aH tf tr tm tb v F (knOf L) ++ bH to tw v (assign (F.take i) L)) rfl rfl) (by omega)
    rw [hany] at hsome
    have hleft := fun t w => c_left (P := P) (G := G) (t := t) (w := w) (tf := tf) (tr := tr) (tm := tm) (tb := tb) (to := to) (tw := tw) (v := v) (F := F) (R := assign (F.take i) L) (S := knOf L) hT hb64 (by omega)
    rw [hfil] at hleft
    have hRl : (assign (F.take i) L).length ≤ 1000 := by
      unfold assign; rw [List.length_map]
      have := List.length_filter_le (fun c : List Int => !c.any fun n => decide (n ∈ L)) (F.take i)
      rw [List.length_take] at this
      omega
    generalize assign (F.take i) L = R at *
    cases hcc : c.any fun n => decide (n ∈ L) with
    | true =>
      rw [hcc, if_pos rfl, List.append_nil] at hsn
      rw [hcc] at hsome
      refine W_round [(2, .ptr 0 tf 0), (4, .ptr 1 tr 0), (6, .ptr 3 tb 0), (9, .ptr 4 to 0), (43, .lst 1 (F.map row) false), (44, .int .i64 F.length), (45, .int .i64 ((i : Nat) : Int))] ⟨f2, f4, f6, f9, f43, f44, f45, trivial⟩  1000 ?_
      simp -implicitDefEqProofs (disch := omega) only [go_sem, need_of, ↓reduceIte, Nat.reduceEqDiff, Nat.zero_add, decide_true, Nat.le_refl, zqa_13, zqa_14, zqa_15, zqa_16, zqa_17, aH, bH, List.length_map, List.length_cons, List.length_nil, List.cons_append, List.nil_append, hlt, hD]
      refine call hT t_clause_some_int (hsome _) 1000 fun u σ hu => ?_
      obtain ⟨rfl, t1, ht1, rfl⟩ := hu
      simp -implicitDefEqProofs (disch := omega) only [go_sem, ↓reduceIte, Nat.reduceEqDiff, Bool.not_true, aH, bH, List.cons_append, List.nil_append]
      refine ⟨F.length - (i + 1), _, _, by omega, Shift.refl _ _ _ _, i + 1, t1, tw, by omega, rfl, ?_⟩
      simp -implicitDefEqProofs (disch := omega) only [go_sem, ↓reduceIte, Nat.reduceEqDiff, aH, bH, List.cons_append, List.nil_append, e2, hsn]
    | false =>
      rw [hcc, if_neg (by simp)] at hsn
      rw [hcc] at hsome
      refine W_round [(2, .ptr 0 tf 0), (4, .ptr 1 tr 0), (6, .ptr 3 tb 0), (9, .ptr 4 to 0), (43, .lst 1 (F.map row) false), (44, .int .i64 F.length), (45, .int .i64 ((i : Nat) : Int))] ⟨f2, f4, f6, f9, f43, f44, f45, trivial⟩  1000 ?_
      simp -implicitDefEqProofs (disch := omega) only [go_sem, need_of, ↓reduceIte, Nat.reduceEqDiff, Nat.zero_add, decide_true, Nat.le_refl, zqa_13, zqa_14, zqa_15, zqa_16, zqa_17, aH, bH, List.length_map, List.length_cons, List.length_nil, List.cons_append, List.nil_append, hlt, hD]
      refine call hT t_clause_some_int (hsome _) 1000 fun u σ hu => ?_
      obtain ⟨rfl, t1, ht1, rfl⟩ := hu
      simp -implicitDefEqProofs (disch := omega) only [go_sem, ↓reduceIte, Nat.reduceAdd, Nat.reduceEqDiff, Nat.zero_add, Bool.not_false, Nat.le_refl, aH, bH, List.length_cons, List.length_nil, List.cons_append, List.nil_append]
      refine And.intro ?_ ?_
      all_goals (refine call hT t_slices_Clone_int_int (c_Clone hT c (by omega)) 1000 fun u σ hu => ?_)
      all_goals (obtain ⟨t2, w, ht2, rfl, rfl⟩ := hu)
      all_goals simp -implicitDefEqProofs (disch := omega) only [go_sem, ↓reduceIte, Nat.reduceAdd, Nat.reduceEqDiff, Nat.zero_add, Nat.le_refl, List.length_cons, List.length_nil, List.cons_append, List.nil_append]
      all_goals repeat' (first | with_reducible refine And.intro ?_ ?_ | with_reducible intro _)
      all_goals (refine call hT t_slices_DeleteFunc_int_int (hleft _ _) 1000 fun u σ hu => ?_)
      all_goals (obtain ⟨rfl, t3, ht3, rfl⟩ := hu)
      all_goals simp -implicitDefEqProofs (disch := omega) only [go_sem, need_of, ↓reduceIte, reduceCtorEq, Nat.reduceAdd, Nat.reduceEqDiff, Nat.reduceLeDiff, Nat.zero_add, Nat.mul_one, Bool.not_true, Bool.not_false, Nat.le_refl, Nat.zero_le, aH, bH, List.length_map, List.length_cons, List.length_nil, List.cons_append, List.nil_append]
      all_goals repeat' (first | with_reducible refine And.intro ?_ ?_ | with_reducible intro _)
      all_goals (refine ⟨F.length - (i + 1), _, _, by omega, Shift.drop (o' := aH tf tr tm tb v F (knOf L) ++ bH to t3 v (R ++ [assignC L c])) (t' := t3 + 1) (by simp [subObs, aH, bH, row]) (Nat.le_refl _) (Nat.zero_le _), i + 1, t3 + 1, t3, by omega, rfl, ?_⟩)
      all_goals simp -implicitDefEqProofs (disch := omega) only [go_sem, ↓reduceIte, Nat.reduceEqDiff, Nat.zero_add, aH, bH, List.length_cons, List.length_nil, List.cons_append, List.nil_append, e2, hsn, List.length_append, List.map_append]
  · have hi : i = F.length := by omega
    refine W_round [(2, .ptr 0 tf 0), (4, .ptr 1 tr 0), (6, .ptr 3 tb 0), (9, .ptr 4 to 0), (43, .lst 1 (F.map row) false), (44, .int .i64 F.length), (45, .int .i64 ((i : Nat) : Int))] ⟨f2, f4, f6, f9, f43, f44, f45, trivial⟩  1000 ?_
    simp -implicitDefEqProofs (disch := omega) only [go_sem, ↓reduceIte, Nat.reduceEqDiff, decide_false, zqa_13, zqa_14, zqa_15, zqa_16, zqa_17, aH, bH, List.cons_append, List.nil_append, hi, Nat.lt_irrefl]
    exact ⟨t, tw, rfl, rfl, rfl, by rw [List.take_length]; rfl⟩
theorem rows_nameless : ∀ F : List (List Int), namelessL (F.map row) = true
  | [] => rfl
  | c :: F => by have := rows_nameless F; simpa [namelessL, nameless, row] using this
def assignV (v : Int) (F : List (List Int)) (L : List Int) : V :=
  if right v F && (right v [L] && !(L.any fun n => decide (neg n ∈ L))) then .tup [fml v (assign F L), .bool true] else .tup [fml 0 [], .bool false]
set_option maxHeartbeats 1000000 in
theorem c_Assign (hT : TabOk P tab) (v : Int) (F : List (List Int)) (L : List Int) (hF : F.length ≤ 1000) (hc : ∀ c ∈ F, c.length ≤ 1000) (hl : L.length ≤ 1000) (hb : ∀ n ∈ L, -9223372036854775808 ≤ n ∧ n ≤ 9223372036854775807) :
    Pure P G n_clause_Assign [fml v F, row L] fun u => u = assignV v F L := by
  intro t
  refine C_res (Q := fun u _ => nameless u = true ∧ ((u = .tup [.agg [.int .i64 0, .lst 0 [] true], .bool false] ∧ assignV v F L = .tup [fml 0 [], .bool false]) ∨ u = assignV v F L))
    (C_freezeO (Q := fun u σ => (u = .tup [.agg [.int .i64 0, .lst 0 [] true], .bool false] ∧ assignV v F L = .tup [fml 0 [], .bool false]) ∨ ∃ tw, assignV v F L = .tup [fml v (assign F L), .bool true] ∧ u = .tup [.agg [.int .i64 v, .sl 5 tw 0 1 (assign F L).length none], .bool true] ∧ σ.o[5]? = some (some (.arr tw 28 ((assign F L).map row)))) ?_ fun u σ hu => ?_) fun u σ hu => ?_
  · have hR := c_Right (P := P) (G := G) hT v F (by omega) (fun c h => by have := hc c h; omega)
    have hR2 := c_Right (P := P) (G := G) hT v [L] (by simp) (fun c h => by simp at h; subst h; omega)
    simp only [fml, rows, row, List.map_cons, List.map_nil] at hR hR2 ⊢
    refine C_tab hT t_clause_Assign (by simp [clause_Assign]) (W_run 12 ?_)
    have hR3 : Pure P G n_clause_Right [.agg [.int .i64 v, .lst 1 [.lst 1 (ints L) false] true]] fun u => u = .bool (right v [L]) :=
      hR2.args (.cons _ _ _ _ (.agg _ _ (.cons _ _ _ _ (.refl _) (.cons _ _ _ _ (.lst _ _ _ _ _ (.refl _) (.inr rfl)) .nil))) .nil)
    have hnF : namelessL [V.agg [V.int .i64 v, V.lst 1 (F.map row) false]] = true := by simp [namelessL, nameless]
    have hnL : namelessL [V.agg [V.int .i64 v, V.lst 1 [V.lst 1 (ints L) false] true]] = true := by simp [namelessL, nameless]
    cases hr : right v F with
    | false =>
      have hav : assignV v F L = .tup [fml 0 [], .bool false] := by unfold assignV; rw [hr]; rfl
      simp only [fml, rows, List.map_nil] at hav
      rw [hr] at hR
      simp -implicitDefEqProofs (disch := omega) only [go_sem, ↓reduceIte, reduceCtorEq, Nat.reduceAdd, Nat.reduceEqDiff, Nat.zero_add, Nat.le_refl, clause_Assign, zqa_0, zqa_1, zqa_2, zqa_3, zqa_4, zqa_5, zqa_6, zqa_7, zqa_8, zqa_9, zqa_10, zqa_11, zqa_12, zqa_13, zqa_14, zqa_15, zqa_16, zqa_17, zqa_18, List.length_cons, List.length_nil, List.cons_append, List.nil_append]
      refine callPS hT t_clause_Right hR hnF 2 ?_
      simp -implicitDefEqProofs (disch := omega) only [go_sem, ↓reduceIte, reduceCtorEq, Nat.reduceEqDiff, Bool.not_false]
      iterate 9 (try (refine run_sem 2 ?_; simp -implicitDefEqProofs (disch := omega) only [go_sem, ↓reduceIte, reduceCtorEq, Nat.reduceAdd, Nat.reduceEqDiff, Nat.zero_add, Bool.not_false, Nat.le_refl, Nat.zero_le, List.length_cons, List.length_nil, List.cons_append, List.nil_append, and_true, Bool.not_false]))
      try refine run_sem 1000 ?_
      try simp -implicitDefEqProofs (disch := omega) only [go_sem, ↓reduceIte, reduceCtorEq, Nat.reduceAdd, Nat.reduceEqDiff, Nat.zero_add, Nat.le_refl, List.length_cons, List.length_nil]
      exact .inl hav
    | true =>
      rw [hr] at hR
      cases hr2 : right v [L] with
      | false =>
        have hav : assignV v F L = .tup [fml 0 [], .bool false] := by unfold assignV; rw [hr, hr2]; rfl
        simp only [fml, rows, List.map_nil] at hav
        rw [hr2] at hR3
        simp -implicitDefEqProofs (disch := omega) only [go_sem, ↓reduceIte, reduceCtorEq, Nat.reduceAdd, Nat.reduceEqDiff, Nat.zero_add, Nat.le_refl, clause_Assign, zqa_0, zqa_1, zqa_2, zqa_3, zqa_4, zqa_5, zqa_6, zqa_7, zqa_8, zqa_9, zqa_10, zqa_11, zqa_12, zqa_13, zqa_14, zqa_15, zqa_16, zqa_17, zqa_18, List.length_cons, List.length_nil, List.cons_append, List.nil_append]
        refine callPS hT t_clause_Right hR hnF 2 ?_
        simp -implicitDefEqProofs (disch := omega) only [go_sem, ↓reduceIte, reduceCtorEq, Nat.reduceEqDiff, Bool.not_true]
        iterate 5 (try (refine run_sem 2 ?_; simp -implicitDefEqProofs (disch := omega) only [go_sem, ↓reduceIte, reduceCtorEq, Nat.reduceAdd, Nat.reduceEqDiff, Nat.reduceLeDiff, Nat.zero_add, Nat.add_zero, Nat.le_refl, List.length_cons, List.length_nil, List.cons_append, List.nil_append, true_implies, and_true]))
        refine callPS hT t_clause_Right hR3 hnL 2 ?_
        simp -implicitDefEqProofs (disch := omega) only [go_sem, ↓reduceIte, reduceCtorEq, Nat.reduceAdd, Nat.reduceEqDiff, Bool.not_false]
        iterate 5 (try (refine run_sem 2 ?_; simp -implicitDefEqProofs (disch := omega) only [go_sem, ↓reduceIte, reduceCtorEq, Nat.reduceAdd, Nat.reduceEqDiff, Nat.zero_add, Bool.not_false, Nat.le_refl, Nat.zero_le, List.length_cons, List.length_nil, List.cons_append, List.nil_append, and_true, Bool.not_false]))
        try refine run_sem 1000 ?_
        try simp -implicitDefEqProofs (disch := omega) only [go_sem, ↓reduceIte, reduceCtorEq, Nat.reduceAdd, Nat.reduceEqDiff, Nat.zero_add, Nat.le_refl, List.length_cons, List.length_nil]
        exact .inl hav
      | true =>
        rw [hr2] at hR3
        have hrt := (right_iff.1 hr)
        simp -implicitDefEqProofs (disch := omega) only [go_sem, ↓reduceIte, reduceCtorEq, Nat.reduceAdd, Nat.reduceEqDiff, Nat.zero_add, Nat.le_refl, clause_Assign, zqa_0, zqa_1, zqa_2, zqa_3, zqa_4, zqa_5, zqa_6, zqa_7, zqa_8, zqa_9, zqa_10, zqa_11, zqa_12, zqa_13, zqa_14, zqa_15, zqa_16, zqa_17, zqa_18, List.length_cons, List.length_nil, List.cons_append, List.nil_append]
        refine callPS hT t_clause_Right hR hnF 2 ?_
        simp -implicitDefEqProofs (disch := omega) only [go_sem, ↓reduceIte, reduceCtorEq, Nat.reduceEqDiff, Bool.not_true]
        iterate 5 (try (refine run_sem 2 ?_; simp -implicitDefEqProofs (disch := omega) only [go_sem, ↓reduceIte, reduceCtorEq, Nat.reduceAdd, Nat.reduceEqDiff, Nat.reduceLeDiff, Nat.zero_add, Nat.add_zero, Nat.le_refl, List.length_cons, List.length_nil, List.cons_append, List.nil_append, true_implies, and_true]))
        refine callPS hT t_clause_Right hR3 hnL 2 ?_
        simp -implicitDefEqProofs (disch := omega) only [go_sem, ↓reduceIte, reduceCtorEq, Nat.reduceAdd, Nat.reduceEqDiff, Bool.not_true]
        iterate 2 (try (refine run_sem 2 ?_; simp -implicitDefEqProofs (disch := omega) only [go_sem, ↓reduceIte, reduceCtorEq, Nat.reduceEqDiff]))
        try refine run_sem 1000 ?_
        try simp -implicitDefEqProofs (disch := omega) only [go_sem, ↓reduceIte, reduceCtorEq, Nat.reduceAdd, Nat.reduceEqDiff, Nat.zero_add, Bool.not_false, Nat.le_refl, Nat.zero_le, ints_length, List.length_cons, List.length_nil, List.cons_append, List.nil_append]
        refine ⟨rfl, ?_⟩
        refine sem_invE (aJ t (t + 1) (t + 1 + 1 + 1) v F L) (aE t (t + 1) (t + 1 + 1 + 1) v F L) (m0 := L.length) ⟨0, t + 1 + 1 + 1 + 1, t + 1 + 1, by omega, rfl, ?_⟩ (fun m fr σ hJ => a_round hT (by omega) hJ) (fun e fr σ hE => ?_)
        · simp -implicitDefEqProofs (disch := omega) only [go_sem, ↓reduceIte, reduceCtorEq, Nat.reduceEqDiff, aH]
          exact ⟨rfl, rfl⟩
        · obtain ⟨t1, tm, rfl, f1, f2, f4, f6, rfl⟩ := hE
          have hsome := c_some (P := P) (G := G) (base := 0) (t := t1) hT (k_clause_Assign_S1 (c := L) hT (kb := 3) (tb := t + 1 + 1 + 1) (T := 53) (km := 2) (vm := tm) (S := knOf L) hb (o := aH t (t + 1) tm (t + 1 + 1 + 1) v F (knOf L)) rfl rfl) (by omega)
          have hany : L.any (fun n => decide (neg n ∈ knOf L)) = L.any (fun n => decide (neg n ∈ L)) := by
            congr 1; funext n; simp [mem_knOf]
          rw [hany] at hsome
          refine run_sem 1000 ?_
          simp -implicitDefEqProofs (disch := omega) only [go_sem, ↓reduceIte, Nat.reduceEqDiff, aH, f1, f6]
          refine call hT t_clause_some_int hsome 1000 fun u σ hu => ?_
          obtain ⟨rfl, t2, ht2, rfl⟩ := hu
          cases hcc : L.any fun n => decide (neg n ∈ L) with
          | true =>
            have hav : assignV v F L = .tup [fml 0 [], .bool false] := by unfold assignV; rw [hr, hr2, hcc]; rfl
            simp only [fml, rows, List.map_nil] at hav
            simp -implicitDefEqProofs (disch := omega) only [go_sem, ↓reduceIte, reduceCtorEq, Nat.reduceAdd, Nat.reduceEqDiff, Nat.zero_add, Bool.not_false, Nat.le_refl, Nat.zero_le, aH, List.length_cons, List.length_nil, List.cons_append, List.nil_append, f4]
            exact .inl hav
          | false =>
            have hav : assignV v F L = .tup [fml v (assign F L), .bool true] := by unfold assignV; rw [hr, hr2, hcc]; rfl
            simp only [fml, rows] at hav
            simp -implicitDefEqProofs (disch := omega) only [go_sem, ↓reduceIte, Nat.reduceAdd, Nat.reduceEqDiff, Nat.reduceLeDiff, Nat.zero_add, Nat.add_zero, Bool.not_false, Nat.le_refl, Nat.zero_le, aH, List.length_map, List.length_cons, List.length_nil, List.cons_append, List.nil_append, f2]
            refine sem_shift (HShift.shift (HShift.ownAt 1 28 (k := 4) (p := 1) (Nat.zero_le _) rfl rfl)) ?_
            simp -implicitDefEqProofs (disch := omega) only [go_sem, Nat.reduceAdd, Nat.zero_add, List.length_cons, List.length_nil, List.cons_append, List.nil_append, List.set_cons_succ, List.set_cons_zero]
            refine sem_invE (bJ t (t + 1) tm (t + 1 + 1 + 1) t2 v F L) (bE t (t + 1) tm (t + 1 + 1 + 1) t2 v F L) (m0 := F.length) ⟨0, t2 + 1 + 1, t2 + 1, by omega, rfl, ?_⟩ (fun m fr σ hJ => b_round hT hF hc (fun c h n hn => by have := hrt.2 c h n hn; omega) hJ) (fun e fr σ hE => ?_)
            · simp -implicitDefEqProofs (disch := omega) only [go_sem, ↓reduceIte, Nat.reduceEqDiff, aH, bH, List.cons_append, List.nil_append, f2, f4, f6]
              exact ⟨rfl, rfl⟩
            · obtain ⟨t3, tw, rfl, f4, f9, rfl⟩ := hE
              refine run_sem 1000 ?_
              simp -implicitDefEqProofs (disch := omega) only [go_sem, ↓reduceIte, reduceCtorEq, Nat.reduceAdd, Nat.reduceEqDiff, Nat.zero_add, Bool.not_false, Nat.le_refl, Nat.zero_le, aH, bH, List.length_cons, List.length_nil, List.cons_append, List.nil_append, f4, f9]
              exact .inr ⟨tw, hav, rfl, rfl⟩
  · rcases hu with ⟨rfl, hu⟩ | ⟨tw, hr, rfl, ho⟩
    · exact .inl ⟨rfl, .inl ⟨rfl, hu⟩⟩
    · refine .inr ⟨5, tw, 28, _, Nat.zero_le _, ho, ?_, ?_, .inr ?_⟩
      · exact rows_nameless _
      · simp [frzV, frzL, nameless, namelessL]
      · rw [hr]
        simp [frzV, frzL, rowsV, fml, rows]
        rw [List.take_of_length_le (by simp)]
  · rcases hu with ⟨hn, ⟨rfl, hu⟩ | rfl⟩
    · exact ⟨.tup [fml 0 [], .bool false], .tup _ _ (.cons _ _ _ _ (.agg _ _ (.cons _ _ _ _ (.refl _) (.cons _ _ _ _ (.lst _ _ _ _ _ .nil (.inl rfl)) .nil))) (.cons _ _ _ _ (.refl _) .nil)), rfl, by rw [hu]⟩
    · exact ⟨_, .refl _, hn, rfl⟩
end Go.Proofs.YtingdebioipemaaDoor
/- Plain: clauses in another order, literals turned, a clause twice: the same holds, the same follows. -/
namespace Go.Cl
open Go
end Go.Cl
/- Plain: the stage's theorem of clauses: what is left, what follows, what is put together, in any model. -/
namespace Go.Cl
open Go
theorem right_assign {v : Int} {F : List (List Int)} {L : List Int} (h : right v F = true) : right v (assign F L) = true := by
  obtain ⟨⟨h1, h2, h3⟩, h4⟩ := right_iff.1 h
  refine right_iff.2 ⟨⟨h1, h2, ?_⟩, fun c hc n hn => ?_⟩
  · have := List.length_filter_le (fun c : List Int => !c.any fun n => decide (n ∈ L)) F
    simp only [assign, List.length_map]; omega
  · simp only [assign, List.mem_map, List.mem_filter] at hc
    obtain ⟨d, ⟨hd, _⟩, rfl⟩ := hc
    exact h4 d hd n (List.mem_filter.1 hn).1
theorem assign_holds {F : List (List Int)} {L : List Int} {m : List Bool} (hL : ∀ n ∈ L, litT m n = true) : (assign F L).all (clauseT m) = F.all (clauseT m) := by
  induction F with
  | nil => rfl
  | cons c F ih =>
    have hs : assign (c :: F) L = (if c.any (fun n => decide (n ∈ L)) then [] else [assignC L c]) ++ assign F L := by
      unfold assign
      cases h : c.any fun n => decide (n ∈ L) <;> simp [h]
    rw [hs, List.all_append, List.all_cons, ih]
    congr 1
    cases h : c.any fun n => decide (n ∈ L) with
    | true =>
      obtain ⟨n, hn, hl⟩ := List.any_eq_true.1 h
      have : clauseT m c = true := clauseT_iff.2 ⟨n, hn, hL n (of_decide_eq_true hl)⟩
      simp [this]
    | false =>
      simp only [Bool.false_eq_true, if_false, List.all_cons, List.all_nil, Bool.and_true]
      rw [Bool.eq_iff_iff, clauseT_iff, clauseT_iff]
      refine ⟨fun ⟨n, hn, ht⟩ => ⟨n, (List.mem_filter.1 hn).1, ht⟩, fun ⟨n, hn, ht⟩ => ⟨n, List.mem_filter.2 ⟨hn, ?_⟩, ht⟩⟩
      simp only [Bool.not_eq_true', decide_eq_false_iff_not]
      exact fun k => cons_T m n ht (hL _ k)
theorem units_hold {F : List (List Int)} (hz : Nz F) {m : List Bool} (h : F.all (clauseT m) = true) : ∃ l, units F = some l ∧ ∀ n ∈ l, litT m n = true := by
  have hF : ∀ c ∈ F, Sat (fun n => litT m n = true) c := fun c hc => clauseT_iff.1 (List.all_eq_true.1 h c hc)
  cases hu : units F with
  | none => exact absurd ((units_none hz).1 hu) (Confl.none (cons_T m) hF)
  | some l => exact ⟨l, rfl, fun n hn => UP.true (cons_T m) hF (((units_some hz hu).2 n).1 hn)⟩
def resolveS (a b : List Int) (v : Int) : List Int × Bool :=
  if v ≤ 0 ∨ v ∉ a ∨ -v ∉ b ∨ -v ∈ a ∨ v ∈ b then ([], false) else cleanS ((a ++ b).filter fun n => decide (n ≠ v ∧ n ≠ -v))
theorem resolve_holds {a b : List Int} {v : Int} {m : List Bool} (h : (resolveS a b v).2 = true) (ha : clauseT m a = true) (hb : clauseT m b = true) : clauseT m (resolveS a b v).1 = true := by
  unfold resolveS at h ⊢
  split at h
  · cases h
  · rename_i hn
    rw [if_neg hn]
    have h0 : v ∉ b := fun k => hn (.inr (.inr (.inr (.inr k))))
    have h1 : -v ∉ a := fun k => hn (.inr (.inr (.inr (.inl k))))
    unfold cleanS at h ⊢
    split at h
    · cases h
    · rename_i hbad
      rw [if_neg hbad]
      obtain ⟨x, hx, hxt⟩ := clauseT_iff.1 ha
      obtain ⟨y, hy, hyt⟩ := clauseT_iff.1 hb
      refine clauseT_iff.2 ?_
      by_cases hxv : x = v
      · have hyv : y ≠ -v := fun e => by subst e; rw [hxv] at hxt; exact cons_T m v hxt hyt
        exact ⟨y, mem_canon.2 (List.mem_filter.2 ⟨List.mem_append_right _ hy, decide_eq_true ⟨fun e => h0 (e ▸ hy), hyv⟩⟩), hyt⟩
      · exact ⟨x, mem_canon.2 (List.mem_filter.2 ⟨List.mem_append_left _ hx, decide_eq_true ⟨hxv, fun e => h1 (e ▸ hx)⟩⟩), hxt⟩
end Go.Cl
/- What the program's Assign leaves is the document's. -/
namespace Go.Proofs.YtingdebioipemaaDoor
open Go Go.Am Go.Cl
set_option maxRecDepth 100000
variable {P : Program} {G : Nat → Option V}
end Go.Proofs.YtingdebioipemaaDoor
/- Contracts: is a number in a row? -/
namespace Go.Proofs.YtingdebioipemaaDoor
open Go Go.Am Go.Cl
set_option maxRecDepth 100000
variable {P : Program} {G : Nat → Option V}
abbrev ixJ (t : Nat) (c : List Int) (x : Int) : Nat → Fr → H → Prop := fun m fr σ => ∃ i, i ≤ c.length ∧ m = c.length - i ∧ x ∉ c.take i ∧ fget fr 0 = .lst 1 (ints c) false ∧ fget fr 1 = .int .i64 x ∧ fget fr 7 = .int .i64 c.length ∧ fget fr 8 = .int .i64 ((i : Nat) : Int) ∧ σ = ⟨t, []⟩
abbrev ixE (t : Nat) (c : List Int) (x : Int) : AE → Fr → H → Prop := fun e fr σ => σ = ⟨t, []⟩ ∧ ((e = .ret ∧ x ∈ c ∧ ∃ i : Nat, fget fr 4 = .int .i64 i) ∨ (e = .ex 0 ∧ x ∉ c))
theorem c_Index (hT : TabOk P tab) (c : List Int) (x : Int) (hl : c.length ≤ 1000000) :
    Pure P G n_slices_Index_int_int [row c, .int .i64 x] fun u => ∃ i : Int, u = .int .i64 i ∧ (0 ≤ i ↔ x ∈ c) := by
  intro t
  simp only [row]
  refine C_keep 0 (Nat.zero_le _) (C_tab hT t_slices_Index_int_int (by simp [slices_Index_int_int]) (W_run 1000 ?_))
  simp -implicitDefEqProofs (disch := omega) only [go_sem, ↓reduceIte, reduceCtorEq, Nat.reduceEqDiff, Nat.zero_add, slices_Index_int_int, zq1n_0, zq1n_1, zq1n_2, zq1n_3, zq1n_4, zq1n_5, zq1n_6, zq1n_7, ints_length]
  refine sem_invE (ixJ t c x) (ixE t c x) (m0 := c.length) ⟨0, by omega, rfl, by simp, ?_⟩ (fun m fr σ hJ => ?_) (fun e fr σ hE => ?_)
  · simp -implicitDefEqProofs (disch := omega) only [go_sem, ↓reduceIte, reduceCtorEq, Nat.reduceEqDiff, true_and, and_true]
    rfl
  · obtain ⟨i, hi, rfl, hno, f0, f1, f7, f8, rfl⟩ := hJ
    rcases Nat.lt_or_ge i c.length with hlt | hge
    · obtain ⟨n, hni⟩ : ∃ n, c[i]? = some n := ⟨_, List.getElem?_eq_getElem hlt⟩
      have hD := ints_getD hni
      have e2 := wnext hlt (by omega)
      by_cases hx : x = n
      · subst hx
        have hm := List.mem_of_getElem? hni
        have hb : (x == x) = true := by simp
        refine W_round [(0, .lst 1 (ints c) false), (1, .int .i64 x), (7, .int .i64 c.length), (8, .int .i64 ((i : Nat) : Int))] ⟨f0, f1, f7, f8, trivial⟩  1000 ?_
        simp -implicitDefEqProofs (disch := omega) only [go_sem, need_of, ↓reduceIte, reduceCtorEq, Nat.reduceEqDiff, Nat.zero_add, decide_true, Nat.le_refl, beq_self_eq_true, ints_length, true_implies, and_true, hlt, hD]
        exact ⟨rfl, .inl ⟨rfl, hm, i, rfl⟩⟩
      · have hb : (x == n) = false := by simpa using hx
        refine W_round [(0, .lst 1 (ints c) false), (1, .int .i64 x), (7, .int .i64 c.length), (8, .int .i64 ((i : Nat) : Int))] ⟨f0, f1, f7, f8, trivial⟩  1000 ?_
        simp -implicitDefEqProofs (disch := omega) only [go_sem, need_of, ↓reduceIte, reduceCtorEq, Nat.reduceEqDiff, Nat.zero_add, decide_true, Nat.le_refl, ints_length, true_implies, and_true, hlt, hD, hb]
        refine ⟨c.length - (i + 1), _, _, by omega, Shift.refl _ _ _ _, i + 1, by omega, rfl, ?_, ?_⟩
        · rw [take_snoc hni, List.mem_append]; simp [hno, hx]
        · simp -implicitDefEqProofs (disch := omega) only [go_sem, ↓reduceIte, reduceCtorEq, Nat.reduceEqDiff, and_true, e2]
    · have hi : i = c.length := by omega
      rw [hi, List.take_length] at hno
      refine W_round [(0, .lst 1 (ints c) false), (1, .int .i64 x), (7, .int .i64 c.length), (8, .int .i64 ((i : Nat) : Int))] ⟨f0, f1, f7, f8, trivial⟩  1000 ?_
      simp -implicitDefEqProofs (disch := omega) only [go_sem, ↓reduceIte, reduceCtorEq, Nat.reduceEqDiff, decide_false, hi, Nat.lt_irrefl]
      exact ⟨rfl, .inr ⟨rfl, hno⟩⟩
  · obtain ⟨rfl, ⟨rfl, hm, i, f4⟩ | ⟨rfl, hm⟩⟩ := hE
    · refine run_sem 1000 ?_
      simp -implicitDefEqProofs (disch := omega) only [go_sem, Nat.le_refl, true_and, f4]
      exact ⟨_, rfl, by simp [hm]⟩
    · refine run_sem 1000 ?_
      simp -implicitDefEqProofs (disch := omega) only [go_sem, ↓reduceIte, Nat.le_refl, true_and]
      exact ⟨_, rfl, by simp [hm]⟩
theorem c_Contains (hT : TabOk P tab) (c : List Int) (x : Int) (hl : c.length ≤ 1000000) :
    Pure P G n_slices_Contains_int_int [row c, .int .i64 x] fun u => u = .bool (decide (x ∈ c)) := by
  intro t
  have hI := c_Index (P := P) (G := G) hT c x hl
  simp only [row] at hI ⊢
  refine C_keep 0 (Nat.zero_le _) (C_tab hT t_slices_Contains_int_int (by simp [slices_Contains_int_int]) (W_run 1000 ?_))
  simp -implicitDefEqProofs (disch := omega) only [go_sem, ↓reduceIte, reduceCtorEq, Nat.reduceEqDiff, Nat.zero_add, slices_Contains_int_int, zq15_0, zq15_1]
  refine callP hT t_slices_Index_int_int hI (by simp [namelessL, nameless]) 1000 fun u hu => ?_
  obtain ⟨i, rfl, hi⟩ := hu
  by_cases hx : x ∈ c
  · have h0 : (0 ≤ i) = True := eq_true (hi.2 hx)
    simp -implicitDefEqProofs (disch := omega) only [go_sem, ↓reduceIte, reduceCtorEq, Nat.reduceEqDiff, decide_true, Nat.le_refl, ge_iff_le, h0, hx]
  · have h0 : (0 ≤ i) = False := eq_false fun k => hx (hi.1 k)
    simp -implicitDefEqProofs (disch := omega) only [go_sem, ↓reduceIte, reduceCtorEq, Nat.reduceEqDiff, decide_false, Nat.le_refl, ge_iff_le, h0, hx]
end Go.Proofs.YtingdebioipemaaDoor
