/- Contracts: the document's side of clauses: right formulas, models. -/
import Derived.Test.YtingdebioipemaaDoorJ2
/- Contracts: the document's side of clauses: right formulas, models. -/
namespace Go.Proofs.YtingdebioipemaaDoor
open Go Go.Am Go.Cl
set_option maxRecDepth 100000
variable {P : Program} {G : Nat → Option V}
def rfH (t : Nat) (v : Int) (F : List (List Int)) : List (Option Ob) := [some (.arr t 35 [.int .i64 v, .lst 1 (F.map row) false])]
theorem c_rRight (hT : TabOk P tab) (v : Int) (F : List (List Int)) (hF : F.length ≤ 9223372036854775807) (hc : ∀ c ∈ F, c.length ≤ 9223372036854775807) : Pure P G n_proofmarkref05_Right [fml v F] fun u => u = .bool (right v F) := by
  intro t
  simp only [fml, rows]
  refine C_keep 0 (Nat.zero_le _) (C_tab hT t_proofmarkref05_Right (by simp [proofmarkref05_Right]) (W_run 12 ?_))
  by_cases h1 : v < 0
  · have hr : right v F = false := by simp [right]; omega
    simp -implicitDefEqProofs (disch := omega) only [go_sem, ↓reduceIte, reduceCtorEq, Nat.reduceAdd, Nat.reduceEqDiff, Nat.reduceLeDiff, Nat.zero_add, Nat.add_zero, decide_true, proofmarkref05_Right, zq11_0, zq11_1, zq11_2, zq11_3, zq11_4, zq11_5, zq11_6, zq11_7, zq11_8, zq11_9, zq11_10, zq11_11, true_implies, and_true, h1]
    iterate 9 (try (refine run_sem 2 ?_; simp -implicitDefEqProofs (disch := omega) only [go_sem, ↓reduceIte, reduceCtorEq, Nat.reduceEqDiff]))
    try refine run_sem 9 ?_
    try simp -implicitDefEqProofs (disch := omega) only [go_sem, ↓reduceIte, reduceCtorEq, Nat.reduceEqDiff, Nat.zero_add, Nat.zero_le, true_and]
    rw [hr]
  by_cases h2 : v > 16777216
  · have hr : right v F = false := by simp [right]; omega
    simp -implicitDefEqProofs (disch := omega) only [go_sem, ↓reduceIte, reduceCtorEq, Nat.reduceAdd, Nat.reduceEqDiff, Nat.reduceLeDiff, Nat.zero_add, Nat.add_zero, decide_false, proofmarkref05_Right, zq11_0, zq11_1, zq11_2, zq11_3, zq11_4, zq11_5, zq11_6, zq11_7, zq11_8, zq11_9, zq11_10, zq11_11, true_implies, and_true, h1]
    iterate 9 (try (refine run_sem 2 ?_; simp -implicitDefEqProofs (disch := omega) only [go_sem, ↓reduceIte, reduceCtorEq, Nat.reduceAdd, Nat.reduceEqDiff, Nat.reduceLeDiff, Nat.zero_add, Nat.add_zero, decide_true, gt_iff_lt, true_implies, and_true, h2]))
    try refine run_sem 9 ?_
    try simp -implicitDefEqProofs (disch := omega) only [go_sem, ↓reduceIte, reduceCtorEq, Nat.reduceEqDiff, Nat.zero_add, Nat.zero_le, true_and]
    rw [hr]
  by_cases h3 : (F.length : Int) > 1048576
  · have hr : right v F = false := by simp [right]; omega
    simp -implicitDefEqProofs (disch := omega) only [go_sem, ↓reduceIte, reduceCtorEq, Nat.reduceAdd, Nat.reduceEqDiff, Nat.reduceLeDiff, Nat.zero_add, Nat.add_zero, decide_false, proofmarkref05_Right, zq11_0, zq11_1, zq11_2, zq11_3, zq11_4, zq11_5, zq11_6, zq11_7, zq11_8, zq11_9, zq11_10, zq11_11, true_implies, and_true, h1]
    iterate 9 (try (refine run_sem 2 ?_; simp -implicitDefEqProofs (disch := omega) only [go_sem, ↓reduceIte, reduceCtorEq, Nat.reduceAdd, Nat.reduceEqDiff, Nat.reduceLeDiff, Nat.zero_add, Nat.add_zero, decide_true, decide_false, Nat.le_refl, gt_iff_lt, List.length_map, true_implies, and_true, h2, h3]))
    try refine run_sem 9 ?_
    try simp -implicitDefEqProofs (disch := omega) only [go_sem, ↓reduceIte, reduceCtorEq, Nat.reduceEqDiff, Nat.zero_add, Nat.zero_le, true_and]
    rw [hr]
  simp -implicitDefEqProofs (disch := omega) only [go_sem, ↓reduceIte, reduceCtorEq, Nat.reduceAdd, Nat.reduceEqDiff, Nat.reduceLeDiff, Nat.zero_add, Nat.add_zero, decide_false, proofmarkref05_Right, zq11_0, zq11_1, zq11_2, zq11_3, zq11_4, zq11_5, zq11_6, zq11_7, zq11_8, zq11_9, zq11_10, zq11_11, true_implies, and_true, h1]
  iterate 9 (try (refine run_sem 2 ?_; simp -implicitDefEqProofs (disch := omega) only [go_sem, ↓reduceIte, reduceCtorEq, Nat.reduceAdd, Nat.reduceEqDiff, Nat.reduceLeDiff, Nat.zero_add, Nat.add_zero, decide_false, Nat.le_refl, gt_iff_lt, List.length_map, true_implies, and_true, h2, h3]))
  refine run_sem 40 ?_
  simp -implicitDefEqProofs (disch := omega) only [go_sem]
  have hv : 0 ≤ v ∧ v ≤ 16777216 := by omega
  refine sem_for F (fun i fr σ => (∀ c ∈ F.take i, c.all (litOk v) = true) ∧ fget fr 1 = .ptr 0 t 0 ∧ fget fr 3 = .int .i64 ((i : Nat) : Int) ∧ σ = ⟨t + 1, rfH t v F⟩)
    (fun e fr σ => (e = .ret ∧ fget fr 2 = .bool false ∧ right v F = false) ∨ (e = .ex 0 ∧ right v F = true)) ⟨by simp, ?_⟩ (fun i c hci fr σ hJ => ?_) (fun i hi fr σ hJ => ?_) (fun e fr σ hE => ?_)
  · simp -implicitDefEqProofs (disch := omega) only [go_sem, ↓reduceIte, reduceCtorEq, Nat.reduceEqDiff, rfH, true_and, and_true]
    simp
  · obtain ⟨hok, f1, f3, rfl⟩ := hJ
    obtain ⟨hlt, hD, e2⟩ := at_rows hci hF
    have hcm := List.mem_of_getElem? hci
    have hts := take_snoc hci
    refine W_round [(1, .ptr 0 t 0), (3, .int .i64 ((i : Nat) : Int))] ⟨f1, f3, trivial⟩  1000 ?_
    simp -implicitDefEqProofs (disch := omega) only [go_sem, ↓reduceIte, Nat.reduceAdd, Nat.reduceEqDiff, Nat.zero_add, decide_true, Nat.le_refl, rfH, List.length_map, true_implies, and_true, hlt]
    refine sem_for c (fun k fr σ => (∀ n ∈ c.take k, litOk v n = true) ∧ fget fr 1 = .ptr 0 t 0 ∧ fget fr 3 = .int .i64 ((i : Nat) : Int) ∧ fget fr 4 = .int .i64 ((k : Nat) : Int) ∧ σ = ⟨t + 1, rfH t v F⟩)
      (fun e fr σ => (e = .ret ∧ fget fr 2 = .bool false ∧ right v F = false) ∨ (e = .ex 2 ∧ c.all (litOk v) = true ∧ fget fr 1 = .ptr 0 t 0 ∧ fget fr 3 = .int .i64 ((i : Nat) : Int) ∧ σ = ⟨t + 1, rfH t v F⟩)) ⟨by simp, ?_⟩ (fun k n hnk fr σ hJ => ?_) (fun k hk fr σ hJ => ?_) (fun e fr σ hE => ?_)
    · simp -implicitDefEqProofs (disch := omega) only [go_sem, ↓reduceIte, Nat.reduceEqDiff, rfH, true_and, and_true]
      simp
    · obtain ⟨hok2, f1, f3, f4, rfl⟩ := hJ
      obtain ⟨hlt2, hD2, e3⟩ := at_ints hnk (hc c hcm)
      have hnm := List.mem_of_getElem? hnk
      have hts2 := take_snoc hnk
      have hL := c_lit (P := P) (G := G) hT v n hv
      refine W_round [(1, .ptr 0 t 0), (3, .int .i64 ((i : Nat) : Int)), (4, .int .i64 ((k : Nat) : Int))] ⟨f1, f3, f4, trivial⟩  1000 ?_
      simp -implicitDefEqProofs (disch := omega) only [go_sem, need_of, ↓reduceIte, Nat.reduceAdd, Nat.reduceEqDiff, Nat.reduceLeDiff, Nat.zero_add, Nat.add_zero, decide_true, Nat.le_refl, rfH, List.length_map, ints_length, true_implies, and_true, hlt, hD, hlt2, hD2]
      refine callPS hT t_proofmarkref05_lit hL rfl 1000 ?_
      cases hl : litOk v n with
      | false =>
        have hr : right v F = false := by
          have : F.all (fun c => c.all (litOk v)) = false := by
            rw [List.all_eq_false]
            exact ⟨c, hcm, by rw [Bool.not_eq_true, List.all_eq_false]; exact ⟨n, hnm, by simp [hl]⟩⟩
          simp [right, this]
        simp -implicitDefEqProofs (disch := omega) only [go_sem, ↓reduceIte, reduceCtorEq, Nat.reduceEqDiff, Bool.not_false, true_and, and_true]
        exact hr
      | true =>
        simp -implicitDefEqProofs (disch := omega) only [go_sem, ↓reduceIte, Nat.reduceEqDiff, Bool.not_true]
        refine ⟨_, _, Shift.refl _ _ _ _, fun x hx => ?_, ?_⟩
        · rw [hts2, List.mem_append] at hx
          rcases hx with hx | hx
          · exact hok2 x hx
          · simp at hx; subst hx; exact hl
        · simp -implicitDefEqProofs (disch := omega) only [go_sem, ↓reduceIte, Nat.reduceEqDiff, and_true, e3]
    · obtain ⟨hok2, f1, f3, f4, rfl⟩ := hJ
      rw [hk, List.take_length] at hok2
      refine W_round [(1, .ptr 0 t 0), (3, .int .i64 ((i : Nat) : Int)), (4, .int .i64 ((k : Nat) : Int))] ⟨f1, f3, f4, trivial⟩  1000 ?_
      simp -implicitDefEqProofs (disch := omega) only [go_sem, need_of, ↓reduceIte, reduceCtorEq, Nat.reduceAdd, Nat.reduceEqDiff, Nat.zero_add, decide_false, Nat.le_refl, rfH, List.length_map, ints_length, true_implies, true_and, and_true, hlt, hD, hk, Nat.lt_irrefl]
      exact List.all_eq_true.2 hok2
    · rcases hE with ⟨rfl, f2, hr⟩ | ⟨rfl, hcc, f1, f3, rfl⟩
      · refine run_sem 1000 ?_
        simp -implicitDefEqProofs (disch := omega) only [go_sem, and_true, f2, hr]
      · refine run_sem 1000 ?_
        simp -implicitDefEqProofs (disch := omega) only [go_sem, ↓reduceIte, rfH, f3]
        refine ⟨_, _, Shift.refl _ _ _ _, fun d hd => ?_, ?_⟩
        · rw [hts, List.mem_append] at hd
          rcases hd with hd | hd
          · exact hok d hd
          · simp at hd; subst hd; exact hcc
        · simp -implicitDefEqProofs (disch := omega) only [go_sem, ↓reduceIte, Nat.reduceEqDiff, and_true, f1, e2]
  · obtain ⟨hok, f1, f3, rfl⟩ := hJ
    rw [hi, List.take_length] at hok
    have hr : right v F = true := by
      have : F.all (fun c => c.all (litOk v)) = true := List.all_eq_true.2 hok
      simp [right, this]
      omega
    refine W_round [(1, .ptr 0 t 0), (3, .int .i64 ((i : Nat) : Int))] ⟨f1, f3, trivial⟩  1000 ?_
    simp -implicitDefEqProofs (disch := omega) only [go_sem, ↓reduceIte, reduceCtorEq, Nat.reduceAdd, Nat.reduceEqDiff, Nat.zero_add, decide_false, Nat.le_refl, rfH, List.length_map, true_implies, true_and, and_true, hi, Nat.lt_irrefl]
    exact hr
  · rcases hE with ⟨rfl, f2, hr⟩ | ⟨rfl, hr⟩
    · refine run_sem 1000 ?_
      simp -implicitDefEqProofs (disch := omega) only [go_sem, Nat.zero_le, and_true, f2, hr]
    · refine run_sem 1000 ?_
      simp -implicitDefEqProofs (disch := omega) only [go_sem, ↓reduceIte, Nat.zero_le, and_true, hr]
end Go.Proofs.YtingdebioipemaaDoor
/- Contracts: the document's side of clauses: what holds in a model. -/
namespace Go.Proofs.YtingdebioipemaaDoor
open Go Go.Am Go.Cl
set_option maxRecDepth 100000
variable {P : Program} {G : Nat → Option V}
theorem wself {n : Int} (h : -9223372036854775808 ≤ n ∧ n ≤ 9223372036854775807) : IntKind.i64.wrap n = n := by
  rw [wrap_id]
  · simp [IntKind.min, IntKind.signed, IntKind.bits]; omega
  · simp [IntKind.max, IntKind.signed, IntKind.bits]; omega
end Go.Proofs.YtingdebioipemaaDoor
/- Contracts: the document's side of clauses: clean ones. -/
namespace Go.Proofs.YtingdebioipemaaDoor
open Go Go.Am Go.Cl
set_option maxRecDepth 100000
variable {P : Program} {G : Nat → Option V}
theorem Pure_frz {f : FuncId} {args : List V} {X : V} (h : ∀ t, C P G 0 f args ⟨t, []⟩ fun u σ => (nameless u = true ∧ Wk u X) ∨ ∃ k v' T cs, σ.o[k]? = some (some (.arr v' T cs)) ∧ namelessL cs = true ∧ nameless (frzV k v' cs u) = true ∧ Wk (frzV k v' cs u) X) (hX : nameless X = true) : Pure P G f args fun u => u = X := by
  intro t
  refine C_res (Q := fun u _ => nameless u = true ∧ Wk u X) (C_freezeO (h t) fun u σ hu => ?_) fun u σ hu => ⟨X, hu.2, hX, rfl⟩
  rcases hu with hu | ⟨k, v', T, cs, h1, h2, h3, h4⟩
  · exact .inl hu
  · exact .inr ⟨k, v', T, cs, Nat.zero_le _, h1, h2, h3, h4⟩
theorem wk_row0 (tight : Bool) : Wk (.lst 0 [] tight) (row []) := .lst _ _ _ _ _ .nil (.inl rfl)
theorem frz_row {k w T : Nat} {l : List Int} : frzV k w (ints l) (.sl k w 0 1 l.length none) = row l := by
  simp [frzV, rowsV, ints_length, row]
  rw [← ints_length l, List.take_length]
theorem nameless_row (l : List Int) : nameless (row l) = true := by simp [row, nameless]
theorem wneg_neg {n : Int} (h : -9223372036854775808 ≤ n ∧ n ≤ 9223372036854775807) : IntKind.i64.wrap (0 - n) = neg n := by
  unfold neg
  split
  · subst n; decide
  · rw [wself (by omega)]; omega
theorem max_neg {n : Int} : (if n < -n then -n else n) = av n := by unfold av; split <;> split <;> omega
theorem c_before (hT : TabOk P tab) (a b : Int) (ha : -9223372036854775808 < a ∧ a ≤ 9223372036854775807) (hb : -9223372036854775808 < b ∧ b ≤ 9223372036854775807) : Pure P G n_proofmarkref05_before [.int .i64 a, .int .i64 b] fun u => u = .bool (decide (av a < av b)) := by
  intro t
  have h1 := wneg_neg (n := a) (by omega)
  have h2 := wneg_neg (n := b) (by omega)
  rw [neg, if_neg (by omega)] at h1 h2
  refine C_keep 0 (Nat.zero_le _) (C_tab hT t_proofmarkref05_before (by simp [proofmarkref05_before]) (W_run 1000 ?_))
  simp -implicitDefEqProofs (disch := omega) only [go_sem, ↓reduceIte, reduceCtorEq, Nat.reduceEqDiff, Nat.zero_add, Nat.le_refl, gt_iff_lt, proofmarkref05_before, zq14_0, zq14_1, h1, h2, max_neg]
theorem put_ints {Q S : List Int} {p n : Int} : (ints (Q ++ n :: S)).take Q.length ++ [V.int .i64 p] ++ (ints (Q ++ n :: S)).drop (Q.length + 1) = ints (Q ++ p :: S) := by
  simp [ints, List.drop_append]
theorem put_ints2 {Q S : List Int} {p n q : Int} : (ints (Q ++ q :: n :: S)).take (Q.length + 1) ++ [V.int .i64 p] ++ (ints (Q ++ q :: n :: S)).drop (Q.length + 1 + 1) = ints (Q ++ q :: p :: S) := by
  have := put_ints (Q := Q ++ [q]) (S := S) (p := p) (n := n)
  simpa using this
theorem get_mid {Q S : List Int} {n : Int} : (ints (Q ++ n :: S)).getD Q.length .any = .int .i64 n := by simp [ints, List.getD_eq_getElem?_getD]
theorem get_mid2 {Q S : List Int} {p n : Int} : (ints (Q ++ p :: n :: S)).getD (Q.length + 1) .any = .int .i64 n := by simp [ints, List.getD_eq_getElem?_getD]
theorem wpred {q : Nat} (h : q ≤ 1000000) : IntKind.i64.wrap (((q + 1 : Nat) : Int) - 1) = ((q : Nat) : Int) := by rw [wself (by omega)]; omega
theorem seen_ints {o : List (Option Ob)} {k w T : Nat} {c : List Int} (h : o[k]? = some (some (.arr w T (ints c)))) : Seen o (.sl k w 0 1 c.length none) (.lst 1 (ints c) false) := by
  have := Seen.row (o := o) k w 0 1 none T (ints c) (ints c) h (fun j u hj => ?_) (fun _ => rfl)
  · rwa [ints_length] at this
  · have hj' := hj
    simp only [ints, List.getElem?_map, Option.map_eq_some_iff] at hj
    obtain ⟨c, hc, rfl⟩ := hj
    refine ⟨rfl, fun i d hd => ?_⟩
    cases i with
    | zero =>
      simp [V.cells] at hd; subst hd
      refine ⟨?_, by simp [nameless]⟩
      rw [show 0 + j * 1 + 0 = j by omega]; exact hj'
    | succ i => simp [V.cells] at hd
end Go.Proofs.YtingdebioipemaaDoor
/- Contracts: the document's side of clauses: literals let hold; the literals gone through. -/
namespace Go.Proofs.YtingdebioipemaaDoor
open Go Go.Am Go.Cl
set_option maxRecDepth 100000
variable {P : Program} {G : Nat → Option V}
def raH (t t2 : Nat) (v : Int) (F : List (List Int)) : List (Option Ob) :=
  [some (.arr t 35 [.int .i64 v, .lst 1 (F.map row) false]), some (.arr t2 35 [.int .i64 0, .lst 0 [] true])]
abbrev ra1J (t t2 : Nat) (v : Int) (F : List (List Int)) (L : List Int) : Nat → Fr → H → Prop := fun i fr σ => (∀ n ∈ L.take i, litOk v n = true ∧ neg n ∉ L) ∧ fget fr 1 = .lst 1 (ints L) false ∧ fget fr 2 = .ptr 0 t 0 ∧ fget fr 4 = .ptr 1 t2 0 ∧ fget fr 5 = .bool false ∧ fget fr 6 = .int .i64 ((i : Nat) : Int) ∧ ∃ t3, σ = ⟨t3, raH t t2 v F⟩
abbrev ra1E (t t2 : Nat) (v : Int) (F : List (List Int)) (L : List Int) : AE → Fr → H → Prop := fun e fr σ => (e = .ret ∧ (∃ n ∈ L, ¬ (litOk v n = true ∧ neg n ∉ L)) ∧ fget fr 4 = .ptr 1 t2 0 ∧ fget fr 5 = .bool false ∧ ∃ t3, σ = ⟨t3, raH t t2 v F⟩) ∨ (e = .ex 0 ∧ (∀ n ∈ L, litOk v n = true ∧ neg n ∉ L) ∧ fget fr 1 = .lst 1 (ints L) false ∧ fget fr 2 = .ptr 0 t 0 ∧ fget fr 4 = .ptr 1 t2 0 ∧ fget fr 5 = .bool false ∧ ∃ t3, σ = ⟨t3, raH t t2 v F⟩)
theorem ra1_round (hT : TabOk P tab) {t t2 : Nat} {v : Int} {F : List (List Int)} {L : List Int} (hv : 0 ≤ v ∧ v ≤ 16777216) (hl : L.length ≤ 1000) (hb : ∀ n ∈ L, -9223372036854775808 ≤ n ∧ n ≤ 9223372036854775807)
    {i : Nat} {n : Int} (hn : L[i]? = some n) {fr : Fr} {σ : H} (hJ : ra1J t t2 v F L i fr σ) :
    W P G 93 0 (AC.seq (AC.seq (AC.reg zqb_4 [17, 18, 19])   (AC.cond (Arg.t 20)   AC.skip   (AC.exit 0)))   (AC.seq (AC.block 1 (AC.seq (AC.reg zqb_5 [23, 24, 25, 26, 27, 28, 29, 30, 31, 32, 33, 34, 35, 36, 37, 38])   (AC.cond (Arg.t 39)   (AC.seq (AC.reg zqb_6 [40])   AC.ret)   AC.skip)))   (AC.reg zqb_7 [21, 22]))) fr σ (seqQ (fun fr σ => ∃ fr' σ', Shift G 93 0 fr σ fr' σ' ∧ ra1J t t2 v F L (i + 1) fr' σ') (ra1E t t2 v F L)) := by
  obtain ⟨hok, f1, f2, f4, f5, f6, t3, rfl⟩ := hJ
  obtain ⟨hlt, hD, e3⟩ := at_ints hn (by omega)
  have hts := take_snoc hn
  have hnm := List.mem_of_getElem? hn
  have hneg := wneg_neg (hb n hnm)
  have h1 := c_lit (P := P) (G := G) hT v n hv
  have h2 := c_has (P := P) (G := G) hT L (neg n) (by omega)
  simp only [row] at h2
  cases g1 : litOk v n with
  | false =>
    rw [g1] at h1
    refine W_round [(1, .lst 1 (ints L) false), (2, .ptr 0 t 0), (4, .ptr 1 t2 0), (5, .bool false), (6, .int .i64 ((i : Nat) : Int))] ⟨f1, f2, f4, f5, f6, trivial⟩  14 ?_
    simp -implicitDefEqProofs (disch := omega) only [go_sem, ↓reduceIte, Nat.reduceEqDiff, decide_true, zqb_4, zqb_5, zqb_6, zqb_7, raH, ints_length, hlt]
    iterate 9 (try (refine run_sem 4 ?_; simp -implicitDefEqProofs (disch := omega) only [go_sem, need_of, ↓reduceIte, Nat.reduceAdd, Nat.reduceEqDiff, Nat.reduceLeDiff, Nat.zero_add, Nat.add_zero, Nat.le_refl, ints_length, true_implies, and_true, hlt, hD]))
    refine callPS hT t_proofmarkref05_lit h1 rfl 4 ?_
    simp -implicitDefEqProofs (disch := omega) only [go_sem, ↓reduceIte, Nat.reduceEqDiff, Bool.not_false, Bool.not_false]
    iterate 9 (try (refine run_sem 4 ?_; simp -implicitDefEqProofs (disch := omega) only [go_sem, ↓reduceIte, Nat.reduceAdd, Nat.reduceEqDiff, Nat.zero_add, Bool.not_false, Nat.le_refl, Nat.zero_le, and_true, Bool.not_false]))
    exact .inl ⟨rfl, ⟨n, hnm, by simp [g1]⟩, rfl, rfl, _, rfl⟩
  | true =>
    rw [g1] at h1
    cases g2 : decide (neg n ∈ L) with
    | true =>
      rw [g2] at h2
      refine W_round [(1, .lst 1 (ints L) false), (2, .ptr 0 t 0), (4, .ptr 1 t2 0), (5, .bool false), (6, .int .i64 ((i : Nat) : Int))] ⟨f1, f2, f4, f5, f6, trivial⟩  14 ?_
      simp -implicitDefEqProofs (disch := omega) only [go_sem, ↓reduceIte, Nat.reduceEqDiff, decide_true, zqb_4, zqb_5, zqb_6, zqb_7, raH, ints_length, hlt]
      iterate 9 (try (refine run_sem 4 ?_; simp -implicitDefEqProofs (disch := omega) only [go_sem, need_of, ↓reduceIte, Nat.reduceAdd, Nat.reduceEqDiff, Nat.reduceLeDiff, Nat.zero_add, Nat.add_zero, Nat.le_refl, ints_length, true_implies, and_true, hlt, hD]))
      refine callPS hT t_proofmarkref05_lit h1 rfl 4 ?_
      simp -implicitDefEqProofs (disch := omega) only [go_sem, ↓reduceIte, Nat.reduceAdd, Nat.reduceEqDiff, Nat.zero_add, Bool.not_true, Bool.not_true]
      iterate 9 (try (refine run_sem 4 ?_; simp -implicitDefEqProofs (disch := omega) only [go_sem, need_of, ↓reduceIte, Nat.reduceAdd, Nat.reduceEqDiff, Nat.zero_add, Nat.le_refl, ints_length, true_implies, and_true, hlt, hD, hneg]))
      refine callPS hT t_proofmarkref05_has h2 (by simp [namelessL, nameless]) 4 ?_
      simp -implicitDefEqProofs (disch := omega) only [go_sem, ↓reduceIte, Nat.reduceEqDiff]
      iterate 9 (try (refine run_sem 4 ?_; simp -implicitDefEqProofs (disch := omega) only [go_sem, ↓reduceIte, Nat.reduceAdd, Nat.reduceEqDiff, Nat.zero_add, Bool.not_false, Nat.le_refl, Nat.zero_le, and_true, Bool.not_false]))
      exact .inl ⟨rfl, ⟨n, hnm, by have := of_decide_eq_true g2; simp [this]⟩, rfl, rfl, _, rfl⟩
    | false =>
      rw [g2] at h2
      have g2' := of_decide_eq_false g2
      refine W_round [(1, .lst 1 (ints L) false), (2, .ptr 0 t 0), (4, .ptr 1 t2 0), (5, .bool false), (6, .int .i64 ((i : Nat) : Int))] ⟨f1, f2, f4, f5, f6, trivial⟩  14 ?_
      simp -implicitDefEqProofs (disch := omega) only [go_sem, ↓reduceIte, Nat.reduceEqDiff, decide_true, zqb_4, zqb_5, zqb_6, zqb_7, raH, ints_length, hlt]
      iterate 9 (try (refine run_sem 4 ?_; simp -implicitDefEqProofs (disch := omega) only [go_sem, need_of, ↓reduceIte, Nat.reduceAdd, Nat.reduceEqDiff, Nat.reduceLeDiff, Nat.zero_add, Nat.add_zero, Nat.le_refl, ints_length, true_implies, and_true, hlt, hD]))
      refine callPS hT t_proofmarkref05_lit h1 rfl 4 ?_
      simp -implicitDefEqProofs (disch := omega) only [go_sem, ↓reduceIte, Nat.reduceAdd, Nat.reduceEqDiff, Nat.zero_add, Bool.not_true, Bool.not_true]
      iterate 9 (try (refine run_sem 4 ?_; simp -implicitDefEqProofs (disch := omega) only [go_sem, need_of, ↓reduceIte, Nat.reduceAdd, Nat.reduceEqDiff, Nat.zero_add, Nat.le_refl, ints_length, true_implies, and_true, hlt, hD, hneg]))
      refine callPS hT t_proofmarkref05_has h2 (by simp [namelessL, nameless]) 4 ?_
      simp -implicitDefEqProofs (disch := omega) only [go_sem, ↓reduceIte, Nat.reduceEqDiff]
      iterate 9 (try (refine run_sem 4 ?_; simp -implicitDefEqProofs (disch := omega) only [go_sem, ↓reduceIte, Nat.reduceEqDiff]))
      refine ⟨_, _, Shift.refl _ _ _ _, fun x hx => ?_, ?_⟩
      · rw [hts, List.mem_append] at hx
        rcases hx with hx | hx
        · exact hok x hx
        · simp at hx; subst hx; exact ⟨g1, g2'⟩
      · simp -implicitDefEqProofs (disch := omega) only [go_sem, ↓reduceIte, Nat.reduceEqDiff, raH, true_and, and_true, e3]
        exact ⟨_, rfl⟩
end Go.Proofs.YtingdebioipemaaDoor
/- Contracts: the document's side of clauses: literals let hold; a clause gone through. -/
namespace Go.Proofs.YtingdebioipemaaDoor
open Go Go.Am Go.Cl
set_option maxRecDepth 100000
variable {P : Program} {G : Nat → Option V}
def raB (t t2 t7 tw tl : Nat) (v : Int) (F R : List (List Int)) (Q : List Int) : List (Option Ob) :=
  [some (.arr t 35 [.int .i64 v, .lst 1 (F.map row) false]), some (.arr t2 35 [.int .i64 0, .lst 0 [] true]),
   some (.arr t7 35 [.int .i64 v, .sl 3 tw 0 1 R.length none]), some (.arr tw 28 (R.map row)), some (.arr tl 3 (ints Q))]
abbrev ra2J (t t2 t7 tw : Nat) (v : Int) (F R : List (List Int)) (L c : List Int) (i : Nat) : Nat → Fr → H → Prop := fun k fr σ => ∃ t3 tl Q hd, Q = assignC L (c.take k) ∧ hd = ((c.take k).any fun n => decide (n ∈ L)) ∧ fget fr 1 = .lst 1 (ints L) false ∧ fget fr 2 = .ptr 0 t 0 ∧ fget fr 4 = .ptr 1 t2 0 ∧ fget fr 5 = .bool false ∧ fget fr 7 = .ptr 2 t7 0 ∧ fget fr 8 = .int .i64 ((i : Nat) : Int) ∧ fget fr 9 = .sl 4 tl 0 1 Q.length none ∧ fget fr 10 = .bool hd ∧ fget fr 11 = .int .i64 ((k : Nat) : Int) ∧ σ = ⟨t3, raB t t2 t7 tw tl v F R Q⟩
abbrev ra2E (t t2 t7 tw : Nat) (v : Int) (F R : List (List Int)) (L c : List Int) (i : Nat) : AE → Fr → H → Prop := fun e fr σ => ∃ t3 tl Q hd, e = .ex 4 ∧ Q = assignC L c ∧ hd = (c.any fun n => decide (n ∈ L)) ∧ fget fr 1 = .lst 1 (ints L) false ∧ fget fr 2 = .ptr 0 t 0 ∧ fget fr 4 = .ptr 1 t2 0 ∧ fget fr 5 = .bool false ∧ fget fr 7 = .ptr 2 t7 0 ∧ fget fr 8 = .int .i64 ((i : Nat) : Int) ∧ fget fr 9 = .sl 4 tl 0 1 Q.length none ∧ fget fr 10 = .bool hd ∧ σ = ⟨t3, raB t t2 t7 tw tl v F R Q⟩
set_option maxHeartbeats 2000000 in
theorem ra2_round (hT : TabOk P tab) {t t2 t7 tw : Nat} {v : Int} {F R : List (List Int)} {L c : List Int} {i : Nat} (hci : F[i]? = some c) (hF : F.length ≤ 1000) (hcl : c.length ≤ 1000) (hl : L.length ≤ 1000) (hb : ∀ n ∈ c, -16777216 ≤ n ∧ n ≤ 16777216)
    {k : Nat} {n : Int} (hn : c[k]? = some n) {fr : Fr} {σ : H} (hJ : ra2J t t2 t7 tw v F R L c i k fr σ) :
    W P G 93 0 (AC.seq (AC.seq (AC.reg zqb_14 [51, 52, 53, 54, 55, 56, 57])   (AC.cond (Arg.t 58)   AC.skip   (AC.exit 4)))   (AC.seq (AC.block 5 (AC.seq (AC.reg zqb_15 [61, 62, 63, 64, 65, 66, 67, 68])   (AC.seq (AC.reg zqb_16 [69, 70, 71, 72, 73, 74])   (AC.seq (AC.reg zqb_17 [75, 76, 77, 78])   (AC.cond (Arg.t 79)   (AC.reg zqb_18 [80, 81, 82, 83])   AC.skip)))))   (AC.reg zqb_19 [59, 60]))) fr σ (seqQ (fun fr σ => ∃ fr' σ', Shift G 93 0 fr σ fr' σ' ∧ ra2J t t2 t7 tw v F R L c i (k + 1) fr' σ') (ra2E t t2 t7 tw v F R L c i)) := by
  obtain ⟨t3, tl, Q, hd, hQ, hhd, f1, f2, f4, f5, f7, f8, f9, f10, f11, rfl⟩ := hJ
  obtain ⟨hlt, hD, _⟩ := at_rows hci (by omega)
  obtain ⟨hlt2, hD2, e3⟩ := at_ints hn (by omega)
  have hts := take_snoc hn
  have hnm := List.mem_of_getElem? hn
  have hbn := hb n hnm
  have hneg : IntKind.i64.wrap (0 - n) = -n := by rw [wself (by omega)]; omega
  have hQl : Q.length ≤ 1000 := by
    have := List.length_filter_le (fun n => !decide (-n ∈ L)) (c.take k)
    rw [hQ]; unfold assignC; rw [List.length_take] at this; omega
  have h1 := c_has (P := P) (G := G) hT L n (by omega)
  have h2 := c_has (P := P) (G := G) hT L (-n) (by omega)
  have hhd2 : ((c.take (k + 1)).any fun n => decide (n ∈ L)) = (hd || decide (n ∈ L)) := by rw [hts, List.any_append, ← hhd]; simp
  have hQ2 : assignC L (c.take (k + 1)) = if -n ∈ L then Q else Q ++ [n] := by
    rw [hts, hQ]; unfold assignC; rw [List.filter_append]
    by_cases h : -n ∈ L <;> simp [h]
  have hap : ints Q ++ [V.int .i64 n] = ints (Q ++ [n]) := by simp [ints]
  have hnl : namelessL [V.lst 1 (ints L) false, V.int .i64 n] = true := by simp [namelessL, nameless]
  have hnl' : namelessL [V.lst 1 (ints L) false, V.int .i64 (-n)] = true := by simp [namelessL, nameless]
  simp only [row] at h1 h2
  cases hd
  · cases g1 : decide (n ∈ L) <;> cases g2 : decide (-n ∈ L) <;> rw [g1] at h1 hhd2 <;> rw [g2] at h2 <;> simp only [Bool.or_false, Bool.or_true] at hhd2 <;> simp only [decide_eq_true_eq, decide_eq_false_iff_not] at g1 g2 <;> simp only [g2, ↓reduceIte] at hQ2
    all_goals (
      refine W_round [(1, .lst 1 (ints L) false), (2, .ptr 0 t 0), (4, .ptr 1 t2 0), (5, .bool false), (7, .ptr 2 t7 0), (8, .int .i64 ((i : Nat) : Int)), (9, .sl 4 tl 0 1 Q.length none), (10, .bool false), (11, .int .i64 ((k : Nat) : Int))] ⟨f1, f2, f4, f5, f7, f8, f9, f10, f11, trivial⟩  14 ?_
      simp -implicitDefEqProofs (disch := omega) only [go_sem, need_of, ↓reduceIte, Nat.reduceAdd, Nat.reduceEqDiff, Nat.zero_add, decide_true, Nat.le_refl, zqb_14, zqb_15, zqb_16, zqb_17, zqb_18, zqb_19, raB, List.length_map, ints_length, true_implies, and_true, hlt, hD, hlt2]
      iterate 9 (try (refine run_sem 4 ?_; simp -implicitDefEqProofs (disch := omega) only [go_sem, need_of, ↓reduceIte, Nat.reduceAdd, Nat.reduceEqDiff, Nat.zero_add, Nat.le_refl, List.length_map, ints_length, true_implies, and_true, hlt, hD, hlt2, hD2]))
      refine callPS hT t_proofmarkref05_has h1 hnl 4 ?_
      simp -implicitDefEqProofs (disch := omega) only [go_sem, ↓reduceIte, Nat.reduceEqDiff]
      iterate 9 (try (refine run_sem 4 ?_; simp -implicitDefEqProofs (disch := omega) only [go_sem, ↓reduceIte, Nat.reduceEqDiff, hneg]))
      refine callPS hT t_proofmarkref05_has h2 hnl' 4 ?_
      simp -implicitDefEqProofs (disch := omega) only [go_sem, ↓reduceIte, Nat.reduceEqDiff, Bool.not_true, Bool.not_false, Bool.not_true, Bool.not_false]
      iterate 9 (try (refine run_sem 4 ?_; simp -implicitDefEqProofs (disch := omega) only [go_sem, need_of, ↓reduceIte, reduceCtorEq, Nat.reduceEqDiff, Nat.reduceLeDiff, Nat.zero_add, Nat.mul_one, Bool.not_true, Nat.le_refl, Nat.zero_le, ints_length, true_and, and_true, Bool.not_true]))
      first | (refine ⟨_, _, Shift.refl _ _ _ _, t3, tl, Q, _, hQ2.symm, hhd2.symm, ?_⟩; simp -implicitDefEqProofs (disch := omega) only [go_sem, ↓reduceIte, Nat.reduceEqDiff, raB, and_true, e3]; done) | (refine ⟨_, _, Shift.refl _ _ _ _, t3 + 1, t3, Q ++ [n], _, hQ2.symm, hhd2.symm, ?_⟩; simp -implicitDefEqProofs (disch := omega) only [go_sem, ↓reduceIte, Nat.reduceEqDiff, Nat.zero_add, raB, and_true, e3, hap, List.length_append]; done))
  · cases g2 : decide (-n ∈ L) <;> rw [g2] at h2 <;> simp only [Bool.true_or] at hhd2 <;> simp only [decide_eq_true_eq, decide_eq_false_iff_not] at g2 <;> simp only [g2, ↓reduceIte] at hQ2
    all_goals (
      refine W_round [(1, .lst 1 (ints L) false), (2, .ptr 0 t 0), (4, .ptr 1 t2 0), (5, .bool false), (7, .ptr 2 t7 0), (8, .int .i64 ((i : Nat) : Int)), (9, .sl 4 tl 0 1 Q.length none), (10, .bool true), (11, .int .i64 ((k : Nat) : Int))] ⟨f1, f2, f4, f5, f7, f8, f9, f10, f11, trivial⟩  14 ?_
      simp -implicitDefEqProofs (disch := omega) only [go_sem, need_of, ↓reduceIte, Nat.reduceAdd, Nat.reduceEqDiff, Nat.zero_add, decide_true, Nat.le_refl, zqb_14, zqb_15, zqb_16, zqb_17, zqb_18, zqb_19, raB, List.length_map, ints_length, true_implies, and_true, hlt, hD, hlt2]
      iterate 9 (try (refine run_sem 4 ?_; simp -implicitDefEqProofs (disch := omega) only [go_sem, need_of, ↓reduceIte, Nat.reduceAdd, Nat.reduceEqDiff, Nat.zero_add, Nat.le_refl, List.length_map, ints_length, true_implies, and_true, hlt, hD, hlt2, hD2, hneg]))
      refine callPS hT t_proofmarkref05_has h2 hnl' 4 ?_
      simp -implicitDefEqProofs (disch := omega) only [go_sem, ↓reduceIte, Nat.reduceEqDiff, Bool.not_true, Bool.not_false, Bool.not_true, Bool.not_false]
      iterate 9 (try (refine run_sem 4 ?_; simp -implicitDefEqProofs (disch := omega) only [go_sem, need_of, ↓reduceIte, reduceCtorEq, Nat.reduceEqDiff, Nat.reduceLeDiff, Nat.zero_add, Nat.mul_one, Bool.not_true, Nat.le_refl, Nat.zero_le, ints_length, true_and, and_true, Bool.not_true]))
      first | (refine ⟨_, _, Shift.refl _ _ _ _, t3, tl, Q, _, hQ2.symm, hhd2.symm, ?_⟩; simp -implicitDefEqProofs (disch := omega) only [go_sem, ↓reduceIte, Nat.reduceEqDiff, raB, and_true, e3]; done) | (refine ⟨_, _, Shift.refl _ _ _ _, t3 + 1, t3, Q ++ [n], _, hQ2.symm, hhd2.symm, ?_⟩; simp -implicitDefEqProofs (disch := omega) only [go_sem, ↓reduceIte, Nat.reduceEqDiff, Nat.zero_add, raB, and_true, e3, hap, List.length_append]; done))
end Go.Proofs.YtingdebioipemaaDoor
/- Contracts: the document's side of clauses: literals let hold; the clauses gone through. -/
namespace Go.Proofs.YtingdebioipemaaDoor
open Go Go.Am Go.Cl
set_option maxRecDepth 100000
variable {P : Program} {G : Nat → Option V}
theorem assign_snocR {F : List (List Int)} {L : List Int} {i : Nat} {c : List Int} (h : F[i]? = some c) : assign (F.take (i + 1)) L = assign (F.take i) L ++ if c.any (fun n => decide (n ∈ L)) then [] else [assignC L c] := by
  unfold assign
  rw [take_snoc h, List.filter_append, List.map_append]
  congr 1
  cases hc : c.any fun n => decide (n ∈ L) <;> simp [hc]
def raR (t t2 t7 tw : Nat) (v : Int) (F R : List (List Int)) : List (Option Ob) :=
  [some (.arr t 35 [.int .i64 v, .lst 1 (F.map row) false]), some (.arr t2 35 [.int .i64 0, .lst 0 [] true]),
   some (.arr t7 35 [.int .i64 v, .sl 3 tw 0 1 R.length none]), some (.arr tw 28 (R.map row))]
abbrev ra3J (t t2 t7 : Nat) (v : Int) (F : List (List Int)) (L : List Int) : Nat → Fr → H → Prop := fun i fr σ => ∃ t3 tw, fget fr 1 = .lst 1 (ints L) false ∧ fget fr 2 = .ptr 0 t 0 ∧ fget fr 4 = .ptr 1 t2 0 ∧ fget fr 5 = .bool false ∧ fget fr 7 = .ptr 2 t7 0 ∧ fget fr 8 = .int .i64 ((i : Nat) : Int) ∧ σ = ⟨t3, raR t t2 t7 tw v F (assign (F.take i) L)⟩
abbrev ra3E (t t2 t7 : Nat) (v : Int) (F : List (List Int)) (L : List Int) : AE → Fr → H → Prop := fun e fr σ => ∃ t3 tw, e = .ex 2 ∧ fget fr 4 = .ptr 1 t2 0 ∧ fget fr 7 = .ptr 2 t7 0 ∧ σ = ⟨t3, raR t t2 t7 tw v F (assign F L)⟩
set_option maxHeartbeats 2000000 in
theorem ra3_round (hT : TabOk P tab) {t t2 t7 : Nat} {v : Int} {F : List (List Int)} {L : List Int} (hF : F.length ≤ 1000) (hc : ∀ c ∈ F, c.length ≤ 1000) (hl : L.length ≤ 1000) (hrt : ∀ c ∈ F, ∀ n ∈ c, -16777216 ≤ n ∧ n ≤ 16777216) {i : Nat} {c : List Int} (hci : F[i]? = some c) {fr : Fr} {σ : H} (hJ : ra3J t t2 t7 v F L i fr σ) :
    W P G 93 0 (AC.seq (AC.seq (AC.reg zqb_10 [44, 45, 46, 47])   (AC.cond (Arg.t 48)   AC.skip   (AC.exit 2)))   (AC.seq (AC.block 3 (AC.seq (AC.reg zqb_11 [])   (AC.seq (AC.reg zqb_12 [])   (AC.seq (AC.seq (AC.reg zqb_13 [])   (AC.block 4 (AC.loop (AC.seq (AC.seq (AC.reg zqb_14 [51, 52, 53, 54, 55, 56, 57])   (AC.cond (Arg.t 58)   AC.skip   (AC.exit 4)))   (AC.seq (AC.block 5 (AC.seq (AC.reg zqb_15 [61, 62, 63, 64, 65, 66, 67, 68])   (AC.seq (AC.reg zqb_16 [69, 70, 71, 72, 73, 74])   (AC.seq (AC.reg zqb_17 [75, 76, 77, 78])   (AC.cond (Arg.t 79)   (AC.reg zqb_18 [80, 81, 82, 83])   AC.skip)))))   (AC.reg zqb_19 [59, 60]))))))   (AC.seq (AC.reg zqb_20 [84])   (AC.cond (Arg.t 85)   (AC.reg zqb_21 [86, 87, 88, 89, 90, 91])   AC.skip))))))   (AC.reg zqb_22 [49, 50]))) fr σ (seqQ (fun fr σ => ∃ fr' σ', Shift G 93 0 fr σ fr' σ' ∧ ra3J t t2 t7 v F L (i + 1) fr' σ') (ra3E t t2 t7 v F L)) := by
  obtain ⟨t3, tw, f1, f2, f4, f5, f7, f8, rfl⟩ := hJ
  obtain ⟨hlt, hD, e2⟩ := at_rows hci (by omega)
  have hcm := List.mem_of_getElem? hci
  have hcl := hc c hcm
  have hsn := assign_snocR (L := L) hci
  have hRl : (assign (F.take i) L).length ≤ 1000 := by
    unfold assign; rw [List.length_map]
    have := List.length_filter_le (fun c : List Int => !c.any fun n => decide (n ∈ L)) (F.take i)
    rw [List.length_take] at this
    omega
  generalize assign (F.take i) L = R at *
  refine W_round [(1, .lst 1 (ints L) false), (2, .ptr 0 t 0), (4, .ptr 1 t2 0), (5, .bool false), (7, .ptr 2 t7 0), (8, .int .i64 ((i : Nat) : Int))] ⟨f1, f2, f4, f5, f7, f8, trivial⟩  1000 ?_
  simp -implicitDefEqProofs (disch := omega) only [go_sem, ↓reduceIte, Nat.reduceAdd, Nat.reduceEqDiff, Nat.zero_add, decide_true, Nat.le_refl, zqb_10, zqb_11, zqb_12, zqb_13, zqb_14, zqb_15, zqb_16, zqb_17, zqb_18, zqb_19, zqb_20, zqb_21, zqb_22, raR, List.length_map, true_implies, and_true, hlt]
  refine sem_shift (Shift.own (s := 9) (z := 0) (sz := 1) (T := 3) (by simp -implicitDefEqProofs (disch := omega) only [go_sem, ↓reduceIte, Nat.reduceEqDiff]) (by decide)) ?_
  simp -implicitDefEqProofs (disch := omega) only [go_sem, ↓reduceIte, Nat.reduceAdd, Nat.reduceEqDiff, Nat.zero_add, H.push, List.length_cons, List.length_nil, List.cons_append, List.nil_append]
  refine sem_for c (ra2J t t2 t7 tw v F R L c i) (ra2E t t2 t7 tw v F R L c i) ⟨t3 + 1, t3, [], false, by simp [assignC], by simp, ?_⟩ (fun k n hn fr σ hJ => ra2_round hT hci hF hcl hl (hrt c hcm) hn hJ) (fun k hk fr σ hJ => ?_) (fun e fr σ hE => ?_)
  · simp -implicitDefEqProofs (disch := omega) only [go_sem, ↓reduceIte, Nat.reduceEqDiff, true_and, raB]
    simp [ints]
  · obtain ⟨t3, tl, Q, hd, hQ, hhd, f1, f2, f4, f5, f7, f8, f9, f10, f11, rfl⟩ := hJ
    rw [hk, List.take_length] at hQ hhd
    refine W_round [(1, .lst 1 (ints L) false), (2, .ptr 0 t 0), (4, .ptr 1 t2 0), (5, .bool false), (7, .ptr 2 t7 0), (8, .int .i64 ((i : Nat) : Int)), (9, .sl 4 tl 0 1 Q.length none), (10, .bool hd), (11, .int .i64 ((k : Nat) : Int))] ⟨f1, f2, f4, f5, f7, f8, f9, f10, f11, trivial⟩ 1000 ?_
    simp -implicitDefEqProofs (disch := omega) only [go_sem, need_of, ↓reduceIte, Nat.reduceAdd, Nat.reduceEqDiff, Nat.zero_add, decide_false, Nat.le_refl, List.length_map, ints_length, true_implies, and_true, raB, hlt, hD, hk, Nat.lt_irrefl]
    exact ⟨t3, tl, Q, hd, rfl, hQ, hhd, rfl, rfl, rfl, rfl, rfl, rfl, rfl, rfl, rfl⟩
  · obtain ⟨t4, tl, Q, hd, rfl, hQ, hhd, f1, f2, f4, f5, f7, f8, f9, f10, rfl⟩ := hE
    have hz : List.take Q.length (ints Q) = ints Q := List.take_of_length_le (by simp [ints])
    have hmr : (R.map row).map (frzV 4 tl (ints Q)) = R.map row := by simp [frzV, row]
    refine sem_exitS [(1, .lst 1 (ints L) false), (2, .ptr 0 t 0), (4, .ptr 1 t2 0), (5, .bool false), (7, .ptr 2 t7 0), (8, .int .i64 ((i : Nat) : Int)), (9, .sl 4 tl 0 1 Q.length none), (10, .bool hd)] ⟨f1, f2, f4, f5, f7, f8, f9, f10, trivial⟩ ?_
    refine sem_shift (Shift.freeze (k := 4) (v := tl) (T := 3) (cs := ints Q) (Nat.zero_le _) rfl (ints_nameless _)) ?_
    simp only [frzFr_cons, frzFr_nil, frzV, rowsV, raB, mapFrom, Ob.mapV, List.set_cons_succ, List.set_cons_zero, Option.map_some, Option.map_none, List.map_cons, List.map_nil, ints_length, hmr]
    rw [← hhd, ← hQ] at hsn
    cases hd with
    | true =>
      rw [if_pos rfl, List.append_nil] at hsn
      refine run_sem 1000 ?_
      simp -implicitDefEqProofs (disch := omega) only [go_sem, ↓reduceIte, reduceCtorEq, Nat.reduceEqDiff, Nat.succ_ne_zero, Nat.zero_add, Nat.mul_one, Bool.not_true, Nat.le_refl, and_true, not_false_eq_true, Bool.not_true, Nat.le_refl, hz]
      refine ⟨_, _, Shift.drop (o' := raR t t2 t7 tw v F R) (t' := t4) (by simp [subObs, raR]) (Nat.le_refl _) (Nat.zero_le _), t4, tw, ?_⟩
      simp -implicitDefEqProofs (disch := omega) only [go_sem, ↓reduceIte, Nat.reduceEqDiff, raR, and_true, e2, hsn]
    | false =>
      rw [if_neg (by simp)] at hsn
      have hap : R.map row ++ [V.lst 1 (ints Q) false] = (R ++ [Q]).map row := by simp [row]
      refine run_sem 1000 ?_
      simp -implicitDefEqProofs (disch := omega) only [go_sem, need_of, ↓reduceIte, reduceCtorEq, Nat.reduceAdd, Nat.reduceEqDiff, Nat.reduceLeDiff, Nat.succ_ne_zero, Nat.zero_add, Nat.mul_one, Bool.not_true, Bool.not_false, Nat.le_refl, Nat.zero_le, List.length_map, true_implies, true_and, and_true, not_false_eq_true, Bool.not_true, Bool.not_false, Nat.le_refl, hz]
      refine ⟨_, _, Shift.drop (o' := raR t t2 t7 t4 v F (R ++ [Q])) (t' := t4 + 1) (by simp [subObs, raR, row]) (Nat.le_refl _) (Nat.zero_le _), t4 + 1, t4, ?_⟩
      simp -implicitDefEqProofs (disch := omega) only [go_sem, ↓reduceIte, Nat.reduceEqDiff, Nat.zero_add, raR, and_true, e2, hsn, List.length_append]
end Go.Proofs.YtingdebioipemaaDoor
/- Contracts: the document's side of clauses: literals let hold. -/
namespace Go.Proofs.YtingdebioipemaaDoor
open Go Go.Am Go.Cl
set_option maxRecDepth 100000
variable {P : Program} {G : Nat → Option V}
def assignR (v : Int) (F : List (List Int)) (L : List Int) : V :=
  if right v F && L.all (fun n => litOk v n && !decide (neg n ∈ L)) then .tup [fml v (assign F L), .bool true] else .tup [fml 0 [], .bool false]
theorem rows_namelessR : ∀ F : List (List Int), namelessL (F.map row) = true
  | [] => rfl
  | c :: F => by have := rows_namelessR F; simpa [namelessL, nameless, row] using this
set_option maxHeartbeats 1000000 in
theorem c_rAssign (hT : TabOk P tab) (v : Int) (F : List (List Int)) (L : List Int) (hF : F.length ≤ 1000) (hc : ∀ c ∈ F, c.length ≤ 1000) (hl : L.length ≤ 1000) (hb : ∀ n ∈ L, -9223372036854775808 ≤ n ∧ n ≤ 9223372036854775807) :
    Pure P G n_proofmarkref05_Assign [fml v F, row L] fun u => u = assignR v F L := by
  intro t
  refine C_res (Q := fun u _ => nameless u = true ∧ ((u = .tup [.agg [.int .i64 0, .lst 0 [] true], .bool false] ∧ assignR v F L = .tup [fml 0 [], .bool false]) ∨ u = assignR v F L))
    (C_freezeO (Q := fun u σ => (u = .tup [.agg [.int .i64 0, .lst 0 [] true], .bool false] ∧ assignR v F L = .tup [fml 0 [], .bool false]) ∨ ∃ tw, assignR v F L = .tup [fml v (assign F L), .bool true] ∧ u = .tup [.agg [.int .i64 v, .sl 3 tw 0 1 (assign F L).length none], .bool true] ∧ σ.o[3]? = some (some (.arr tw 28 ((assign F L).map row)))) ?_ fun u σ hu => ?_) fun u σ hu => ?_
  · have hR := c_rRight (P := P) (G := G) hT v F (by omega) (fun c h => by have := hc c h; omega)
    simp only [fml, rows, row] at hR ⊢
    refine C_tab hT t_proofmarkref05_Assign (by simp [proofmarkref05_Assign]) (W_run 12 ?_)
    have hnF : namelessL [V.agg [V.int .i64 v, V.lst 1 (F.map row) false]] = true := by simp [namelessL, nameless]
    cases hr : right v F with
    | false =>
      have hav : assignR v F L = .tup [fml 0 [], .bool false] := by unfold assignR; rw [hr]; rfl
      simp only [fml, rows, List.map_nil] at hav
      rw [hr] at hR
      simp -implicitDefEqProofs (disch := omega) only [go_sem, ↓reduceIte, reduceCtorEq, Nat.reduceAdd, Nat.reduceEqDiff, Nat.zero_add, Nat.le_refl, proofmarkref05_Assign, zqb_0, zqb_1, zqb_2, zqb_3, zqb_4, zqb_5, zqb_6, zqb_7, zqb_8, zqb_9, zqb_10, zqb_11, zqb_12, zqb_13, zqb_14, zqb_15, zqb_16, zqb_17, zqb_18, zqb_19, zqb_20, zqb_21, zqb_22, zqb_23, false_implies, and_true]
      refine callPS hT t_proofmarkref05_Right hR hnF 1000 ?_
      simp -implicitDefEqProofs (disch := omega) only [go_sem, ↓reduceIte, reduceCtorEq, Nat.reduceAdd, Nat.reduceEqDiff, Nat.zero_add, Bool.not_false, Nat.le_refl, Nat.zero_le, false_implies, true_and, and_true, Bool.not_false]
      exact .inl hav
    | true =>
      rw [hr] at hR
      have hrt := right_iff.1 hr
      simp -implicitDefEqProofs (disch := omega) only [go_sem, ↓reduceIte, reduceCtorEq, Nat.reduceAdd, Nat.reduceEqDiff, Nat.zero_add, Nat.le_refl, proofmarkref05_Assign, zqb_0, zqb_1, zqb_2, zqb_3, zqb_4, zqb_5, zqb_6, zqb_7, zqb_8, zqb_9, zqb_10, zqb_11, zqb_12, zqb_13, zqb_14, zqb_15, zqb_16, zqb_17, zqb_18, zqb_19, zqb_20, zqb_21, zqb_22, zqb_23, false_implies, and_true]
      refine callPS hT t_proofmarkref05_Right hR hnF 1000 ?_
      simp -implicitDefEqProofs (disch := omega) only [go_sem, ↓reduceIte, reduceCtorEq, Nat.reduceEqDiff, Bool.not_true, Bool.not_true]
      refine sem_for L (ra1J t (t + 1) v F L) (ra1E t (t + 1) v F L) ⟨by simp, ?_⟩ (fun i n hn fr σ hJ => ra1_round hT (by omega) hl hb hn hJ) (fun i hi fr σ hJ => ?_) (fun e fr σ hE => ?_)
      · simp -implicitDefEqProofs (disch := omega) only [go_sem, ↓reduceIte, reduceCtorEq, Nat.reduceEqDiff, raH, true_and, and_true]
        exact ⟨rfl, _, rfl⟩
      · obtain ⟨hok, f1, f2, f4, f5, f6, t3, rfl⟩ := hJ
        rw [hi, List.take_length] at hok
        refine W_round [(1, .lst 1 (ints L) false), (2, .ptr 0 t 0), (4, .ptr 1 (t + 1) 0), (5, .bool false), (6, .int .i64 ((i : Nat) : Int))] ⟨f1, f2, f4, f5, f6, trivial⟩ 1000 ?_
        simp -implicitDefEqProofs (disch := omega) only [go_sem, ↓reduceIte, Nat.reduceEqDiff, decide_false, raH, ints_length, hi, Nat.lt_irrefl]
        exact .inr ⟨rfl, hok, rfl, rfl, rfl, rfl, _, rfl⟩
      · rcases hE with ⟨rfl, ⟨n, hn, hno⟩, f4, f5, t3, rfl⟩ | ⟨rfl, hall, f1, f2, f4, f5, t3, rfl⟩
        · have hav : assignR v F L = .tup [fml 0 [], .bool false] := by
            have : L.all (fun n => litOk v n && !decide (neg n ∈ L)) = false := by
              rw [List.all_eq_false]
              refine ⟨n, hn, fun h => hno ?_⟩
              simpa using h
            unfold assignR; rw [this, Bool.and_false]; rfl
          simp only [fml, rows, List.map_nil] at hav
          refine run_sem 1000 ?_
          simp -implicitDefEqProofs (disch := omega) only [go_sem, ↓reduceIte, reduceCtorEq, Nat.reduceAdd, Nat.reduceEqDiff, Nat.zero_add, Nat.le_refl, raH, false_implies, true_and, and_true, f4, f5]
          exact .inl hav
        · have hav : assignR v F L = .tup [fml v (assign F L), .bool true] := by
            have : L.all (fun n => litOk v n && !decide (neg n ∈ L)) = true := by
              rw [List.all_eq_true]
              intro n hn
              simpa using hall n hn
            unfold assignR; rw [hr, this]; rfl
          simp only [fml, rows] at hav
          refine run_sem 1000 ?_
          simp -implicitDefEqProofs (disch := omega) only [go_sem, ↓reduceIte, Nat.reduceAdd, Nat.reduceEqDiff, Nat.reduceLeDiff, Nat.zero_add, Nat.add_zero, Bool.not_false, Nat.le_refl, Nat.zero_le, raH, true_implies, and_true, Bool.not_false, f2]
          refine sem_shift (HShift.shift (HShift.ownAt 1 28 (k := 2) (p := 1) (Nat.zero_le _) rfl rfl)) ?_
          simp -implicitDefEqProofs (disch := omega) only [go_sem, Nat.reduceAdd, Nat.zero_add, List.set_cons_succ, List.set_cons_zero, List.length_cons, List.length_nil, List.cons_append, List.nil_append]
          refine sem_for F (ra3J t (t + 1) t3 v F L) (ra3E t (t + 1) t3 v F L) ⟨t3 + 1 + 1, t3 + 1, ?_⟩ (fun i c hci fr σ hJ => ra3_round hT hF hc hl (fun c h n hn => by have := hrt.2 c h n hn; omega) hci hJ) (fun i hi fr σ hJ => ?_) (fun e fr σ hE => ?_)
          · simp -implicitDefEqProofs (disch := omega) only [go_sem, ↓reduceIte, Nat.reduceEqDiff, raR, true_and, f1, f2, f4, f5]
            simp [assign]
          · obtain ⟨t5, tw, g1, g2, g4, g5, g7, g8, rfl⟩ := hJ
            rw [hi, List.take_length]
            refine W_round [(1, .lst 1 (ints L) false), (2, .ptr 0 t 0), (4, .ptr 1 (t + 1) 0), (5, .bool false), (7, .ptr 2 t3 0), (8, .int .i64 ((i : Nat) : Int))] ⟨g1, g2, g4, g5, g7, g8, trivial⟩ 1000 ?_
            simp -implicitDefEqProofs (disch := omega) only [go_sem, ↓reduceIte, Nat.reduceAdd, Nat.reduceEqDiff, Nat.zero_add, decide_false, Nat.le_refl, raR, List.length_map, true_implies, and_true, hi, Nat.lt_irrefl]
            exact ⟨t5, tw, rfl, rfl, rfl, rfl⟩
          · obtain ⟨t5, tw, rfl, g4, g7, rfl⟩ := hE
            refine run_sem 1000 ?_
            simp -implicitDefEqProofs (disch := omega) only [go_sem, ↓reduceIte, reduceCtorEq, Nat.reduceAdd, Nat.reduceEqDiff, Nat.zero_add, Bool.not_false, Nat.le_refl, Nat.zero_le, raR, false_implies, and_true, Bool.not_false, g4, g7]
            exact .inr ⟨tw, hav, rfl, rfl⟩
  · rcases hu with ⟨rfl, hu⟩ | ⟨tw, hr, rfl, ho⟩
    · exact .inl ⟨rfl, .inl ⟨rfl, hu⟩⟩
    · refine .inr ⟨3, tw, 28, _, Nat.zero_le _, ho, ?_, ?_, .inr ?_⟩
      · exact rows_namelessR _
      · simp [frzV, frzL, nameless, namelessL]
      · rw [hr]
        simp [frzV, frzL, rowsV, fml, rows]
        rw [List.take_of_length_le (by simp)]
  · rcases hu with ⟨hn, ⟨rfl, hu⟩ | rfl⟩
    · exact ⟨.tup [fml 0 [], .bool false], .tup _ _ (.cons _ _ _ _ (.agg _ _ (.cons _ _ _ _ (.refl _) (.cons _ _ _ _ (.lst _ _ _ _ _ .nil (.inl rfl)) .nil))) (.cons _ _ _ _ (.refl _) .nil)), rfl, by rw [hu]⟩
    · exact ⟨_, .refl _, hn, rfl⟩
end Go.Proofs.YtingdebioipemaaDoor
