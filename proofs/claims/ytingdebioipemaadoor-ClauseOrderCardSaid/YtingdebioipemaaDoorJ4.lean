/- Contracts: how many clauses, and literals; formulas as the document has them; what is the same. -/
import Derived.Test.YtingdebioipemaaDoorJ3
import Derived.Test.YtingdebioipemaaDoorJ2
/- Contracts: how many clauses, and literals; formulas as the document has them; what is the same. -/
namespace Go.Proofs.YtingdebioipemaaDoor
open Go Go.Am Go.Cl
set_option maxRecDepth 100000
variable {P : Program} {G : Nat → Option V}
def few5 (F : List (List Int)) (k : Nat) : Bool := decide (F.length ≤ k) && F.all fun c => decide (c.length ≤ 30)
def fwH (t : Nat) (v : Int) (F : List (List Int)) : List (Option Ob) := [some (.arr t 24 [.int .i64 v, .lst 1 (F.map row) false])]
theorem c_few5 (hT : TabOk P tab) (v : Int) (F : List (List Int)) (k : Nat) (hk : k ≤ 1000) (hF : F.length ≤ 9223372036854775807) (hc : ∀ c ∈ F, c.length ≤ 9223372036854775807) :
    Pure P G n_proofmarklaw05_few [fml v F, .int .i64 k] fun u => u = .bool (few5 F k) := by
  intro t
  simp only [fml, rows]
  refine C_keep 0 (Nat.zero_le _) (C_tab hT t_proofmarklaw05_few (by simp [proofmarklaw05_few]) (W_run 1000 ?_))
  rcases Nat.lt_or_ge k F.length with h | h
  · have h' : (k : Int) < (F.length : Int) := by omega
    have hf : few5 F k = false := by unfold few5; rw [decide_eq_false (by omega)]; rfl
    simp -implicitDefEqProofs (disch := omega) only [go_sem, ↓reduceIte, reduceCtorEq, Nat.reduceAdd, Nat.reduceEqDiff, Nat.zero_add, decide_true, Nat.le_refl, Nat.zero_le, gt_iff_lt, proofmarklaw05_few, zq3_0, zq3_1, zq3_2, zq3_3, zq3_4, zq3_5, zq3_6, zq3_7, zq3_8, List.length_map, true_implies, and_true, h', hf]
  · have h' : ¬ (k : Int) < (F.length : Int) := by omega
    have hf : few5 F k = F.all fun c => decide (c.length ≤ 30) := by unfold few5; rw [decide_eq_true (by omega)]; rfl
    simp -implicitDefEqProofs (disch := omega) only [go_sem, ↓reduceIte, reduceCtorEq, Nat.reduceAdd, Nat.reduceEqDiff, Nat.zero_add, decide_false, Nat.le_refl, gt_iff_lt, proofmarklaw05_few, zq3_0, zq3_1, zq3_2, zq3_3, zq3_4, zq3_5, zq3_6, zq3_7, zq3_8, List.length_map, true_implies, and_true, h', hf]
    refine sem_for F (fun i fr σ => (∀ c ∈ F.take i, c.length ≤ 30) ∧ fget fr 2 = .ptr 0 t 0 ∧ fget fr 5 = .int .i64 ((i : Nat) : Int) ∧ σ = ⟨t + 1, fwH t v F⟩)
      (fun e fr σ => (e = .ret ∧ fget fr 4 = .bool false ∧ F.all (fun c => decide (c.length ≤ 30)) = false) ∨ (e = .ex 0 ∧ F.all (fun c => decide (c.length ≤ 30)) = true)) ⟨by simp, ?_⟩ (fun i c hci fr σ hJ => ?_) (fun i hi fr σ hJ => ?_) (fun e fr σ hE => ?_)
    · simp -implicitDefEqProofs (disch := omega) only [go_sem, ↓reduceIte, reduceCtorEq, Nat.reduceEqDiff, fwH, true_and, and_true]
      rfl
    · obtain ⟨hok, f2, f5, rfl⟩ := hJ
      obtain ⟨hlt, hD, e2⟩ := at_rows hci hF
      have hcm := List.mem_of_getElem? hci
      have hts := take_snoc hci
      rcases Nat.lt_or_ge 30 c.length with hb | hb
      · have hb' : (30 : Int) < (c.length : Int) := by omega
        refine W_round [(2, .ptr 0 t 0), (5, .int .i64 ((i : Nat) : Int))] ⟨f2, f5, trivial⟩  1000 ?_
        simp -implicitDefEqProofs (disch := omega) only [go_sem, need_of, ↓reduceIte, reduceCtorEq, Nat.reduceAdd, Nat.reduceEqDiff, Nat.zero_add, decide_true, Nat.le_refl, gt_iff_lt, fwH, List.length_map, ints_length, true_implies, true_and, and_true, hlt, hD, hb']
        rw [List.all_eq_false]; exact ⟨c, hcm, by simp; omega⟩
      · have hb' : ¬ (30 : Int) < (c.length : Int) := by omega
        refine W_round [(2, .ptr 0 t 0), (5, .int .i64 ((i : Nat) : Int))] ⟨f2, f5, trivial⟩  1000 ?_
        simp -implicitDefEqProofs (disch := omega) only [go_sem, need_of, ↓reduceIte, Nat.reduceAdd, Nat.reduceEqDiff, Nat.zero_add, decide_true, decide_false, Nat.le_refl, gt_iff_lt, fwH, List.length_map, ints_length, true_implies, and_true, hlt, hD, hb']
        refine ⟨_, _, Shift.refl _ _ _ _, fun x hx => ?_, ?_⟩
        · rw [hts, List.mem_append] at hx
          rcases hx with hx | hx
          · exact hok x hx
          · simp at hx; subst hx; exact hb
        · simp -implicitDefEqProofs (disch := omega) only [go_sem, ↓reduceIte, Nat.reduceEqDiff, and_true, e2]
    · obtain ⟨hok, f2, f5, rfl⟩ := hJ
      rw [hi, List.take_length] at hok
      refine W_round [(2, .ptr 0 t 0), (5, .int .i64 ((i : Nat) : Int))] ⟨f2, f5, trivial⟩  1000 ?_
      simp -implicitDefEqProofs (disch := omega) only [go_sem, ↓reduceIte, reduceCtorEq, Nat.reduceAdd, Nat.reduceEqDiff, Nat.zero_add, decide_false, Nat.le_refl, fwH, List.length_map, true_implies, true_and, and_true, hi, Nat.lt_irrefl]
      rw [List.all_eq_true]; intro c h; exact decide_eq_true (hok c h)
    · rcases hE with ⟨rfl, f4, hh⟩ | ⟨rfl, hh⟩
      · refine run_sem 1000 ?_
        simp -implicitDefEqProofs (disch := omega) only [go_sem, Nat.zero_le, and_true, f4, hh]
      · refine run_sem 1000 ?_
        simp -implicitDefEqProofs (disch := omega) only [go_sem, ↓reduceIte, Nat.zero_le, and_true, hh]
abbrev siJ (t : Nat) (a b : List Int) : Nat → Fr → H → Prop := fun m fr σ => ∃ i, i ≤ a.length ∧ m = a.length - i ∧ a.take i = b.take i ∧ fget fr 0 = .lst 1 (ints a) false ∧ fget fr 1 = .lst 1 (ints b) false ∧ fget fr 5 = .int .i64 ((i : Nat) : Int) ∧ σ = ⟨t, []⟩
abbrev siE (t : Nat) (a b : List Int) : AE → Fr → H → Prop := fun e fr σ => (e = .ret ∧ fget fr 4 = .bool false ∧ a ≠ b) ∨ (e = .ex 0 ∧ a = b)
theorem si_round (hT : TabOk P tab) {t : Nat} {a b : List Int} (hab : a.length = b.length) (hl : a.length ≤ 9223372036854775807) {m : Nat} {fr : Fr} {σ : H} (hJ : siJ t a b m fr σ) :
    W P G 26 0 (AC.seq (AC.seq (AC.reg zq8_4 [11, 12, 13])   (AC.cond (Arg.t 14)   AC.skip   (AC.exit 0)))   (AC.seq (AC.block 1 (AC.seq (AC.reg zq8_5 [17, 18, 19, 20, 21, 22, 23, 24])   (AC.cond (Arg.t 25)   (AC.seq (AC.reg zq8_6 [])   AC.ret)   AC.skip)))   (AC.reg zq8_7 [15, 16]))) fr σ (seqQ (fun fr σ => ∃ m' fr' σ', m' < m ∧ Shift G 26 0 fr σ fr' σ' ∧ siJ t a b m' fr' σ') (siE t a b)) := by
  obtain ⟨i, hi, rfl, heq, f0, f1, f5, rfl⟩ := hJ
  rcases Nat.lt_or_ge i a.length with hlt | hge
  · obtain ⟨x, hx⟩ : ∃ x, a[i]? = some x := ⟨_, List.getElem?_eq_getElem hlt⟩
    obtain ⟨y, hy⟩ : ∃ y, b[i]? = some y := ⟨_, List.getElem?_eq_getElem (by omega)⟩
    have hltb : i < b.length := by omega
    have hD1 := ints_getD hx
    have hD2 := ints_getD hy
    have e2 := wnext hlt hl
    by_cases hxy : x = y
    · subst hxy
      have hb : (x == x) = true := by simp
      refine W_round [(0, .lst 1 (ints a) false), (1, .lst 1 (ints b) false), (5, .int .i64 ((i : Nat) : Int))] ⟨f0, f1, f5, trivial⟩  1000 ?_
      simp -implicitDefEqProofs (disch := omega) only [go_sem, need_of, ↓reduceIte, reduceCtorEq, Nat.reduceEqDiff, Nat.zero_add, decide_true, Nat.le_refl, bne_self_eq_false, zq8_4, zq8_5, zq8_6, zq8_7, ints_length, true_implies, and_true, hlt, hltb, hD1, hD2]
      refine ⟨a.length - (i + 1), _, _, by omega, Shift.refl _ _ _ _, i + 1, by omega, rfl, by rw [take_snoc hx, take_snoc hy, heq], ?_⟩
      simp -implicitDefEqProofs (disch := omega) only [go_sem, ↓reduceIte, reduceCtorEq, Nat.reduceEqDiff, and_true, e2]
    · have hb : (x = y) = False := eq_false hxy
      have hne : a ≠ b := fun e => by rw [e, hy] at hx; exact hxy (Option.some.inj hx).symm
      refine W_round [(0, .lst 1 (ints a) false), (1, .lst 1 (ints b) false), (5, .int .i64 ((i : Nat) : Int))] ⟨f0, f1, f5, trivial⟩  1000 ?_
      simp -implicitDefEqProofs (disch := omega) only [go_sem, need_of, ↓reduceIte, reduceCtorEq, Nat.reduceEqDiff, Nat.zero_add, decide_true, Nat.le_refl, zq8_4, zq8_5, zq8_6, zq8_7, ints_length, not_false_eq_true, false_implies, true_implies, and_true, hlt, hltb, hD1, hD2, hb]
      exact .inl ⟨rfl, rfl, hne⟩
  · have hi : i = a.length := by omega
    rw [hi, List.take_length, hab, List.take_length] at heq
    refine W_round [(0, .lst 1 (ints a) false), (1, .lst 1 (ints b) false), (5, .int .i64 ((i : Nat) : Int))] ⟨f0, f1, f5, trivial⟩  1000 ?_
    simp -implicitDefEqProofs (disch := omega) only [go_sem, ↓reduceIte, reduceCtorEq, Nat.reduceEqDiff, decide_false, zq8_4, zq8_5, zq8_6, zq8_7, ints_length, hi, Nat.lt_irrefl]
    exact .inr ⟨rfl, heq⟩
theorem c_SameInts (hT : TabOk P tab) (a b : List Int) (hl : a.length ≤ 9223372036854775807) (hl' : b.length ≤ 9223372036854775807) :
    Pure P G n_proofmarkkit_SameInts [row a, row b] fun u => u = .bool (decide (a = b)) := by
  intro t
  simp only [row]
  refine C_keep 0 (Nat.zero_le _) (C_tab hT t_proofmarkkit_SameInts (by simp [proofmarkkit_SameInts]) (W_run 1000 ?_))
  by_cases h : a.length = b.length
  · have h' : ((a.length : Int) = (b.length : Int)) = True := eq_true (by omega)
    simp -implicitDefEqProofs (disch := omega) only [go_sem, ↓reduceIte, reduceCtorEq, Nat.reduceEqDiff, Nat.zero_add, Nat.le_refl, proofmarkkit_SameInts, zq8_0, zq8_1, zq8_2, zq8_3, zq8_4, zq8_5, zq8_6, zq8_7, zq8_8, ints_length, not_true_eq_false, false_implies, true_implies, true_and, h']
    refine sem_invE (siJ t a b) (siE t a b) (m0 := a.length) ⟨0, by omega, rfl, by simp, ?_⟩ (fun m fr σ hJ => si_round hT h hl hJ) (fun e fr σ hE => ?_)
    · simp -implicitDefEqProofs (disch := omega) only [go_sem, ↓reduceIte, reduceCtorEq, Nat.reduceEqDiff, true_and, and_true]
      rfl
    · rcases hE with ⟨rfl, f4, hh⟩ | ⟨rfl, hh⟩
      · refine run_sem 1000 ?_
        simp -implicitDefEqProofs (disch := omega) only [go_sem, decide_false, Nat.zero_le, and_true, f4, hh]
      · refine run_sem 1000 ?_
        simp -implicitDefEqProofs (disch := omega) only [go_sem, ↓reduceIte, decide_true, Nat.zero_le, and_true, hh]
  · have h' : ((a.length : Int) = (b.length : Int)) = False := eq_false (by omega)
    have hne : a ≠ b := fun e => h (by rw [e])
    simp -implicitDefEqProofs (disch := omega) only [go_sem, ↓reduceIte, reduceCtorEq, Nat.reduceEqDiff, Nat.zero_add, decide_false, Nat.le_refl, proofmarkkit_SameInts, zq8_0, zq8_1, zq8_2, zq8_3, zq8_4, zq8_5, zq8_6, zq8_7, zq8_8, ints_length, not_false_eq_true, false_implies, true_implies, and_true, h', hne]
end Go.Proofs.YtingdebioipemaaDoor
/- Contracts: a place picked; literals that hold each. -/
namespace Go.Proofs.YtingdebioipemaaDoor
open Go Go.Am Go.Cl
set_option maxRecDepth 100000
variable {P : Program} {G : Nat → Option V}
end Go.Proofs.YtingdebioipemaaDoor
/- Contracts: literals let hold. -/
namespace Go.Proofs.YtingdebioipemaaDoor
open Go Go.Am Go.Cl
set_option maxRecDepth 100000
variable {P : Program} {G : Nat → Option V}
theorem namelessL_append : ∀ {l m : List V}, namelessL l = true → namelessL m = true → namelessL (l ++ m) = true
  | [], _, _, h => h
  | v :: l, m, h, k => by
    simp only [namelessL, Bool.and_eq_true, List.cons_append] at h ⊢
    exact ⟨h.1, namelessL_append h.2 k⟩
theorem rows_nameless : ∀ F : List (List Int), namelessL (F.map row) = true
  | [] => rfl
  | c :: F => by have := rows_nameless F; simpa [namelessL, nameless, row] using this
end Go.Proofs.YtingdebioipemaaDoor
/- Plain: clauses in another order, literals turned, a clause twice: the same holds, the same follows. -/
namespace Go.Cl
open Go
def turnAt (F : List (List Int)) (k i : Nat) : List Int := F.getD ((i + k) % F.length) []
def turnOne (F : List (List Int)) (k i : Nat) : List (List Int) := (turnAt F k i).reverse :: if i % 3 = 0 then [turnAt F k i] else []
def turned (F : List (List Int)) (k n : Nat) : List (List Int) := (List.range n).flatMap (turnOne F k)
theorem turned_succ {F : List (List Int)} {k n : Nat} : turned F k (n + 1) = turned F k n ++ turnOne F k n := by
  simp [turned, List.range_succ]
theorem turnOne_len {F : List (List Int)} {k i : Nat} : (turnOne F k i).length ≤ 2 := by
  unfold turnOne; split <;> simp
theorem turned_len {F : List (List Int)} {k : Nat} : ∀ n, (turned F k n).length ≤ 2 * n
  | 0 => by simp [turned]
  | n + 1 => by
    rw [turned_succ, List.length_append]
    have := turned_len (F := F) (k := k) n
    have := turnOne_len (F := F) (k := k) (i := n)
    omega
theorem turnAt_mem {F : List (List Int)} {k i : Nat} (h : 0 < F.length) : turnAt F k i ∈ F := by
  have := Nat.mod_lt (i + k) h
  unfold turnAt
  rw [List.getD_eq_getElem?_getD, List.getElem?_eq_getElem this]
  exact List.getElem_mem this
theorem turnOne_mem {F : List (List Int)} {k i : Nat} {c : List Int} (h : c ∈ turnOne F k i) : c = (turnAt F k i).reverse ∨ c = turnAt F k i := by
  unfold turnOne at h
  split at h
  · simpa using h
  · simp at h; exact .inl h
theorem turned_from {F : List (List Int)} {k : Nat} : ∀ c ∈ turned F k F.length, ∃ d ∈ F, ∀ m, m ∈ d ↔ m ∈ c := fun c h => by
  simp only [turned, List.mem_flatMap, List.mem_range] at h
  obtain ⟨i, hi, h⟩ := h
  refine ⟨turnAt F k i, turnAt_mem (by omega), fun m => ?_⟩
  rcases turnOne_mem h with rfl | rfl <;> simp
theorem turned_all {F : List (List Int)} {k : Nat} : ∀ d ∈ F, ∃ c ∈ turned F k F.length, ∀ m, m ∈ c ↔ m ∈ d := fun d h => by
  obtain ⟨j, hj, rfl⟩ := List.mem_iff_getElem.1 h
  have h0 : 0 < F.length := by omega
  have hk := Nat.mod_lt k h0
  have hi := Nat.mod_lt (j + (F.length - k % F.length)) h0
  refine ⟨(turnAt F k ((j + (F.length - k % F.length)) % F.length)).reverse, ?_, fun m => ?_⟩
  · simp only [turned, List.mem_flatMap, List.mem_range]
    exact ⟨_, hi, by simp [turnOne]⟩
  · have e : ((j + (F.length - k % F.length)) % F.length + k) % F.length = j := by
      rw [Nat.mod_add_mod]
      have h1 : k = k % F.length + F.length * (k / F.length) := (Nat.mod_add_div k F.length).symm
      have h2 : j + (F.length - k % F.length) + k = j + F.length + F.length * (k / F.length) := by omega
      rw [h2, Nat.add_mul_mod_self_left, Nat.add_mod_right, Nat.mod_eq_of_lt hj]
    rw [List.mem_reverse]
    unfold turnAt
    rw [e, List.getD_eq_getElem?_getD, List.getElem?_eq_getElem hj]
    rfl
theorem turned_nz {F : List (List Int)} {k : Nat} (h : Nz F) : Nz (turned F k F.length) := fun c hc n hn => by
  obtain ⟨d, hd, hs⟩ := turned_from c hc
  exact h d hd n ((hs n).2 hn)
theorem turned_units {F : List (List Int)} {k : Nat} (h : Nz F) : units (turned F k F.length) = units F := units_same (turned_nz h) h (fun c hc => turned_from c hc) (fun d hd => turned_all d hd)
theorem turned_every {F : List (List Int)} {k : Nat} {p : List Int → Bool} (hp : ∀ c d : List Int, (∀ m, m ∈ d ↔ m ∈ c) → p c = p d) : (turned F k F.length).all p = F.all p := by
  rw [Bool.eq_iff_iff, List.all_eq_true, List.all_eq_true]
  refine ⟨fun h d hd => ?_, fun h c hc => ?_⟩
  · obtain ⟨c, hc, hs⟩ := turned_all (k := k) d hd
    rw [hp d c hs]; exact h c hc
  · obtain ⟨d, hd, hs⟩ := turned_from c hc
    rw [hp c d hs]; exact h d hd
theorem turned_right {F : List (List Int)} {k : Nat} {v : Int} (h : F.length ≤ 1000) : right v (turned F k F.length) = right v F := by
  have hl := turned_len (F := F) (k := k) F.length
  unfold right
  rw [turned_every fun c d hs => ?_]
  · have : (((turned F k F.length).length : Int) ≤ 1048576) ↔ ((F.length : Int) ≤ 1048576) := by omega
    simp only [this]
  · rw [Bool.eq_iff_iff, List.all_eq_true, List.all_eq_true]
    exact ⟨fun h n hn => h n ((hs n).1 hn), fun h n hn => h n ((hs n).2 hn)⟩
theorem turned_any {F : List (List Int)} {k : Nat} {q : Int → Bool} : (turned F k F.length).all (fun c => c.any q) = F.all fun c => c.any q :=
  turned_every fun c d hs => by
    rw [Bool.eq_iff_iff, List.any_eq_true, List.any_eq_true]
    exact ⟨fun ⟨n, hn, h⟩ => ⟨n, (hs n).2 hn, h⟩, fun ⟨n, hn, h⟩ => ⟨n, (hs n).1 hn, h⟩⟩
end Go.Cl
/- Plain: the stage's theorem of clauses: what is left, what follows, what is put together, in any model. -/
namespace Go.Cl
open Go
def resolveS (a b : List Int) (v : Int) : List Int × Bool :=
  if v ≤ 0 ∨ v ∉ a ∨ -v ∉ b ∨ -v ∈ a ∨ v ∈ b then ([], false) else cleanS ((a ++ b).filter fun n => decide (n ≠ v ∧ n ≠ -v))
end Go.Cl
/- What the program's Assign leaves is the document's. -/
namespace Go.Proofs.YtingdebioipemaaDoor
open Go Go.Am Go.Cl
set_option maxRecDepth 100000
variable {P : Program} {G : Nat → Option V}
end Go.Proofs.YtingdebioipemaaDoor
/- Contracts: is a number in a row? -/
namespace Go.Proofs.YtingdebioipemaaDoor
open Go Go.Am Go.Cl
set_option maxRecDepth 100000
variable {P : Program} {G : Nat → Option V}
abbrev ixJ (t : Nat) (c : List Int) (x : Int) : Nat → Fr → H → Prop := fun m fr σ => ∃ i, i ≤ c.length ∧ m = c.length - i ∧ x ∉ c.take i ∧ fget fr 0 = .lst 1 (ints c) false ∧ fget fr 1 = .int .i64 x ∧ fget fr 7 = .int .i64 c.length ∧ fget fr 8 = .int .i64 ((i : Nat) : Int) ∧ σ = ⟨t, []⟩
abbrev ixE (t : Nat) (c : List Int) (x : Int) : AE → Fr → H → Prop := fun e fr σ => σ = ⟨t, []⟩ ∧ ((e = .ret ∧ x ∈ c ∧ ∃ i : Nat, fget fr 4 = .int .i64 i) ∨ (e = .ex 0 ∧ x ∉ c))
theorem c_Index (hT : TabOk P tab) (c : List Int) (x : Int) (hl : c.length ≤ 1000000) :
    Pure P G n_slices_Index_int_int [row c, .int .i64 x] fun u => ∃ i : Int, u = .int .i64 i ∧ (0 ≤ i ↔ x ∈ c) := by
  intro t
  simp only [row]
  refine C_keep 0 (Nat.zero_le _) (C_tab hT t_slices_Index_int_int (by simp [slices_Index_int_int]) (W_run 1000 ?_))
  simp -implicitDefEqProofs (disch := omega) only [go_sem, ↓reduceIte, reduceCtorEq, Nat.reduceEqDiff, Nat.zero_add, slices_Index_int_int, zq1n_0, zq1n_1, zq1n_2, zq1n_3, zq1n_4, zq1n_5, zq1n_6, zq1n_7, ints_length]
  refine sem_invE (ixJ t c x) (ixE t c x) (m0 := c.length) ⟨0, by omega, rfl, by simp, ?_⟩ (fun m fr σ hJ => ?_) (fun e fr σ hE => ?_)
  · simp -implicitDefEqProofs (disch := omega) only [go_sem, ↓reduceIte, reduceCtorEq, Nat.reduceEqDiff, true_and, and_true]
    rfl
  · obtain ⟨i, hi, rfl, hno, f0, f1, f7, f8, rfl⟩ := hJ
    rcases Nat.lt_or_ge i c.length with hlt | hge
    · obtain ⟨n, hni⟩ : ∃ n, c[i]? = some n := ⟨_, List.getElem?_eq_getElem hlt⟩
      have hD := ints_getD hni
      have e2 := wnext hlt (by omega)
      by_cases hx : x = n
      · subst hx
        have hm := List.mem_of_getElem? hni
        have hb : (x == x) = true := by simp
        refine W_round [(0, .lst 1 (ints c) false), (1, .int .i64 x), (7, .int .i64 c.length), (8, .int .i64 ((i : Nat) : Int))] ⟨f0, f1, f7, f8, trivial⟩  1000 ?_
        simp -implicitDefEqProofs (disch := omega) only [go_sem, need_of, ↓reduceIte, reduceCtorEq, Nat.reduceEqDiff, Nat.zero_add, decide_true, Nat.le_refl, beq_self_eq_true, ints_length, true_implies, and_true, hlt, hD]
        exact ⟨rfl, .inl ⟨rfl, hm, i, rfl⟩⟩
      · have hb : (x == n) = false := by simpa using hx
        refine W_round [(0, .lst 1 (ints c) false), (1, .int .i64 x), (7, .int .i64 c.length), (8, .int .i64 ((i : Nat) : Int))] ⟨f0, f1, f7, f8, trivial⟩  1000 ?_
        simp -implicitDefEqProofs (disch := omega) only [go_sem, need_of, ↓reduceIte, reduceCtorEq, Nat.reduceEqDiff, Nat.zero_add, decide_true, Nat.le_refl, ints_length, true_implies, and_true, hlt, hD, hb]
        refine ⟨c.length - (i + 1), _, _, by omega, Shift.refl _ _ _ _, i + 1, by omega, rfl, ?_, ?_⟩
        · rw [take_snoc hni, List.mem_append]; simp [hno, hx]
        · simp -implicitDefEqProofs (disch := omega) only [go_sem, ↓reduceIte, reduceCtorEq, Nat.reduceEqDiff, and_true, e2]
    · have hi : i = c.length := by omega
      rw [hi, List.take_length] at hno
      refine W_round [(0, .lst 1 (ints c) false), (1, .int .i64 x), (7, .int .i64 c.length), (8, .int .i64 ((i : Nat) : Int))] ⟨f0, f1, f7, f8, trivial⟩  1000 ?_
      simp -implicitDefEqProofs (disch := omega) only [go_sem, ↓reduceIte, reduceCtorEq, Nat.reduceEqDiff, decide_false, hi, Nat.lt_irrefl]
      exact ⟨rfl, .inr ⟨rfl, hno⟩⟩
  · obtain ⟨rfl, ⟨rfl, hm, i, f4⟩ | ⟨rfl, hm⟩⟩ := hE
    · refine run_sem 1000 ?_
      simp -implicitDefEqProofs (disch := omega) only [go_sem, Nat.le_refl, true_and, f4]
      exact ⟨_, rfl, by simp [hm]⟩
    · refine run_sem 1000 ?_
      simp -implicitDefEqProofs (disch := omega) only [go_sem, ↓reduceIte, Nat.le_refl, true_and]
      exact ⟨_, rfl, by simp [hm]⟩
theorem c_Contains (hT : TabOk P tab) (c : List Int) (x : Int) (hl : c.length ≤ 1000000) :
    Pure P G n_slices_Contains_int_int [row c, .int .i64 x] fun u => u = .bool (decide (x ∈ c)) := by
  intro t
  have hI := c_Index (P := P) (G := G) hT c x hl
  simp only [row] at hI ⊢
  refine C_keep 0 (Nat.zero_le _) (C_tab hT t_slices_Contains_int_int (by simp [slices_Contains_int_int]) (W_run 1000 ?_))
  simp -implicitDefEqProofs (disch := omega) only [go_sem, ↓reduceIte, reduceCtorEq, Nat.reduceEqDiff, Nat.zero_add, slices_Contains_int_int, zq15_0, zq15_1]
  refine callP hT t_slices_Index_int_int hI (by simp [namelessL, nameless]) 1000 fun u hu => ?_
  obtain ⟨i, rfl, hi⟩ := hu
  by_cases hx : x ∈ c
  · have h0 : (0 ≤ i) = True := eq_true (hi.2 hx)
    simp -implicitDefEqProofs (disch := omega) only [go_sem, ↓reduceIte, reduceCtorEq, Nat.reduceEqDiff, decide_true, Nat.le_refl, ge_iff_le, h0, hx]
  · have h0 : (0 ≤ i) = False := eq_false fun k => hx (hi.1 k)
    simp -implicitDefEqProofs (disch := omega) only [go_sem, ↓reduceIte, reduceCtorEq, Nat.reduceEqDiff, decide_false, Nat.le_refl, ge_iff_le, h0, hx]
end Go.Proofs.YtingdebioipemaaDoor
