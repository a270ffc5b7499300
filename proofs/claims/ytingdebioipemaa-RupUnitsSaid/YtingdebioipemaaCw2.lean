/- Contracts: rows gone through by functions handed over. -/
import Derived.Test.YtingdebioipemaaCw1
namespace Go.Proofs.Ytingdebioipemaa
open Go Go.Am Go.Cl
set_option maxRecDepth 100000
variable {P : Program} {G : Nat → Option V}

/-- A function handed over tells a truth of numbers, and only reads. -/
def Tells (P : Program) (G : Nat → Option V) (base : Nat) (f : V) (o : List (Option Ob)) (p : Int → Bool) (c : List Int) : Prop :=
  ∀ t n, n ∈ c → CV P G base f [.int .i64 n] ⟨t, o⟩ fun v σ => v = .bool (p n) ∧ ∃ t', t ≤ t' ∧ σ = ⟨t', o⟩

/-- The first place of which it is true; -1: none. -/
def fstIdx (p : Int → Bool) : List Int → Nat → Int
  | [], _ => -1
  | n :: c, i => if p n then i else fstIdx p c (i + 1)
theorem fstIdx_neg {p : Int → Bool} : ∀ {c : List Int} {i : Nat}, (∀ n ∈ c, p n = false) → fstIdx p c i = -1
  | [], _, _ => rfl
  | n :: c, i, h => by rw [fstIdx, h n (by simp), if_neg (by simp), fstIdx_neg fun m hm => h m (by simp [hm])]
theorem fstIdx_at {p : Int → Bool} : ∀ {c : List Int} {i k : Nat} {n : Int}, (∀ m ∈ c.take k, p m = false) → c[k]? = some n → p n = true → fstIdx p c i = ((i + k : Nat) : Int)
  | [], _, _, _, _, h, _ => by simp at h
  | m :: c, i, 0, n, _, h, hp => by simp at h; subst h; simp [fstIdx, hp]
  | m :: c, i, k + 1, n, h, hk, hp => by
    rw [fstIdx, h m (by simp), if_neg (by simp), fstIdx_at (k := k) (fun m hm => h m (by simp [hm])) (by simpa using hk) hp]
    congr 1; omega
theorem fstIdx_any {p : Int → Bool} : ∀ {c : List Int} {i : Nat}, decide (0 ≤ fstIdx p c i) = c.any p
  | [], _ => by simp [fstIdx]
  | n :: c, i => by
    unfold fstIdx
    cases h : p n
    · simp [h, fstIdx_any (c := c)]
    · simp [h]

theorem take_snoc {α : Type} {l : List α} {k : Nat} {x : α} (h : l[k]? = some x) : l.take (k + 1) = l.take k ++ [x] := by rw [List.take_add_one, h]; rfl

theorem c_IndexFunc (hT : TabOk P tab) {base t : Nat} {o : List (Option Ob)} {f : V} {p : Int → Bool} {c : List Int} (hp : Tells P G base f o p c) (hl : c.length ≤ 9223372036854775807) :
    C P G base n_slices_IndexFunc_int_int [.lst 1 (ints c) false, f] ⟨t, o⟩ fun v σ => v = .int .i64 (fstIdx p c 0) ∧ ∃ t', t ≤ t' ∧ σ = ⟨t', o⟩ := by
  refine C_tab hT t_slices_IndexFunc_int_int (by simp [slices_IndexFunc_int_int]) (W_run 1000 ?_)
  simp -implicitDefEqProofs (disch := omega) only [go_sem, ↓reduceIte, reduceCtorEq, Nat.reduceEqDiff, Nat.zero_add, slices_IndexFunc_int_int, slices_IndexFunc_int_int_r0, slices_IndexFunc_int_int_r1, slices_IndexFunc_int_int_r2, slices_IndexFunc_int_int_r3, slices_IndexFunc_int_int_r4, slices_IndexFunc_int_int_r5, slices_IndexFunc_int_int_r6, slices_IndexFunc_int_int_r7, ints_length]
  refine sem_invE (fun m fr σ => ∃ i t', i ≤ c.length ∧ m = c.length - i ∧ (∀ n ∈ c.take i, p n = false) ∧ t ≤ t' ∧ fget fr 0 = .lst 1 (ints c) false ∧ fget fr 1 = f ∧ fget fr 7 = .int .i64 c.length ∧ fget fr 8 = .int .i64 i ∧ σ = ⟨t', o⟩)
    (fun e fr σ => ∃ t', t ≤ t' ∧ σ = ⟨t', o⟩ ∧ ((e = .ret ∧ fget fr 4 = .int .i64 (fstIdx p c 0)) ∨ (e = .ex 0 ∧ fstIdx p c 0 = -1)))
    (m0 := c.length) ⟨0, t, by omega, rfl, by simp, by omega, ?_⟩ (fun m fr σ hJ => ?_) (fun e fr σ hE => ?_)
  · simp -implicitDefEqProofs (disch := omega) only [go_sem, ↓reduceIte, reduceCtorEq, Nat.reduceEqDiff]
    simp
  · obtain ⟨i, t', hi, rfl, hno, ht, f0, f1, f7, f8, rfl⟩ := hJ
    refine W_run 1000 ?_
    rcases Nat.lt_or_ge i c.length with hlt | hge
    · obtain ⟨n, hni⟩ : ∃ n, c[i]? = some n := ⟨_, List.getElem?_eq_getElem hlt⟩
      have hD := ints_getD hni
      have e2 := wnext hlt hl
      simp -implicitDefEqProofs (disch := omega) only [go_sem, need_of, ↓reduceIte, reduceCtorEq, Nat.reduceEqDiff, Nat.succ_ne_zero, Nat.zero_add, decide_true, Nat.le_refl, ints_length, f0, f1, f7, f8, hlt, hD]
      refine CV.use 1000 (hp t' n (List.mem_of_getElem? hni)) fun v σ hv => ?_
      obtain ⟨rfl, t2, ht2, rfl⟩ := hv
      cases hpn : p n with
      | true =>
        simp -implicitDefEqProofs (disch := omega) only [go_sem, ↓reduceIte, reduceCtorEq, Nat.reduceEqDiff]
        rw [fstIdx_at hno hni hpn]
        exact ⟨t2, by omega, rfl, by simp⟩
      | false =>
        simp -implicitDefEqProofs (disch := omega) only [go_sem, ↓reduceIte, Nat.reduceEqDiff, f8]
        refine ⟨c.length - (i + 1), _, _, by omega, Shift.refl _ _ _ _, i + 1, t2, by omega, rfl, fun m hm => ?_, by omega, ?_⟩
        · rw [take_snoc hni] at hm
          simp at hm
          rcases hm with hm | rfl
          · exact hno m hm
          · exact hpn
        · simp -implicitDefEqProofs (disch := omega) only [go_sem, ↓reduceIte, reduceCtorEq, Nat.reduceEqDiff, Nat.succ_ne_zero, f0, f1, f7, e2]
    · have hi : i = c.length := by omega
      subst hi
      simp -implicitDefEqProofs (disch := omega) only [go_sem, ↓reduceIte, reduceCtorEq, Nat.reduceEqDiff, decide_false, f7, f8, Nat.lt_irrefl]
      rw [List.take_length] at hno
      exact ⟨t', ht, rfl, fstIdx_neg hno⟩
  · obtain ⟨t', ht, rfl, hE⟩ := hE
    rcases hE with ⟨rfl, f4⟩ | ⟨rfl, hh⟩
    · refine run_sem 1000 ?_
      simp -implicitDefEqProofs (disch := omega) only [go_sem, f4]
      exact ⟨t', ht, rfl⟩
    · refine run_sem 1000 ?_
      simp -implicitDefEqProofs (disch := omega) only [go_sem, ↓reduceIte, hh]
      exact ⟨t', ht, rfl⟩

theorem c_ContainsFunc (hT : TabOk P tab) {base t : Nat} {o : List (Option Ob)} {f : V} {p : Int → Bool} {c : List Int} (hp : Tells P G base f o p c) (hl : c.length ≤ 9223372036854775807) :
    C P G base n_slices_ContainsFunc_int_int [.lst 1 (ints c) false, f] ⟨t, o⟩ fun v σ => v = .bool (c.any p) ∧ ∃ t', t ≤ t' ∧ σ = ⟨t', o⟩ := by
  refine C_tab hT t_slices_ContainsFunc_int_int (by simp [slices_ContainsFunc_int_int]) (W_run 1000 ?_)
  simp -implicitDefEqProofs (disch := omega) only [go_sem, ↓reduceIte, reduceCtorEq, Nat.reduceEqDiff, Nat.zero_add, slices_ContainsFunc_int_int, slices_ContainsFunc_int_int_r0, slices_ContainsFunc_int_int_r1]
  refine call hT t_slices_IndexFunc_int_int (c_IndexFunc hT hp hl) 1000 fun v σ hv => ?_
  obtain ⟨rfl, t', ht, rfl⟩ := hv
  simp -implicitDefEqProofs (disch := omega) only [go_sem, ↓reduceIte, reduceCtorEq, Nat.reduceEqDiff, ge_iff_le]
  rw [fstIdx_any]
  exact ⟨rfl, t', ht, rfl⟩

theorem c_some (hT : TabOk P tab) {base t : Nat} {o : List (Option Ob)} {f : V} {p : Int → Bool} {c : List Int} (hp : Tells P G base f o p c) (hl : c.length ≤ 9223372036854775807) :
    C P G base n_clause_some_int [.lst 1 (ints c) false, f] ⟨t, o⟩ fun v σ => v = .bool (c.any p) ∧ ∃ t', t ≤ t' ∧ σ = ⟨t', o⟩ := by
  refine C_tab hT t_clause_some_int (by simp [clause_some_int]) (W_run 1000 ?_)
  simp -implicitDefEqProofs (disch := omega) only [go_sem, ↓reduceIte, reduceCtorEq, Nat.reduceEqDiff, Nat.zero_add, clause_some_int, clause_some_int_r0, clause_some_int_r1]
  refine call hT t_slices_ContainsFunc_int_int (c_ContainsFunc hT hp hl) 1000 fun v σ hv => ?_
  obtain ⟨rfl, t', ht, rfl⟩ := hv
  simp -implicitDefEqProofs (disch := omega) only [go_sem, ↓reduceIte, reduceCtorEq, Nat.reduceEqDiff]
  exact ⟨t', ht, rfl⟩
end Go.Proofs.Ytingdebioipemaa
