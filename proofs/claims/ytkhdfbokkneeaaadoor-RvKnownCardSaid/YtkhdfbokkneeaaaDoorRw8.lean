/- Which row a word is of: walked. -/
import Derived.Test.YtkhdfbokkneeaaaDoorRw5
import Derived.Test.YtkhdfbokkneeaaaDoorAmD
namespace Go.Proofs.YtkhdfbokkneeaaaDoor
open Go Go.Am Go.Rv
set_option maxRecDepth 100000
variable {P : Program} {G : Nat → Option V}

def hD (tb : List V) (b v1 v2 : Nat) (w : Int) : List (Option Ob) := [some (.arr b 22 [.int .u32 w]), some (.arr v1 24 [.int .u8 0, .int .u8 0, .int .u8 0, .int .u8 0, .int .i64 0]), some (.arr v2 49 tb)]

theorem c_S1 (hT : TabOk P tab) {tb : List V} {base b v1 v2 t : Nat} (w : Int) (a0 a1 a2 a5 q : Bool) (y : Nat) (L : List V) (a4 : Int) (a7 : List UInt8) (m k : Int) (hb : base ≤ 3) :
    C P G base n_rv_Decode_S1 [.agg [.bool a0, .bool a1, .bool a2, .lst y L q, .int .i64 a4, .bool a5, .int .u32 m, .str a7, .int .u32 k], .ptr 0 b 0] ⟨t, hD tb b v1 v2 w⟩ fun v σ => v = .bool (decide (m ≠ 0) && (andI .u32 w m == k)) ∧ ∃ t', t ≤ t' ∧ σ = ⟨t', hD tb b v1 v2 w⟩ := by
  refine C_keep 3 hb (C_tab hT t_rv_Decode_S1 (by simp [rv_Decode_S1]) (W_run 12 ?_))
  cases hm : (m != 0) with
  | true =>
    simp -implicitDefEqProofs (disch := omega) only [go_sem, ↓reduceIte, reduceCtorEq, Nat.reduceAdd, Nat.reduceEqDiff, Nat.reduceLeDiff, Nat.zero_add, Nat.add_zero, rv_Decode_S1, rv_Decode_S1_r0, rv_Decode_S1_r1, hD, hm]
    refine run_sem 2 ?_
    simp -implicitDefEqProofs (disch := omega) only [go_sem, ↓reduceIte, reduceCtorEq, Nat.reduceAdd, Nat.reduceEqDiff, Nat.zero_add, Nat.add_zero, Nat.le_refl]
    refine run_sem 2 ?_
    simp -implicitDefEqProofs (disch := omega) only [go_sem, ↓reduceIte, reduceCtorEq, Nat.reduceAdd, Nat.reduceEqDiff, Nat.reduceLeDiff, Nat.zero_add]
    refine run_sem 2 ?_
    simp -implicitDefEqProofs (disch := omega) only [go_sem, ↓reduceIte, reduceCtorEq, Nat.reduceAdd, Nat.reduceEqDiff, Nat.zero_add]
    refine run_sem 2 ?_
    simp -implicitDefEqProofs (disch := omega) only [go_sem, ↓reduceIte, reduceCtorEq, Nat.reduceAdd, Nat.reduceEqDiff, Nat.zero_add, Nat.le_refl]
    refine run_sem 2 ?_
    simp -implicitDefEqProofs (disch := omega) only [go_sem, ↓reduceIte, reduceCtorEq, Nat.reduceEqDiff]
    refine run_sem 1000 ?_
    simp -implicitDefEqProofs (disch := omega) only [go_sem, ↓reduceIte, reduceCtorEq, Nat.reduceAdd, Nat.reduceEqDiff, Nat.reduceLeDiff, Nat.zero_add]
    refine ⟨?_, _, ?_, rfl⟩
    · have : m ≠ 0 := by simpa using hm
      simp only [this, not_false_eq_true, decide_true, Bool.true_and]
    · omega
  | false =>
    simp -implicitDefEqProofs (disch := omega) only [go_sem, ↓reduceIte, reduceCtorEq, Nat.reduceAdd, Nat.reduceEqDiff, Nat.reduceLeDiff, Nat.zero_add, Nat.add_zero, rv_Decode_S1, rv_Decode_S1_r0, rv_Decode_S1_r1, hD, hm]
    refine run_sem 2 ?_
    simp -implicitDefEqProofs (disch := omega) only [go_sem, ↓reduceIte, reduceCtorEq, Nat.reduceEqDiff]
    refine run_sem 2 ?_
    simp -implicitDefEqProofs (disch := omega) only [go_sem, ↓reduceIte, reduceCtorEq, Nat.reduceEqDiff]
    refine run_sem 2 ?_
    simp -implicitDefEqProofs (disch := omega) only [go_sem, ↓reduceIte, reduceCtorEq, Nat.reduceEqDiff]
    refine run_sem 2 ?_
    simp -implicitDefEqProofs (disch := omega) only [go_sem, ↓reduceIte, reduceCtorEq, Nat.reduceEqDiff]
    refine run_sem 2 ?_
    simp -implicitDefEqProofs (disch := omega) only [go_sem, ↓reduceIte, reduceCtorEq, Nat.reduceEqDiff]
    refine run_sem 1000 ?_
    simp -implicitDefEqProofs (disch := omega) only [go_sem, ↓reduceIte, reduceCtorEq, Nat.reduceAdd, Nat.reduceEqDiff, Nat.reduceLeDiff, Nat.zero_add]
    refine ⟨?_, _, ?_, rfl⟩
    · have : m = 0 := by simpa using hm
      simp only [this, not_true_eq_false, decide_false, Bool.false_and]
    · omega

/-- What of the table is asked. -/
structure TbOk (tb : List V) : Prop where
  len : tb.length = 594
  get : ∀ k, k < 66 → (tb.drop (k * 9)).take 9 = if k = 0 then zeroC else rowC (T.getD (k - 1) ⟨0, [], 0, 0, 0⟩)
  ones : ones tb
theorem tbOk : TbOk tabC := ⟨tabC_len, fun k hk => tabC_get ⟨k, hk⟩, tabC_ones⟩

/-- Which row: its place, from 1 on. -/
def hitP (w j : Int) : Prop := (j = -1 ∧ first w 0 T = none) ∨ ∃ k r, j = ((k + 1 : Nat) : Int) ∧ T[k]? = some r ∧ is w r = true ∧ first w 0 T = some (mk k r w)

theorem row_hit {w : Int} (h0 : 0 ≤ w) (h1 : w < 4294967296) {i : Nat} (h : 1 ≤ i) (hi : i < 66) {r : RR} (hr : T[i - 1]? = some r) : (decide (maskOf r.form ≠ 0) && (andI .u32 w (maskOf r.form) == matchOf r)) = is w r := by
  have hg := T_good r (List.mem_of_getElem? hr)
  have hm : maskOf r.form ≠ 0 := by
    unfold maskOf
    split
    · decide
    split
    · decide
    split
    · decide
    split <;> decide
  have := mask_is hg h0 h1
  rw [decide_eq_true hm, Bool.true_and]
  rw [Bool.eq_iff_iff, beq_iff_eq]
  exact this

theorem c_IndexFunc (hT : TabOk P tab) {tb : List V} (htb : TbOk tb) {base b v1 v2 t : Nat} (w : Int) (h0 : 0 ≤ w) (h1 : w < 4294967296) (lim : Option Nat) (hb : base ≤ 3) :
    C P G base n_slices_IndexFunc_rv_row_rv_row [.sl 2 v2 0 9 66 lim, .fn (.func 18) [] [.ptr 0 b 0]] ⟨t, hD tb b v1 v2 w⟩ fun v σ => ∃ j, v = .int .i64 j ∧ hitP w j ∧ ∃ t', t ≤ t' ∧ σ = ⟨t', hD tb b v1 v2 w⟩ := by
  have hl := htb.len
  refine C_tab hT t_slices_IndexFunc_rv_row_rv_row (by simp [slices_IndexFunc_rv_row_rv_row]) (W_run 1000 ?_)
  simp -implicitDefEqProofs (disch := omega) only [go_sem, ↓reduceIte, reduceCtorEq, Nat.reduceEqDiff, Nat.zero_add, slices_IndexFunc_rv_row_rv_row, slices_IndexFunc_rv_row_rv_row_r0, slices_IndexFunc_rv_row_rv_row_r1, slices_IndexFunc_rv_row_rv_row_r2, slices_IndexFunc_rv_row_rv_row_r3, slices_IndexFunc_rv_row_rv_row_r4, slices_IndexFunc_rv_row_rv_row_r5, slices_IndexFunc_rv_row_rv_row_r6, slices_IndexFunc_rv_row_rv_row_r7, hD]
  refine sem_invE (fun n fr σ => ∃ i t', i ≤ 66 ∧ n = 66 - i ∧ (∀ j r, j + 1 < i → T[j]? = some r → is w r = false) ∧ t ≤ t' ∧ fget fr 0 = .sl 2 v2 0 9 66 lim ∧ fget fr 1 = .fn (.func 18) [] [.ptr 0 b 0] ∧ fget fr 7 = .int .i64 ((66 : Nat) : Int) ∧ fget fr 8 = .int .i64 i ∧ σ = ⟨t', hD tb b v1 v2 w⟩)
    (fun e fr σ => ∃ t', t ≤ t' ∧ σ = ⟨t', hD tb b v1 v2 w⟩ ∧ ((e = .ret ∧ ∃ j, fget fr 4 = .int .i64 j ∧ hitP w j) ∨ (e = .ex 0 ∧ first w 0 T = none)))
    (m0 := 66) ⟨0, t, by omega, rfl, fun j r h => by omega, by omega, ?_⟩ (fun n fr σ hJ => ?_) (fun e fr σ hE => ?_)
  · simp -implicitDefEqProofs (disch := omega) only [go_sem, ↓reduceIte, reduceCtorEq, Nat.reduceEqDiff, hD]
    rfl
  · obtain ⟨i, t', hi, rfl, hno, ht, f0, f1, f7, f8, rfl⟩ := hJ
    refine W_run 1000 ?_
    rcases Nat.lt_or_ge i 66 with hlt | hge
    · have hg := htb.get i hlt
      have e2 := wrap_next hlt (by omega)
      simp -implicitDefEqProofs (disch := omega) only [go_sem, need_of, ↓reduceIte, reduceCtorEq, Nat.reduceEqDiff, Nat.succ_ne_zero, Nat.zero_add, decide_true, hD, f0, f1, f7, f8, hlt]
      rw [hg]
      rcases Nat.eq_zero_or_pos i with hz | hp
      · subst hz
        rw [if_pos rfl, zeroC]
        have hc := c_S1 (P := P) (G := G) hT (tb := tb) (base := base) (b := b) (v1 := v1) (v2 := v2) (t := t') w false false false false true 0 [] 0 [] 0 0 hb
        simp only [hD] at hc
        refine callK hT t_rv_Decode_S1 hc 1000 fun v σ hv => ?_
        obtain ⟨rfl, t2, ht2, rfl⟩ := hv
        simp -implicitDefEqProofs (disch := omega) only [go_sem, ↓reduceIte, Nat.reduceEqDiff, Nat.reduceSub, Nat.zero_mul, decide_false, f8]
        refine ⟨66 - (0 + 1), _, _, by omega, Shift.refl _ _ _ _, 0 + 1, t2, by omega, rfl, fun j r h => by omega, by omega, ?_⟩
        simp -implicitDefEqProofs (disch := omega) only [go_sem, ↓reduceIte, reduceCtorEq, Nat.reduceEqDiff, Nat.succ_ne_zero, Nat.zero_add, f0, f1, f7]
        rfl
      · obtain ⟨r, hr⟩ : ∃ r, T[i - 1]? = some r := ⟨_, List.getElem?_eq_getElem (by rw [T_len]; omega)⟩
        obtain ⟨y, hy, _⟩ := bitsV_len (bitsOf r.form)
        have hgd : T.getD (i - 1) ⟨0, [], 0, 0, 0⟩ = r := by rw [List.getD_eq_getElem?_getD, hr]; rfl
        rw [if_neg (by omega), hgd]
        simp only [rowC, formC, hy, List.cons_append, List.nil_append]
        have hc := c_S1 (P := P) (G := G) hT (tb := tb) (base := base) (b := b) (v1 := v1) (v2 := v2) (t := t') w (hasRd r.form) (hasR1 r.form) (hasR2 r.form) (isSgn r.form) true y ((bitsOf r.form).map fun b => pr b.1 b.2) (nghts r.form) r.name (maskOf r.form) (matchOf r) hb
        rw [row_hit h0 h1 hp hlt hr] at hc
        simp only [hD] at hc
        refine callK hT t_rv_Decode_S1 hc 1000 fun v σ hv => ?_
        obtain ⟨rfl, t2, ht2, rfl⟩ := hv
        cases his : is w r with
        | true =>
          simp -implicitDefEqProofs (disch := omega) only [go_sem, ↓reduceIte, reduceCtorEq, Nat.reduceEqDiff]
          refine ⟨t2, by omega, rfl, i, rfl, .inr ⟨i - 1, r, by congr 1; omega, hr, his, ?_⟩⟩
          have := first_of h0 h1 (i := 0) T_good T_apart hr his
          rwa [Nat.zero_add] at this
        | false =>
          simp -implicitDefEqProofs (disch := omega) only [go_sem, ↓reduceIte, Nat.reduceEqDiff, f8]
          refine ⟨66 - (i + 1), _, _, by omega, Shift.refl _ _ _ _, i + 1, t2, by omega, rfl, fun j s hj hs => ?_, by omega, ?_⟩
          · by_cases hji : j = i - 1
            · subst hji; rw [hr] at hs; cases hs; exact his
            · exact hno j s (by omega) hs
          · simp -implicitDefEqProofs (disch := omega) only [go_sem, ↓reduceIte, reduceCtorEq, Nat.reduceEqDiff, Nat.succ_ne_zero, f0, f1, f7, e2]
    · have hi : i = 66 := by omega
      subst hi
      simp -implicitDefEqProofs (disch := omega) only [go_sem, ↓reduceIte, reduceCtorEq, Nat.reduceEqDiff, Nat.reduceSub, decide_false, f7, f8, Nat.lt_irrefl]
      refine ⟨t', by omega, rfl, first_none fun r hr => ?_⟩
      obtain ⟨j, hj⟩ := List.mem_iff_getElem?.1 hr
      have hjl := (List.getElem?_eq_some_iff.1 hj).1
      rw [T_len] at hjl
      exact hno j r (by omega) hj
  · obtain ⟨t', ht, rfl, hE⟩ := hE
    rcases hE with ⟨rfl, j, f4, hh⟩ | ⟨rfl, hh⟩
    · refine run_sem 1000 ?_
      simp -implicitDefEqProofs (disch := omega) only [go_sem, f4]
      exact ⟨j, rfl, hh, t', ht, rfl, rfl⟩
    · refine run_sem 1000 ?_
      simp -implicitDefEqProofs (disch := omega) only [go_sem, ↓reduceIte]
      exact ⟨-1, rfl, .inl ⟨rfl, hh⟩, t', ht, rfl, rfl⟩
end Go.Proofs.YtkhdfbokkneeaaaDoor
