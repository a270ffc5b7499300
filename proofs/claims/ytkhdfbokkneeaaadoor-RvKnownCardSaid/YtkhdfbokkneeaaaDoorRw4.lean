/- What has room; parts put together; an instruction's row: walked. -/
import Derived.Test.YtkhdfbokkneeaaaDoorRw3
namespace Go.Proofs.YtkhdfbokkneeaaaDoor
open Go Go.Am Go.Rv
set_option maxRecDepth 100000
variable {P : Program} {G : Nat → Option V}

theorem c_fits (hT : TabOk P tab) (a b c : Bool) (l : List (Nat × Nat)) (z : Nat) (sg : Bool) (m n : Int) (hl : l.length ≤ 4) (hb : ∀ p ∈ l, p.1 ≤ 31 ∧ p.2 ≤ 30) (hz : z ≤ 30) (hwd : widthP l z ≤ 60) (hn : i64 n) :
    Pure P G n_rv_form_fits [.agg (frm a b c l z sg m), .int .i64 n] fun v => v = .bool (if sg then decide (n ≥ (0 - (2 : Int) ^ widthP l z).tdiv 2 ∧ n < ((2 : Int) ^ widthP l z).tdiv 2 ∧ n % 2 ^ z = 0) else decide (n ≥ 0 ∧ n < (2 : Int) ^ widthP l z ∧ n % 2 ^ z = 0)) := by
  intro t
  obtain ⟨y, hy, hyl⟩ := bitsV_len l
  have cw := c_width (G := G) hT a b c l z sg m hl (fun p hp => (hb p hp).2) hz
  simp only [frm, hy] at cw
  obtain ⟨g1, g2⟩ := pow_lt (widthP l z) 60 hwd
  obtain ⟨y1, y2⟩ := pow_lt z 30 hz
  have e1 : min (widthP l z) 64 = widthP l z := by omega
  have e2 : min z 64 = z := by omega
  have e3 : IntKind.i64.wrap (1 * 2 ^ widthP l z) = 2 ^ widthP l z := by rw [Int.one_mul]; exact wrap_i64 (by omega) (by omega)
  have e4 : IntKind.i64.wrap (0 - 2 ^ widthP l z) = 0 - 2 ^ widthP l z := wrap_i64 (by omega) (by omega)
  have d1 : ((2 : Int) ^ widthP l z).tdiv 2 = 2 ^ widthP l z / 2 := Int.tdiv_eq_ediv_of_nonneg (by omega)
  have d2 : (0 - (2 : Int) ^ widthP l z).tdiv 2 = -(2 ^ widthP l z / 2) := by rw [Int.zero_sub, Int.neg_tdiv, d1]
  have e5 : IntKind.i64.wrap ((0 - 2 ^ widthP l z : Int).tdiv 2) = (0 - 2 ^ widthP l z : Int).tdiv 2 := wrap_i64 (by omega) (by omega)
  have e6 : IntKind.i64.wrap ((2 ^ widthP l z : Int).tdiv 2) = (2 ^ widthP l z : Int).tdiv 2 := wrap_i64 (by omega) (by omega)
  have e7 : IntKind.i64.wrap (1 * 2 ^ z) = 2 ^ z := by rw [Int.one_mul]; exact wrap_i64 (by omega) (by omega)
  have e8 : IntKind.i64.wrap ((2 : Int) ^ z - 1) = 2 ^ z - 1 := wrap_i64 (by omega) (by omega)
  have e9 : IntKind.i64.wrap (BitVec.ofInt 64 n &&& BitVec.ofInt 64 ((2 : Int) ^ z - 1)).toNat = n % 2 ^ z := and_low .i64 z _ _ rfl (by simp [IntKind.bits]; omega)
  refine C_keep 0 (Nat.zero_le _) (C_tab hT t_rv_form_fits (by simp [rv_form_fits]) (W_run 1000 ?_))
  simp -implicitDefEqProofs (disch := omega) only [go_sem, ↓reduceIte, reduceCtorEq, Nat.reduceAdd, Nat.reduceEqDiff, Nat.zero_add, Nat.le_refl, ge_iff_le, rv_form_fits, rv_form_fits_r0, rv_form_fits_r1, rv_form_fits_r2, rv_form_fits_r3, rv_form_fits_r4, frm, hy]
  refine callP hT t_rv_form_width cw rfl 1000 fun v hv => ?_
  subst hv
  cases sg with
  | false =>
    simp -implicitDefEqProofs (disch := omega) only [go_sem, need_of, ↓reduceIte, reduceCtorEq, Nat.reduceAdd, Nat.reduceEqDiff, Nat.reduceLeDiff, Nat.zero_add, Nat.zero_le, ge_iff_le, e1, e2, e3, e7, e8]
    have e9' := e9
    refine ⟨fun h1 => ⟨fun h2 => ?_, fun h2 => ?_⟩, fun h1 => ?_⟩
    · have : V.bool (n % 2 ^ z == 0) = V.bool (decide (0 ≤ n ∧ n < 2 ^ widthP l z ∧ n % 2 ^ z = 0)) := by simp [h1, h2]; rfl
      rw [← this]
      exact congrArg (fun x : Int => V.bool (x == 0)) e9
    · simp [h2]
    · simp [h1]
  | true =>
    simp -implicitDefEqProofs (disch := omega) only [go_sem, need_of, ↓reduceIte, reduceCtorEq, Nat.reduceAdd, Nat.reduceEqDiff, Nat.reduceLeDiff, Int.reduceEq, Nat.zero_add, Nat.zero_le, ge_iff_le, e1, e2, e3, e4, e5, e6, e7, e8]
    refine ⟨fun h1 => ⟨fun h2 => ?_, fun h2 => ?_⟩, fun h1 => ?_⟩
    · have : V.bool (n % 2 ^ z == 0) = V.bool (decide ((0 - (2 : Int) ^ widthP l z).tdiv 2 ≤ n ∧ n < ((2 : Int) ^ widthP l z).tdiv 2 ∧ n % 2 ^ z = 0)) := by simp only [h1, h2, true_and]; rfl
      rw [← this]
      exact congrArg (fun x : Int => V.bool (x == 0)) e9
    · simp only [h2, false_and, and_false, decide_false]
    · simp only [h1, false_and, decide_false]

theorem c_together (hT : TabOk P tab) (l : List Int) (q : Bool) (hl : l.length ≤ 100) : Pure P G n_rv_together [.lst 1 (l.map (V.int .u32)) q] fun v => v = .int .u32 (orP l) := by
  intro t
  refine C_keep 0 (Nat.zero_le _) (C_tab hT t_rv_together (by simp [rv_together]) (W_run 1000 ?_))
  simp -implicitDefEqProofs (disch := omega) only [go_sem, ↓reduceIte, reduceCtorEq, Nat.reduceEqDiff, rv_together, rv_together_r0, rv_together_r1, rv_together_r2, rv_together_r3, rv_together_r4, rv_together_r5, rv_together_r6, rv_together_r7, List.length_map]
  refine sem_inv (fun n fr σ => ∃ i, i ≤ l.length ∧ n = l.length - i ∧ fget fr 3 = .int .u32 (orP (l.take i)) ∧ fget fr 6 = .lst 1 (l.map (V.int .u32)) q ∧ fget fr 7 = .int .i64 l.length ∧ fget fr 8 = .int .i64 i ∧
     σ = ⟨t, []⟩) (fun n fr σ hJ => ?_) (m0 := l.length) ⟨0, Nat.zero_le _, rfl, ?_⟩
  · obtain ⟨i, hi, rfl, f3, f6, f7, f8, rfl⟩ := hJ
    refine W_run 1000 ?_
    rcases Nat.lt_or_ge i l.length with hlt | hge
    · obtain ⟨p, hp⟩ : ∃ p, l[i]? = some p := ⟨_, List.getElem?_eq_getElem hlt⟩
      have hg : (l.map (V.int .u32)).getD i .any = .int .u32 p := by simp [List.getD_eq_getElem?_getD, hp]
      have e1 : orP (l.take (i + 1)) = IntKind.u32.wrap (BitVec.ofInt 32 (orP (l.take i)) ||| BitVec.ofInt 32 p).toNat := by rw [List.take_add_one, hp]; simp [orP]
      have e2 := wrap_next hlt (by omega)
      simp -implicitDefEqProofs (disch := omega) only [go_sem, need_of, ↓reduceIte, Nat.reduceEqDiff, Nat.zero_add, decide_true, Nat.le_refl, List.length_map, f3, f6, f7, f8, hlt, hg]
      refine ⟨l.length - (i + 1), _, _, by omega, Shift.refl _ _ _ _, i + 1, hlt, rfl, ?_⟩
      simp -implicitDefEqProofs (disch := omega) only [go_sem, ↓reduceIte, Nat.reduceEqDiff, f6, f7, e2, and_true]
      exact congrArg (V.int .u32) e1.symm
    · have hi : i = l.length := by omega
      subst hi
      rw [List.take_length] at f3
      simp -implicitDefEqProofs (disch := omega) only [go_sem, ↓reduceIte, decide_false, f7, f8, show ¬ l.length < l.length from by omega]
      refine run_sem 1000 ?_
      simp -implicitDefEqProofs (disch := omega) only [go_sem, ↓reduceIte, Nat.reduceEqDiff, Nat.le_refl, f3]
  · simp -implicitDefEqProofs (disch := omega) only [go_sem, ↓reduceIte, reduceCtorEq, Nat.reduceEqDiff]
    simp [orP]

theorem tabC_len : tabC.length = 594 := by decide +kernel
theorem tabC_ones : ones tabC := by
  have : tabC.all oneV = true := by decide +kernel
  intro c hc
  exact List.all_eq_true.1 this c hc
theorem tabC_nameless : namelessL tabC = true := by decide +kernel
/-- The row of a number. -/
theorem tabC_get : ∀ k : Fin 66, (tabC.drop (k * 9)).take 9 = (if k.val = 0 then zeroC else rowC (T.getD (k.val - 1) ⟨0, [], 0, 0, 0⟩)) := by
  intro k
  have h : ∀ (l : List RR) (j : Nat), j < l.length → (((l.map rowC).flatten).drop (j * 9)).take 9 = rowC (l.getD j ⟨0, [], 0, 0, 0⟩) := by
    intro l
    induction l with
    | nil => intro j hj; simp at hj
    | cons r l ih =>
      intro j hj
      cases j with
      | zero => simp [rowC, formC]
      | succ j =>
        have := ih j (by simpa using hj)
        have e : (j + 1) * 9 = (rowC r).length + j * 9 := by simp [rowC, formC]; omega
        rw [List.map_cons, List.flatten_cons, e, ← List.drop_drop, List.drop_left, this]
        rfl
  obtain ⟨k, hk⟩ := k
  cases k with
  | zero => simp [tabC, zeroC]
  | succ k =>
    have e : (k + 1) * 9 = zeroC.length + k * 9 := by simp [zeroC]; omega
    simp only [tabC, e]
    rw [← List.drop_drop, List.drop_left, h T k (by rw [T_len]; omega)]
    simp

def rowOf (op : Int) : List V := if 1 ≤ op ∧ op ≤ 65 then rowC (T.getD (op.toNat - 1) ⟨0, [], 0, 0, 0⟩) else zeroC
theorem rowC_len (r : RR) : (rowC r).length = 9 := rfl
theorem rowOf_get {op : Int} (h0 : 0 ≤ op) (h1 : op < 66) : (tabC.drop (op.toNat * 9)).take 9 = rowOf op := by
  have h := tabC_get ⟨op.toNat, by omega⟩
  simp only at h
  rw [h]
  unfold rowOf
  by_cases hz : op.toNat = 0
  · rw [if_pos hz, if_neg (by omega)]
  · rw [if_neg hz, if_pos (by omega)]
theorem rowOf_ok (op : Int) (h0 : 0 ≤ op) (h1 : op < 66) : (rowOf op).length = 9 ∧ ones (rowOf op) ∧ namelessL (rowOf op) = true := by
  rw [← rowOf_get h0 h1]
  have hl := tabC_len
  refine ⟨by simp; omega, fun c hc => tabC_ones c (List.mem_of_mem_drop (List.mem_of_mem_take hc)), ?_⟩
  have hn := tabC_nameless
  have key : ∀ (l : List V), namelessL l = true → ∀ k, namelessL (l.drop k) = true ∧ namelessL (l.take k) = true := by
    intro l
    induction l with
    | nil => intro _ k; simp [namelessL]
    | cons v l ih =>
      intro h k
      simp only [namelessL, Bool.and_eq_true] at h
      cases k with
      | zero => simp [namelessL, h]
      | succ k => simp [namelessL, h.1, ih h.2 k]
  exact (key _ (key _ hn _).1 _).2

theorem c_ofop (hT : TabOk P tab) (op : Int) (h0 : 0 ≤ op) (h1 : op ≤ 255) : Pure P G0 n_rv_of [.int .u8 op] fun v => v = .tup [.agg (rowOf op), .bool (decide (1 ≤ op ∧ op ≤ 65))] := by
  intro t
  have hl := tabC_len
  have hc := tabC_ones
  refine C_keep 0 (Nat.zero_le _) (C_tab hT t_rv_of (by simp [rv_of]) (W_run 1000 ?_))
  simp -implicitDefEqProofs (disch := omega) only [go_sem, ↓reduceIte, reduceCtorEq, Nat.reduceEqDiff, rv_of, rv_of_r0, rv_of_r1, rv_of_r2, rv_of_r3, rv_of_r4]
  refine callP hT t_rv_table (c_table hT) rfl 1000 fun v hv => ?_
  subst hv
  simp -implicitDefEqProofs (disch := omega) only [go_sem, ↓reduceIte, reduceCtorEq, Nat.reduceAdd, Nat.reduceEqDiff, Nat.reduceLeDiff, Nat.zero_add, Bool.not_false, Nat.le_refl, Nat.zero_le, ge_iff_le, hl, hc]
  have e1 : IntKind.i64.wrap op = op := wrap_i64 (by omega) (by omega)
  rw [e1]
  refine ⟨fun h => ?_, fun h => ⟨fun h2 => ?_, fun h2 => ?_⟩⟩
  · unfold rowOf; simp [show ¬ (1 ≤ op) from by omega, zeroC]
  · unfold rowOf; simp [show ¬ (op ≤ 65) from by omega, zeroC]
  · have hg := rowOf_get h0 (show op < 66 by omega)
    obtain ⟨g1, g2, g3⟩ := rowOf_ok op h0 (by omega)
    rw [hg]
    simp only [need, g1, g2, g3, h0, List.drop_succ_cons, List.drop_nil, List.append_nil, List.take_of_length_le (show (rowOf op).length ≤ 9 by omega), and_self, Nat.le_refl, show op.toNat < 66 by omega, show op.toNat * 9 ≤ 585 by omega, show (1 ≤ op ∧ op ≤ 65) = True by simp; omega, decide_true]
end Go.Proofs.YtkhdfbokkneeaaaDoor
