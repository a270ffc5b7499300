/- What has room; parts put together; an instruction's row: walked. -/
import Derived.Test.YtaidbdgndljaeaaGreatDoorJ3
import Derived.Test.YtaidbdgndljaeaaGreatDoorTabEq
import Derived.Test.YtaidbdgndljaeaaGreatDoorJ2
import Derived.Test.YtaidbdgndljaeaaGreatDoorTabB
import Derived.Test.YtaidbdgndljaeaaGreatDoorAmD
import Derived.KernelRfl
/- What has room; parts put together; an instruction's row: walked. -/
namespace Go.Proofs.YtaidbdgndljaeaaGreatDoor
open Go Go.Am Go.Rv
set_option maxRecDepth 100000
variable {P : Program} {G : Nat → Option V}
theorem c_fits (hT : TabOk P tab) (a b c : Bool) (l : List (Nat × Nat)) (z : Nat) (sg : Bool) (m n : Int) (hl : l.length ≤ 4) (hb : ∀ p ∈ l, p.1 ≤ 31 ∧ p.2 ≤ 30) (hz : z ≤ 30) (hwd : widthP l z ≤ 60) (hn : i64 n) :
    Pure P G n_rv_form_fits [.agg (frm a b c l z sg m), .int .i64 n] fun v => v = .bool (if sg then decide (n ≥ (0 - (2 : Int) ^ widthP l z).tdiv 2 ∧ n < ((2 : Int) ^ widthP l z).tdiv 2 ∧ n % 2 ^ z = 0) else decide (n ≥ 0 ∧ n < (2 : Int) ^ widthP l z ∧ n % 2 ^ z = 0)) := by
  intro t
  obtain ⟨y, hy, hyl⟩ := bitsV_len l
  have cw := c_width (G := G) hT a b c l z sg m hl (fun p hp => (hb p hp).2) hz
  simp only [frm, hy] at cw
  obtain ⟨g1, g2⟩ := pow_lt (widthP l z) 60 hwd
  obtain ⟨y1, y2⟩ := pow_lt z 30 hz
  have e1 : min (widthP l z) 64 = widthP l z := by omega
  have e2 : min z 64 = z := by omega
  have e3 : IntKind.i64.wrap (1 * 2 ^ widthP l z) = 2 ^ widthP l z := by rw [Int.one_mul]; exact wrap_i64 (by omega) (by omega)
  have e4 : IntKind.i64.wrap (0 - 2 ^ widthP l z) = 0 - 2 ^ widthP l z := wrap_i64 (by omega) (by omega)
  have d1 : ((2 : Int) ^ widthP l z).tdiv 2 = 2 ^ widthP l z / 2 := Int.tdiv_eq_ediv_of_nonneg (by omega)
  have d2 : (0 - (2 : Int) ^ widthP l z).tdiv 2 = -(2 ^ widthP l z / 2) := by rw [Int.zero_sub, Int.neg_tdiv, d1]
  have e5 : IntKind.i64.wrap ((0 - 2 ^ widthP l z : Int).tdiv 2) = (0 - 2 ^ widthP l z : Int).tdiv 2 := wrap_i64 (by omega) (by omega)
  have e6 : IntKind.i64.wrap ((2 ^ widthP l z : Int).tdiv 2) = (2 ^ widthP l z : Int).tdiv 2 := wrap_i64 (by omega) (by omega)
  have e7 : IntKind.i64.wrap (1 * 2 ^ z) = 2 ^ z := by rw [Int.one_mul]; exact wrap_i64 (by omega) (by omega)
  have e8 : IntKind.i64.wrap ((2 : Int) ^ z - 1) = 2 ^ z - 1 := wrap_i64 (by omega) (by omega)
  have e9 : IntKind.i64.wrap (BitVec.ofInt 64 n &&& BitVec.ofInt 64 ((2 : Int) ^ z - 1)).toNat = n % 2 ^ z := and_low .i64 z _ _ rfl (by simp [IntKind.bits]; omega)
  refine C_keep 0 (Nat.zero_le _) (C_tab hT t_rv_form_fits (by simp [rv_form_fits]) (W_run 1000 ?_))
  simp -implicitDefEqProofs (disch := omega) only [go_sem, ↓reduceIte, reduceCtorEq, Nat.reduceAdd, Nat.reduceEqDiff, Nat.zero_add, Nat.le_refl, ge_iff_le, rv_form_fits, zqu_0, zqu_1, zqu_2, zqu_3, zqu_4, frm, hy]
  refine callP hT t_rv_form_width cw rfl 1000 fun v hv => ?_
  subst hv
  cases sg with
  | false =>
    simp -implicitDefEqProofs (disch := omega) only [go_sem, need_of, ↓reduceIte, reduceCtorEq, Nat.reduceAdd, Nat.reduceEqDiff, Nat.reduceLeDiff, Nat.zero_add, Nat.zero_le, ge_iff_le, e1, e2, e3, e7, e8]
    have e9' := e9
    refine ⟨fun h1 => ⟨fun h2 => ?_, fun h2 => ?_⟩, fun h1 => ?_⟩
    · have : V.bool (n % 2 ^ z == 0) = V.bool (decide (0 ≤ n ∧ n < 2 ^ widthP l z ∧ n % 2 ^ z = 0)) := by simp [h1, h2]; rfl
      rw [← this]
      exact congrArg (fun x : Int => V.bool (x == 0)) e9
    · simp [h2]
    · simp [h1]
  | true =>
    simp -implicitDefEqProofs (disch := omega) only [go_sem, need_of, ↓reduceIte, reduceCtorEq, Nat.reduceAdd, Nat.reduceEqDiff, Nat.reduceLeDiff, Int.reduceEq, Nat.zero_add, Nat.zero_le, ge_iff_le, e1, e2, e3, e4, e5, e6, e7, e8]
    refine ⟨fun h1 => ⟨fun h2 => ?_, fun h2 => ?_⟩, fun h1 => ?_⟩
    · have : V.bool (n % 2 ^ z == 0) = V.bool (decide ((0 - (2 : Int) ^ widthP l z).tdiv 2 ≤ n ∧ n < ((2 : Int) ^ widthP l z).tdiv 2 ∧ n % 2 ^ z = 0)) := by simp only [h1, h2, true_and]; rfl
      rw [← this]
      exact congrArg (fun x : Int => V.bool (x == 0)) e9
    · simp only [h2, false_and, and_false, decide_false]
    · simp only [h1, false_and, decide_false]
theorem c_together (hT : TabOk P tab) (l : List Int) (q : Bool) (hl : l.length ≤ 100) : Pure P G n_rv_together [.lst 1 (l.map (V.int .u32)) q] fun v => v = .int .u32 (orP l) := by
  intro t
  refine C_keep 0 (Nat.zero_le _) (C_tab hT t_rv_together (by simp [rv_together]) (W_run 1000 ?_))
  simp -implicitDefEqProofs (disch := omega) only [go_sem, ↓reduceIte, reduceCtorEq, Nat.reduceEqDiff, rv_together, zqv_0, zqv_1, zqv_2, zqv_3, zqv_4, zqv_5, zqv_6, zqv_7, List.length_map]
  refine sem_inv (fun n fr σ => ∃ i, i ≤ l.length ∧ n = l.length - i ∧ fget fr 3 = .int .u32 (orP (l.take i)) ∧ fget fr 6 = .lst 1 (l.map (V.int .u32)) q ∧ fget fr 7 = .int .i64 l.length ∧ fget fr 8 = .int .i64 i ∧
     σ = ⟨t, []⟩) (fun n fr σ hJ => ?_) (m0 := l.length) ⟨0, Nat.zero_le _, rfl, ?_⟩
  · obtain ⟨i, hi, rfl, f3, f6, f7, f8, rfl⟩ := hJ
    refine W_run 1000 ?_
    rcases Nat.lt_or_ge i l.length with hlt | hge
    · obtain ⟨p, hp⟩ : ∃ p, l[i]? = some p := ⟨_, List.getElem?_eq_getElem hlt⟩
      have hg : (l.map (V.int .u32)).getD i .any = .int .u32 p := by simp [List.getD_eq_getElem?_getD, hp]
      have e1 : orP (l.take (i + 1)) = IntKind.u32.wrap (BitVec.ofInt 32 (orP (l.take i)) ||| BitVec.ofInt 32 p).toNat := by rw [List.take_add_one, hp]; simp [orP]
      have e2 := wrap_next hlt (by omega)
      simp -implicitDefEqProofs (disch := omega) only [go_sem, need_of, ↓reduceIte, Nat.reduceEqDiff, Nat.zero_add, decide_true, Nat.le_refl, List.length_map, f3, f6, f7, f8, hlt, hg]
      refine ⟨l.length - (i + 1), _, _, by omega, Shift.refl _ _ _ _, i + 1, hlt, rfl, ?_⟩
      simp -implicitDefEqProofs (disch := omega) only [go_sem, ↓reduceIte, Nat.reduceEqDiff, f6, f7, e2, and_true]
      exact congrArg (V.int .u32) e1.symm
    · have hi : i = l.length := by omega
      subst hi
      rw [List.take_length] at f3
      simp -implicitDefEqProofs (disch := omega) only [go_sem, ↓reduceIte, decide_false, f7, f8, show ¬ l.length < l.length from by omega]
      refine run_sem 1000 ?_
      simp -implicitDefEqProofs (disch := omega) only [go_sem, ↓reduceIte, Nat.reduceEqDiff, Nat.le_refl, f3]
  · simp -implicitDefEqProofs (disch := omega) only [go_sem, ↓reduceIte, reduceCtorEq, Nat.reduceEqDiff]
    simp [orP]
theorem tabC_len : tabC.length = 594 := by decide +kernel
theorem tabC_ones : ones tabC := by
  have : tabC.all oneV = true := by decide +kernel
  intro c hc
  exact List.all_eq_true.1 this c hc
theorem tabC_nameless : namelessL tabC = true := by decide +kernel
theorem tabC_get : ∀ k : Fin 66, (tabC.drop (k * 9)).take 9 = (if k.val = 0 then zeroC else rowC (T.getD (k.val - 1) ⟨0, [], 0, 0, 0⟩)) := by
  intro k
  have h : ∀ (l : List RR) (j : Nat), j < l.length → (((l.map rowC).flatten).drop (j * 9)).take 9 = rowC (l.getD j ⟨0, [], 0, 0, 0⟩) := by
    intro l
    induction l with
    | nil => intro j hj; simp at hj
    | cons r l ih =>
      intro j hj
      cases j with
      | zero => simp [rowC, formC]
      | succ j =>
        have := ih j (by simpa using hj)
        have e : (j + 1) * 9 = (rowC r).length + j * 9 := by simp [rowC, formC]; omega
        rw [List.map_cons, List.flatten_cons, e, ← List.drop_drop, List.drop_left, this]
        rfl
  obtain ⟨k, hk⟩ := k
  cases k with
  | zero => simp [tabC, zeroC]
  | succ k =>
    have e : (k + 1) * 9 = zeroC.length + k * 9 := by simp [zeroC]; omega
    simp only [tabC, e]
    rw [← List.drop_drop, List.drop_left, h T k (by rw [T_len]; omega)]
    simp
def rowOf (op : Int) : List V := if 1 ≤ op ∧ op ≤ 65 then rowC (T.getD (op.toNat - 1) ⟨0, [], 0, 0, 0⟩) else zeroC
theorem rowOf_get {op : Int} (h0 : 0 ≤ op) (h1 : op < 66) : (tabC.drop (op.toNat * 9)).take 9 = rowOf op := by
  have h := tabC_get ⟨op.toNat, by omega⟩
  simp only at h
  rw [h]
  unfold rowOf
  by_cases hz : op.toNat = 0
  · rw [if_pos hz, if_neg (by omega)]
  · rw [if_neg hz, if_pos (by omega)]
theorem rowOf_ok (op : Int) (h0 : 0 ≤ op) (h1 : op < 66) : (rowOf op).length = 9 ∧ ones (rowOf op) ∧ namelessL (rowOf op) = true := by
  rw [← rowOf_get h0 h1]
  have hl := tabC_len
  refine ⟨by simp; omega, fun c hc => tabC_ones c (List.mem_of_mem_drop (List.mem_of_mem_take hc)), ?_⟩
  have hn := tabC_nameless
  have key : ∀ (l : List V), namelessL l = true → ∀ k, namelessL (l.drop k) = true ∧ namelessL (l.take k) = true := by
    intro l
    induction l with
    | nil => intro _ k; simp [namelessL]
    | cons v l ih =>
      intro h k
      simp only [namelessL, Bool.and_eq_true] at h
      cases k with
      | zero => simp [namelessL, h]
      | succ k => simp [namelessL, h.1, ih h.2 k]
  exact (key _ (key _ hn _).1 _).2
theorem c_ofop (hT : TabOk P tab) (op : Int) (h0 : 0 ≤ op) (h1 : op ≤ 255) : Pure P G0 n_rv_of [.int .u8 op] fun v => v = .tup [.agg (rowOf op), .bool (decide (1 ≤ op ∧ op ≤ 65))] := by
  intro t
  have hl := tabC_len
  have hc := tabC_ones
  refine C_keep 0 (Nat.zero_le _) (C_tab hT t_rv_of (by simp [rv_of]) (W_run 1000 ?_))
  simp -implicitDefEqProofs (disch := omega) only [go_sem, ↓reduceIte, reduceCtorEq, Nat.reduceEqDiff, rv_of, zqs_0, zqs_1, zqs_2, zqs_3, zqs_4]
  refine callP hT t_rv_table (c_table hT) rfl 1000 fun v hv => ?_
  subst hv
  simp -implicitDefEqProofs (disch := omega) only [go_sem, ↓reduceIte, reduceCtorEq, Nat.reduceAdd, Nat.reduceEqDiff, Nat.reduceLeDiff, Nat.zero_add, Bool.not_false, Nat.le_refl, Nat.zero_le, ge_iff_le, hl, hc]
  have e1 : IntKind.i64.wrap op = op := wrap_i64 (by omega) (by omega)
  rw [e1]
  refine ⟨fun h => ?_, fun h => ⟨fun h2 => ?_, fun h2 => ?_⟩⟩
  · unfold rowOf; simp [show ¬ (1 ≤ op) from by omega, zeroC]
  · unfold rowOf; simp [show ¬ (op ≤ 65) from by omega, zeroC]
  · have hg := rowOf_get h0 (show op < 66 by omega)
    obtain ⟨g1, g2, g3⟩ := rowOf_ok op h0 (by omega)
    rw [hg]
    simp only [need, g1, g2, g3, h0, List.drop_succ_cons, List.drop_nil, List.append_nil, List.take_of_length_le (show (rowOf op).length ≤ 9 by omega), and_self, Nat.le_refl, show op.toNat < 66 by omega, show op.toNat * 9 ≤ 585 by omega, show (1 ≤ op ∧ op ≤ 65) = True by simp; omega, decide_true]
end Go.Proofs.YtaidbdgndljaeaaGreatDoor
/- A number put into a word: what comes of it; the contract. -/
namespace Go.Proofs.YtaidbdgndljaeaaGreatDoor
open Go Go.Am Go.Rv
set_option maxRecDepth 100000
theorem stepA_eq (p : Int) (y : Nat × (Nat × Nat)) (h : y.2.2 ≤ 30) : stepA p y = p % 2 ^ y.2.2 := by
  have e1 : min y.2.2 64 = y.2.2 := by omega
  obtain ⟨g1, g2⟩ := pow_lt y.2.2 30 h
  have e2 : IntKind.i64.wrap (2 ^ y.2.2) = 2 ^ y.2.2 := wrap_i64 (by omega) (by omega)
  have e3 : IntKind.i64.wrap ((2 : Int) ^ y.2.2 - 1) = 2 ^ y.2.2 - 1 := wrap_i64 (by omega) (by omega)
  unfold stepA stepM
  rw [e1, e2, e3]
  exact and_low .i64 y.2.2 _ _ rfl (by simp [IntKind.bits]; omega)
theorem wrap_u32 {x : Int} (h1 : 0 ≤ x) (h2 : x < 4294967296) : IntKind.u32.wrap x = x := wrap_id _ (by simpa [IntKind.min, IntKind.signed] using h1) (by simp [IntKind.max, IntKind.signed, IntKind.bits]; omega)
theorem stepB_eq (p n : Int) (i a m : Nat) (hm : m ≤ 30) (ham : a + m ≤ 32) (h0 : 0 ≤ p) (hp : p + n % 2 ^ m * 2 ^ a < 4294967296) (hd : p % 2 ^ (a + m) = 0 ∨ p < 2 ^ a) : stepB (p, n) (i, (a, m)) = (p + n % 2 ^ m * 2 ^ a, n / 2 ^ m) := by
  have e1 : min m 64 = m := by omega
  have e2 : min a 32 = a := by omega
  obtain ⟨g1, g2⟩ := pow_lt m 30 hm
  obtain ⟨q1, q2⟩ := pow_lt (a + m) 32 ham
  obtain ⟨r1, _⟩ := pow_lt a 32 (by omega)
  have s1 := Int.emod_nonneg n (show (2 : Int) ^ m ≠ 0 by omega)
  have s2 := Int.emod_lt_of_pos n (show (0 : Int) < 2 ^ m by omega)
  have h1 := Int.mul_nonneg s1 (show (0 : Int) ≤ 2 ^ a by omega)
  have h2 := Int.mul_le_mul_of_nonneg_right (show n % 2 ^ m + 1 ≤ 2 ^ m by omega) (show (0 : Int) ≤ 2 ^ a by omega)
  rw [Int.add_mul, Int.mul_comm (2 ^ m) (2 ^ a), ← Int.pow_add] at h2
  unfold stepB
  simp only [e1, e2, stepA_eq _ (i, (a, m)) hm]
  rw [wrap_u32 s1 (by omega), wrap_u32 h1 (by omega)]
  congr 1
  rcases hd with hd | hd
  · exact or_add .u32 (a + m) _ _ h0 h1 (by omega) hd (by simp [IntKind.max, IntKind.signed, IntKind.bits]; omega)
  · exact or_add' .u32 a _ _ h0 h1 hd (Int.mul_emod_left _ _) (by simp [IntKind.max, IntKind.signed, IntKind.bits]; omega)
theorem sp_eq {f : Int} (x : Int) (h : f = 82 ∨ f = 87 ∨ f = 73 ∨ f = 72 ∨ f = 83 ∨ f = 66 ∨ f = 85 ∨ f = 74 ∨ f = 69) :
    (spB x (upto (fun j => ((bitsOf f).length - 1 - j, (bitsOf f).getD ((bitsOf f).length - 1 - j) (0, 0))) (bitsOf f).length)).1 = (sprP (bitsOf f) x).1 := by
  rcases h with rfl | rfl | rfl | rfl | rfl | rfl | rfl | rfl | rfl
  · rfl
  · simp only [bitsOf, Int.reduceEq, if_true, if_false, List.length_cons, List.length_nil, upto, List.range_succ, List.range_zero, List.nil_append, List.map_cons, List.map_nil, spB, List.foldl_cons, List.foldl_nil, sprP, List.foldr_cons, List.foldr_nil, Nat.reduceAdd, Nat.reduceSub, List.getD_cons_zero]
    rw [stepB_eq _ _ _ _ _ (by omega) (by omega) (by omega) (by omega) (by omega)]
  · simp only [bitsOf, Int.reduceEq, if_true, if_false, List.length_cons, List.length_nil, upto, List.range_succ, List.range_zero, List.nil_append, List.map_cons, List.map_nil, spB, List.foldl_cons, List.foldl_nil, sprP, List.foldr_cons, List.foldr_nil, Nat.reduceAdd, Nat.reduceSub, List.getD_cons_zero]
    rw [stepB_eq _ _ _ _ _ (by omega) (by omega) (by omega) (by omega) (by omega)]
  · simp only [bitsOf, Int.reduceEq, if_true, if_false, List.length_cons, List.length_nil, upto, List.range_succ, List.range_zero, List.nil_append, List.map_cons, List.map_nil, spB, List.foldl_cons, List.foldl_nil, sprP, List.foldr_cons, List.foldr_nil, Nat.reduceAdd, Nat.reduceSub, List.getD_cons_zero]
    rw [stepB_eq _ _ _ _ _ (by omega) (by omega) (by omega) (by omega) (by omega)]
  · simp only [bitsOf, Int.reduceEq, if_true, if_false, List.length_cons, List.length_nil, upto, List.range_succ, List.range_zero, List.nil_append, List.cons_append, List.map_cons, List.map_nil, spB, List.foldl_cons, List.foldl_nil, sprP, List.foldr_cons, List.foldr_nil, Nat.reduceAdd, Nat.reduceSub, List.getD_cons_zero, List.getD_cons_succ]
    rw [stepB_eq _ _ 1 7 5 (by omega) (by omega) (by omega) (by omega) (by omega), stepB_eq _ _ 0 25 7 (by omega) (by omega) (by omega) (by omega) (by omega)]
  · simp only [bitsOf, Int.reduceEq, if_true, if_false, List.length_cons, List.length_nil, upto, List.range_succ, List.range_zero, List.nil_append, List.cons_append, List.map_cons, List.map_nil, spB, List.foldl_cons, List.foldl_nil, sprP, List.foldr_cons, List.foldr_nil, Nat.reduceAdd, Nat.reduceSub, List.getD_cons_zero, List.getD_cons_succ]
    rw [stepB_eq _ _ 3 8 4 (by omega) (by omega) (by omega) (by omega) (by omega), stepB_eq _ _ 2 25 6 (by omega) (by omega) (by omega) (by omega) (by omega), stepB_eq _ _ 1 7 1 (by omega) (by omega) (by omega) (by omega) (by omega), stepB_eq _ _ 0 31 1 (by omega) (by omega) (by omega) (by omega) (by omega)]
  · simp only [bitsOf, Int.reduceEq, if_true, if_false, List.length_cons, List.length_nil, upto, List.range_succ, List.range_zero, List.nil_append, List.map_cons, List.map_nil, spB, List.foldl_cons, List.foldl_nil, sprP, List.foldr_cons, List.foldr_nil, Nat.reduceAdd, Nat.reduceSub, List.getD_cons_zero]
    rw [stepB_eq _ _ _ _ _ (by omega) (by omega) (by omega) (by omega) (by omega)]
  · simp only [bitsOf, Int.reduceEq, if_true, if_false, List.length_cons, List.length_nil, upto, List.range_succ, List.range_zero, List.nil_append, List.cons_append, List.map_cons, List.map_nil, spB, List.foldl_cons, List.foldl_nil, sprP, List.foldr_cons, List.foldr_nil, Nat.reduceAdd, Nat.reduceSub, List.getD_cons_zero, List.getD_cons_succ]
    rw [stepB_eq _ _ 3 21 10 (by omega) (by omega) (by omega) (by omega) (by omega), stepB_eq _ _ 2 20 1 (by omega) (by omega) (by omega) (by omega) (by omega), stepB_eq _ _ 1 12 8 (by omega) (by omega) (by omega) (by omega) (by omega), stepB_eq _ _ 0 31 1 (by omega) (by omega) (by omega) (by omega) (by omega)]
  · rfl
theorem vr_int {I : Imm} {ρ : Names} {k : IntKind} {n : Int} {x : Value} (h : VR I ρ (.int k n) x) : x = .int k n := by cases h; rfl
theorem vr_pr {I : Imm} {a b : Nat} {j : Nat} {g : Nat → Value} (h : ∀ (i : Nat) (c : V), (pr a b).cells[i]? = some c → VR I noNames c (g i)) : g 0 = .int .i64 (a : Int) ∧ g 1 = .int .i64 (b : Int) :=
  ⟨vr_int (h 0 (.int .i64 a) rfl), vr_int (h 1 (.int .i64 b) rfl)⟩
theorem bitsAt_of {I : Imm} {w : World} {l : List (Nat × Nat)} {x : Value} (hI : ∀ b o x, I b o = some x → w.cell? ⟨b, o, none⟩ = some x) (h : VR I noNames (bitsV l) x) :
    ∃ a cap, x = .slice a l.length cap ∧ BitsAt w.heap.size w x l.length (fun j => l.getD j (0, 0)) := by
  cases l with
  | nil =>
    cases h with
    | lst _ _ _ _ _ _ _ _ h0 => exact absurd rfl h0
    | lstN _ _ _ a cap h0 => exact ⟨a, cap, rfl, .inl ⟨a, cap, rfl, rfl⟩⟩
  | cons p l =>
    generalize hv : bitsV (p :: l) = v at h
    have e : v = .lst 2 ((p :: l).map fun b => pr b.1 b.2) true := hv.symm
    rw [e] at h
    cases h with
    | lst _ _ _ _ b o cap g h0 h1 h2 h3 h4 h5 =>
      have hlen : ((p :: l).map fun b => pr b.1 b.2).length = (p :: l).length := by simp
      have key : ∀ j, j < (p :: l).length → I b (o + j * 2) = some (.int .i64 (((p :: l).getD j (0, 0)).1 : Int)) ∧ I b (o + j * 2 + 1) = some (.int .i64 (((p :: l).getD j (0, 0)).2 : Int)) := by
        intro j hj
        obtain ⟨q, hq⟩ : ∃ q, (p :: l)[j]? = some q := ⟨_, List.getElem?_eq_getElem hj⟩
        have hm : ((p :: l).map fun b => pr b.1 b.2)[j]? = some (pr q.1 q.2) := by rw [List.getElem?_map, hq]; rfl
        have hgd : (p :: l).getD j (0, 0) = q := by rw [List.getD_eq_getElem?_getD, hq]; rfl
        obtain ⟨e1, e2⟩ := vr_pr (j := j) (h5 j _ hm)
        rw [hgd]
        have a0 := h4 j _ hm 0 (.int .i64 q.1) rfl
        have a1 := h4 j _ hm 1 (.int .i64 q.2) rfl
        rw [e1] at a0
        rw [e2] at a1
        exact ⟨a0, a1⟩
      rw [hlen]
      refine ⟨_, cap, rfl, .inr ⟨b, o, cap, rfl, ?_, fun j hj => ⟨hI _ _ _ (key j hj).1, hI _ _ _ (key j hj).2⟩⟩⟩
      exact block_lt_of_cell (hI _ _ _ (key 0 (by simp)).1)
theorem c_spread {G : Nat → Option V} {f : Int} (n : Int) (h : f = 82 ∨ f = 87 ∨ f = 73 ∨ f = 72 ∨ f = 83 ∨ f = 66 ∨ f = 85 ∨ f = 74 ∨ f = 69) :
    Pure Tryz.prog G n_rv_form_spread [.agg (formC f), .int .i64 n] fun v => v = .int .u32 (spreadP f n) := by
  refine pure_of_calls (fun I w xs _ hI hc => ?_) (by rcases h with rfl | rfl | rfl | rfl | rfl | rfl | rfl | rfl | rfl <;> rfl)
  obtain ⟨hs, hv⟩ := hc
  obtain ⟨x0, x1, rfl⟩ : ∃ x0 x1, xs = #[x0, x1] := by
    obtain ⟨l⟩ := xs
    simp at hs
    match l, hs with
    | [a, b], _ => exact ⟨a, b, rfl⟩
  have h0 := hv 0 _ x0 rfl rfl
  have h1 := vr_int (hv 1 _ x1 rfl rfl)
  subst h1
  cases h0 with
  | agg _ _ cs hl hcs =>
    obtain ⟨v0, v1, v2, v3, v4, v5, v6, rfl⟩ : ∃ v0 v1 v2 v3 v4 v5 v6, cs = #[v0, v1, v2, v3, v4, v5, v6] := by
      obtain ⟨l⟩ := cs
      simp [formC] at hl
      match l, hl with
      | [a, b, c, d, e, f, g], _ => exact ⟨a, b, c, d, e, f, g, rfl⟩
    have g3 := hcs 3 _ v3 rfl rfl
    have g4 := vr_int (hcs 4 _ v4 rfl rfl)
    have g6 := vr_int (hcs 6 _ v6 rfl rfl)
    subst g4 g6
    obtain ⟨a, cap, rfl, hb⟩ := bitsAt_of hI g3
    have hz : nghts f ≤ 30 := by rcases h with rfl | rfl | rfl | rfl | rfl | rfl | rfl | rfl | rfl <;> decide
    have hlen : (bitsOf f).length ≤ 1000 := by rcases h with rfl | rfl | rfl | rfl | rfl | rfl | rfl | rfl | rfl <;> decide
    have := (callsIn_wide (n := 3)).1 (spread_in 3 (by omega) v0 v1 v2 v5 a (bitsOf f).length cap (nghts f) (maskOf f) n hz (fun j => (bitsOf f).getD j (0, 0)) hlen w hb)
    refine this.mono fun e w' ⟨he, hw⟩ => ?_
    rw [sp_eq _ h] at he
    exact ⟨_, _, he, .int _ _ _, rfl, rfl, ⟨hw.os, hw.tape, hw.output, hw.size, hw.block⟩⟩
end Go.Proofs.YtaidbdgndljaeaaGreatDoor
/- An instruction's word: walked. -/
namespace Go.Proofs.YtaidbdgndljaeaaGreatDoor
open Go Go.Am Go.Rv
set_option maxRecDepth 100000
variable {P : Program} {G : Nat → Option V}
def inC (x : In) : List V := [.int .u8 x.op, .int .u8 x.rd, .int .u8 x.rs1, .int .u8 x.rs2, .int .i64 x.imm]
def InOk (x : In) : Prop := (0 ≤ x.op ∧ x.op ≤ 255) ∧ (0 ≤ x.rd ∧ x.rd ≤ 255) ∧ (0 ≤ x.rs1 ∧ x.rs1 ≤ 255) ∧ (0 ≤ x.rs2 ∧ x.rs2 ≤ 255) ∧ i64 x.imm
theorem g0a : G0 0 = some (.agg [.int .i64 7, .int .i64 5]) := rfl
theorem g0b : G0 1 = some (.agg [.int .i64 15, .int .i64 5]) := rfl
theorem g0c : G0 2 = some (.agg [.int .i64 20, .int .i64 5]) := rfl
theorem c_may (hT : TabOk P tab) (b : Bool) (n : Int) : Pure P G n_rv_Encode_S1 [.bool b, .int .u8 n] fun v => v = .bool (decide (n < 32) && (b || decide (n = 0))) := by
  intro t
  refine C_tab hT t_rv_Encode_S1 (by simp [rv_Encode_S1]) (W_run 1000 ?_)
  simp -implicitDefEqProofs (disch := omega) only [go_sem, ↓reduceIte, reduceCtorEq, Nat.reduceAdd, Nat.reduceEqDiff, Nat.zero_add, rv_Encode_S1, zqt_0, zqt_1]
  by_cases h : n < 32 <;> cases b <;> simp [h]
  rfl
theorem c_Encode (hT : TabOk Tryz.prog tab) (x : In) (hx : InOk x) : Pure Tryz.prog G0 n_rv_Encode [.agg (inC x)] fun v => v = .tup [.int .u32 (enc T x).1, .int .i64 (enc T x).2] := by
  obtain ⟨⟨o0, o1⟩, ⟨a0, a1⟩, ⟨b0, b1⟩, ⟨c0, c1⟩, hi⟩ := hx
  by_cases hop : 1 ≤ x.op ∧ x.op ≤ 65
  · obtain ⟨r, hk⟩ : ∃ r, T[(x.op - 1).toNat]? = some r := ⟨_, List.getElem?_eq_getElem (by rw [T_len]; omega)⟩
    have hrow : rowOf x.op = rowC r := by
      unfold rowOf
      rw [if_pos hop]
      have : x.op.toNat - 1 = (x.op - 1).toNat := by omega
      rw [this, List.getD_eq_getElem?_getD, hk]; rfl
    have hf := forms (T_good r (List.mem_of_getElem? hk))
    have he : enc T x = if x.rd > 31 ∨ x.rs1 > 31 ∨ x.rs2 > 31 ∨ (hasRd r.form = false ∧ x.rd ≠ 0) ∨ (hasR1 r.form = false ∧ x.rs1 ≠ 0) ∨ (hasR2 r.form = false ∧ x.rs2 ≠ 0) ∨ ((r.form = 82 ∨ r.form = 69) ∧ x.imm ≠ 0) then (0, 100)
      else if room r.form x.imm = false then (0, 101)
      else (matchOf r + x.rd * 128 + x.rs1 * 32768 + x.rs2 * 1048576 + spread r.form x.imm, 0) := by
      unfold enc; rw [if_pos (by rw [T_len]; exact hop), hk]
    intro t
    obtain ⟨y, hy, hyl⟩ := bitsV_len (bitsOf r.form)
    refine C_keep 0 (Nat.zero_le _) (C_tab hT t_rv_Encode (by simp [rv_Encode]) (W_run 1000 ?_))
    simp -implicitDefEqProofs (disch := omega) only [go_sem, ↓reduceIte, reduceCtorEq, Nat.reduceAdd, Nat.reduceEqDiff, Nat.reduceLeDiff, Nat.zero_add, Nat.add_zero, rv_Encode, zq9_0, zq9_1, zq9_2, zq9_3, zq9_4, zq9_5, zq9_6, zq9_7, inC]
    refine callP hT t_rv_of (c_ofop hT x.op o0 o1) rfl 1000 fun v hv => ?_
    subst hv
    rw [hrow]
    have hbl : (bitsOf r.form).length = 0 ↔ (r.form = 82 ∨ r.form = 69) := by rcases hf with h | h | h | h | h | h | h | h | h <;> rw [h] <;> simp [bitsOf]
    have bad : (x.rd > 31 ∨ x.rs1 > 31 ∨ x.rs2 > 31 ∨ (hasRd r.form = false ∧ x.rd ≠ 0) ∨ (hasR1 r.form = false ∧ x.rs1 ≠ 0) ∨ (hasR2 r.form = false ∧ x.rs2 ≠ 0) ∨ ((r.form = 82 ∨ r.form = 69) ∧ x.imm ≠ 0)) → enc T x = (0, 100) := fun h => by rw [he, if_pos h]
    have m1 := c_may (G := G0) hT (hasRd r.form) x.rd
    have m2 := c_may (G := G0) hT (hasR1 r.form) x.rs1
    have m3 := c_may (G := G0) hT (hasR2 r.form) x.rs2
    have bb : ∀ (b : Bool) (n : Int), (decide (n < 32) && (b || decide (n = 0))) = false → n > 31 ∨ (b = false ∧ n ≠ 0) := fun b n h => by
      by_cases h1 : n < 32
      · cases b <;> simp [h1] at h; exact .inr ⟨rfl, h⟩
      · exact .inl (by omega)
    have bt : ∀ (b : Bool) (n : Int), (decide (n < 32) && (b || decide (n = 0))) = true → n ≤ 31 ∧ (b = false → n = 0) := fun b n h => by
      simp only [Bool.and_eq_true, decide_eq_true_eq, Bool.or_eq_true] at h
      exact ⟨by omega, fun hb => by rw [hb] at h; simpa using h.2⟩
    simp -implicitDefEqProofs (disch := omega) only [go_sem, ↓reduceIte, reduceCtorEq, Nat.reduceAdd, Nat.reduceEqDiff, Nat.reduceLeDiff, Nat.reduceLT, Nat.zero_add, Nat.add_zero, decide_true, Bool.not_true, Bool.not_false, Nat.le_refl, Nat.zero_le, rowC, formC, hy, hop]
    refine callP hT t_rv_Encode_S1 m1 rfl 1000 fun v hv => ?_
    subst hv
    cases q1 : (decide (x.rd < 32) && (hasRd r.form || decide (x.rd = 0))) with
    | false =>
      simp -implicitDefEqProofs (disch := omega) only [go_sem, ↓reduceIte, reduceCtorEq, Nat.reduceAdd, Nat.reduceEqDiff, Nat.zero_add, Bool.not_false, Nat.zero_le]
      rw [bad (by rcases bb _ _ q1 with h | h; exact .inl h; exact .inr (.inr (.inr (.inl h))))]
    | true =>
      simp -implicitDefEqProofs (disch := omega) only [go_sem, ↓reduceIte, reduceCtorEq, Nat.reduceAdd, Nat.reduceEqDiff, Nat.reduceLeDiff, Nat.zero_add, Nat.add_zero, Bool.not_true]
      refine callP hT t_rv_Encode_S1 m2 rfl 1000 fun v hv => ?_
      subst hv
      cases q2 : (decide (x.rs1 < 32) && (hasR1 r.form || decide (x.rs1 = 0))) with
      | false =>
        simp -implicitDefEqProofs (disch := omega) only [go_sem, ↓reduceIte, reduceCtorEq, Nat.reduceAdd, Nat.reduceEqDiff, Nat.zero_add, Bool.not_false, Nat.zero_le]
        rw [bad (by rcases bb _ _ q2 with h | h; exact .inr (.inl h); exact .inr (.inr (.inr (.inr (.inl h)))))]
      | true =>
        simp -implicitDefEqProofs (disch := omega) only [go_sem, ↓reduceIte, reduceCtorEq, Nat.reduceAdd, Nat.reduceEqDiff, Nat.reduceLeDiff, Nat.zero_add, Nat.add_zero, Bool.not_true]
        refine callP hT t_rv_Encode_S1 m3 rfl 1000 fun v hv => ?_
        subst hv
        cases q3 : (decide (x.rs2 < 32) && (hasR2 r.form || decide (x.rs2 = 0))) with
        | false =>
          simp -implicitDefEqProofs (disch := omega) only [go_sem, ↓reduceIte, reduceCtorEq, Nat.reduceAdd, Nat.reduceEqDiff, Nat.zero_add, Bool.not_false, Nat.zero_le]
          rw [bad (by rcases bb _ _ q3 with h | h; exact .inr (.inr (.inl h)); exact .inr (.inr (.inr (.inr (.inr (.inl h))))))]
        | true =>
          obtain ⟨d1, e1⟩ := bt _ _ q1
          obtain ⟨d2, e2⟩ := bt _ _ q2
          obtain ⟨d3, e3⟩ := bt _ _ q3
          have hwd : widthP (bitsOf r.form) (nghts r.form) ≤ 60 := by rcases hf with h | h | h | h | h | h | h | h | h <;> rw [h] <;> decide
          have hl4 : (bitsOf r.form).length ≤ 4 := by rcases hf with h | h | h | h | h | h | h | h | h <;> rw [h] <;> decide
          have hb4 : ∀ p ∈ bitsOf r.form, p.1 ≤ 31 ∧ p.2 ≤ 30 := by rcases hf with h | h | h | h | h | h | h | h | h <;> rw [h] <;> decide
          have hz4 : nghts r.form ≤ 30 := by rcases hf with h | h | h | h | h | h | h | h | h <;> rw [h] <;> decide
          have cf := c_fits (G := G0) hT (hasRd r.form) (hasR1 r.form) (hasR2 r.form) (bitsOf r.form) (nghts r.form) (isSgn r.form) (maskOf r.form) x.imm hl4 hb4 hz4 hwd hi
          have ef := fitsP_eq x.imm hf
          unfold fitsP at ef
          simp only at ef
          have cf : Pure Tryz.prog G0 n_rv_form_fits [.agg (frm (hasRd r.form) (hasR1 r.form) (hasR2 r.form) (bitsOf r.form) (nghts r.form) (isSgn r.form) (maskOf r.form)), .int .i64 x.imm] fun v => v = .bool (room r.form x.imm) := by rw [← ef]; exact cf
          simp only [frm, hy] at cf
          have cs := c_spread (G := G0) x.imm hf
          simp only [formC, hy] at cs
          have w1 : IntKind.u32.wrap x.rd = x.rd := wrap_u32 (by omega) (by omega)
          have w2 : IntKind.u32.wrap x.rs1 = x.rs1 := wrap_u32 (by omega) (by omega)
          have w3 : IntKind.u32.wrap x.rs2 = x.rs2 := wrap_u32 (by omega) (by omega)
          have w4 : IntKind.u32.wrap (x.rd * 128) = x.rd * 128 := wrap_u32 (by omega) (by omega)
          have w5 : IntKind.u32.wrap (x.rs1 * 32768) = x.rs1 * 32768 := wrap_u32 (by omega) (by omega)
          have w6 : IntKind.u32.wrap (x.rs2 * 1048576) = x.rs2 * 1048576 := wrap_u32 (by omega) (by omega)
          have ct := c_together (G := G0) hT [matchOf r, x.rd * 128, x.rs1 * 32768, x.rs2 * 1048576, spreadP r.form x.imm] true (by simp)
          simp only [List.map_cons, List.map_nil] at ct
          simp -implicitDefEqProofs (disch := omega) only [go_sem, ↓reduceIte, reduceCtorEq, Nat.reduceAdd, Nat.reduceEqDiff, Nat.reduceLeDiff, Nat.zero_add, Nat.add_zero, Bool.not_true, Nat.le_refl, Nat.zero_le, List.length_map]
          refine ⟨fun hl => ⟨fun hm => ?_, fun hm => ?_⟩, fun hl => ?_⟩
          · rw [bad (.inr (.inr (.inr (.inr (.inr (.inr ⟨hbl.1 (by omega), hm⟩))))))]
          all_goals (
            have hgood : ¬((r.form = 82 ∨ r.form = 69) ∧ x.imm ≠ 0) := fun h => by first | exact h.2 hm | exact hl (by have := hbl.2 h.1; omega)
            have he2 : enc T x = if room r.form x.imm = false then (0, 101) else (matchOf r + x.rd * 128 + x.rs1 * 32768 + x.rs2 * 1048576 + spread r.form x.imm, 0) := by
              rw [he, if_neg]
              rintro (h | h | h | h | h | h | h)
              · omega
              · omega
              · omega
              · exact h.2 (e1 h.1)
              · exact h.2 (e2 h.1)
              · exact h.2 (e3 h.1)
              · exact hgood h
            refine callP hT t_rv_form_fits cf rfl 1000 fun v hv => ?_
            subst hv
            cases hr : room r.form x.imm with
            | false =>
              simp -implicitDefEqProofs (disch := omega) only [go_sem, ↓reduceIte, reduceCtorEq, Nat.reduceAdd, Nat.reduceEqDiff, Nat.zero_add, Bool.not_false, Nat.zero_le]
              rw [he2, hr]; rfl
            | true =>
              simp -implicitDefEqProofs (disch := omega) only [go_sem, ↓reduceIte, reduceCtorEq, Nat.reduceAdd, Nat.reduceEqDiff, Nat.reduceLeDiff, Int.reduceToNat, Int.reduceLE, Nat.zero_add, Nat.add_zero, Bool.not_true, Nat.le_refl, g0a, g0b, g0c, show min 7 32 = 7 from rfl, show min 15 32 = 15 from rfl, show min 20 32 = 20 from rfl, Int.reducePow, w1, w2, w3, w4, w5, w6]
              refine callP hT t_rv_form_spread cs rfl 1000 fun v hv => ?_
              subst hv
              simp -implicitDefEqProofs (disch := omega) only [go_sem, ↓reduceIte, reduceCtorEq, Nat.reduceAdd, Nat.reduceEqDiff, Nat.reduceLeDiff, Nat.zero_add, Nat.le_refl]
              refine callP hT t_rv_together ct rfl 1000 fun v hv => ?_
              subst hv
              simp -implicitDefEqProofs (disch := omega) only [go_sem, ↓reduceIte, reduceCtorEq, Nat.reduceAdd, Nat.reduceEqDiff, Nat.zero_add, Nat.zero_le]
              rw [he2, hr, spreadP_eq _ hf hr, orP_enc hk ⟨a0, d1⟩ ⟨b0, d2⟩ ⟨c0, d3⟩ e1 e2 e3 hr]
              rfl)
  · have he : enc T x = (0, 100) := by unfold enc; rw [if_neg (by rw [T_len]; exact hop)]
    have hrow : rowOf x.op = zeroC := by unfold rowOf; rw [if_neg hop]
    intro t
    refine C_keep 0 (Nat.zero_le _) (C_tab hT t_rv_Encode (by simp [rv_Encode]) (W_run 1000 ?_))
    simp -implicitDefEqProofs (disch := omega) only [go_sem, ↓reduceIte, reduceCtorEq, Nat.reduceAdd, Nat.reduceEqDiff, Nat.reduceLeDiff, Nat.zero_add, Nat.add_zero, rv_Encode, zq9_0, zq9_1, zq9_2, zq9_3, zq9_4, zq9_5, zq9_6, zq9_7, inC]
    refine callP hT t_rv_of (c_ofop hT x.op o0 o1) rfl 1000 fun v hv => ?_
    subst hv
    rw [hrow]
    have hop' : decide (1 ≤ x.op ∧ x.op ≤ 65) = false := by simpa using hop
    rw [hop']
    simp -implicitDefEqProofs (disch := omega) only [go_sem, ↓reduceIte, reduceCtorEq, Nat.reduceAdd, Nat.reduceEqDiff, Nat.reduceLT, Nat.zero_add, Bool.not_false, Nat.le_refl, Nat.zero_le, zeroC]
    rw [he]
end Go.Proofs.YtaidbdgndljaeaaGreatDoor
/- Names of instructions, and what they write: walked. -/
namespace Go.Proofs.YtaidbdgndljaeaaGreatDoor
open Go Go.Am Go.Rv Go.Rg
set_option maxRecDepth 100000
variable {P : Program}
theorem bitsV_lst (l : List (Nat × Nat)) : ∃ sz L q, bitsV l = .lst sz L q := by
  cases l <;> exact ⟨_, _, _, rfl⟩
theorem rowOf_rro (op : Int) : ∃ a b sz L q z s m c, rowOf op = [.bool (hasRd (rro op).form), .bool a, .bool b, .lst sz L q, .int .i64 z, .bool s, .int .u32 m, .str (rro op).name, .int .u32 c] := by
  unfold rowOf rro
  split
  · generalize T.getD (op.toNat - 1) ⟨0, [], 0, 0, 0⟩ = r
    obtain ⟨sz, L, q, h⟩ := bitsV_lst (bitsOf r.form)
    exact ⟨hasR1 r.form, hasR2 r.form, sz, L, q, nghts r.form, isSgn r.form, maskOf r.form, matchOf r, by rw [← h]; rfl⟩
  · exact ⟨false, false, 0, [], true, 0, false, 0, 0, rfl⟩
theorem c_Writes (hT : TabOk Tryz.prog tab) (x : In) (hx : InOk x) : Pure Tryz.prog G0 n_rv_Writes [.agg (inC x)] fun u => u = .tup [.int .u8 (wrs x).1, .bool (wrs x).2] := by
  intro t
  have hE := c_Encode hT x hx
  have hO := c_ofop hT x.op hx.1.1 hx.1.2
  obtain ⟨a, b, sz, L, q, z, s, m, c, hr⟩ := rowOf_rro x.op
  rw [hr] at hO
  refine C_keep 0 (Nat.zero_le _) (C_tab hT t_rv_Writes (by simp [rv_Writes]) (W_run 14 ?_))
  simp -implicitDefEqProofs (disch := omega) only [go_sem, ↓reduceIte, reduceCtorEq, Nat.reduceAdd, Nat.reduceEqDiff, Nat.zero_add, Nat.le_refl, rv_Writes, zqr_0, zqr_1, zqr_2, zqr_3, zqr_4, zqr_5, inC, false_implies, and_true]
  iterate 9 (try (refine run_sem 4 ?_; simp -implicitDefEqProofs (disch := omega) only [go_sem, need_of, ↓reduceIte, reduceCtorEq, Nat.reduceAdd, Nat.reduceEqDiff, Nat.reduceLeDiff, Nat.reduceLT, Nat.reduceSub, Nat.reduceMul, Int.reduceToNat, Int.reduceLE, Int.reduceLT, Int.reduceEq, Int.reduceNe, Nat.succ_ne_zero, Nat.zero_add, Nat.add_zero, Nat.mul_one, Nat.one_mul, Nat.zero_mul, decide_true, decide_false, Bool.not_true, Bool.not_false, Nat.le_refl, Nat.zero_le, ge_iff_le, gt_iff_lt, Nat.reduceBEq, Nat.reduceBNe, beq_self_eq_true, bne_self_eq_false, Option.isSome_some, Option.isSome_none, Option.getD_some, Option.getD_none, rv_Writes, zqr_0, zqr_1, zqr_2, zqr_3, zqr_4, zqr_5, inC, false_implies, true_implies, true_and, and_true, not_true_eq_false, not_false_eq_true, Int.reduceBEq, Int.reduceBNe, Bool.not_true, Bool.not_false]))
  refine callPS hT t_rv_Encode hE rfl 4 ?_
  simp -implicitDefEqProofs (disch := omega) only [go_sem, ↓reduceIte, reduceCtorEq, Nat.reduceAdd, Nat.reduceEqDiff, Nat.reduceLT, Nat.zero_add]
  iterate 9 (try (refine run_sem 4 ?_; simp -implicitDefEqProofs (disch := omega) only [go_sem, ↓reduceIte, reduceCtorEq, Nat.reduceAdd, Nat.reduceEqDiff, Nat.reduceLeDiff, Nat.zero_add, Nat.add_zero, true_implies, and_true]))
  by_cases h1 : (enc T x).2 = 0
  · by_cases h2 : hasRd (rro x.op).form = true
    · by_cases h3 : x.rd = 0
      · have hw : wrs x = (0, false) := if_neg (by simp [h3])
        have h3' : (x.rd == 0) = true := by simp [h3]
        rw [h2] at hO
        refine callPS hT t_rv_of hO rfl 4 ?_
        simp -implicitDefEqProofs (disch := omega) only [go_sem, ↓reduceIte, reduceCtorEq, Nat.reduceAdd, Nat.reduceEqDiff, Nat.reduceLT, Nat.zero_add, and_true, h1]
        iterate 16 (try (refine run_sem 4 ?_; simp -implicitDefEqProofs (disch := omega) only [go_sem, ↓reduceIte, reduceCtorEq, Nat.reduceAdd, Nat.reduceEqDiff, Nat.reduceLeDiff, Nat.zero_add, Nat.add_zero, Bool.not_true, Bool.not_false, Nat.le_refl, Nat.zero_le, bne_self_eq_false, true_implies, and_true, Bool.not_true, Bool.not_false, h3', hw]))
      · have hw : wrs x = (x.rd, true) := if_pos ⟨h1, h2, h3⟩
        have h3' : (x.rd == 0) = false := by simpa using h3
        rw [h2] at hO
        refine callPS hT t_rv_of hO rfl 4 ?_
        simp -implicitDefEqProofs (disch := omega) only [go_sem, ↓reduceIte, reduceCtorEq, Nat.reduceAdd, Nat.reduceEqDiff, Nat.reduceLT, Nat.zero_add, and_true, h1]
        iterate 16 (try (refine run_sem 4 ?_; simp -implicitDefEqProofs (disch := omega) only [go_sem, ↓reduceIte, reduceCtorEq, Nat.reduceAdd, Nat.reduceEqDiff, Nat.reduceLeDiff, Nat.zero_add, Nat.add_zero, Bool.not_true, Bool.not_false, Nat.le_refl, Nat.zero_le, bne_self_eq_false, true_implies, and_true, Bool.not_true, Bool.not_false, h3', hw]))
    · have hw : wrs x = (0, false) := if_neg (by simp [h2])
      rw [Bool.eq_false_iff.2 h2] at hO
      refine callPS hT t_rv_of hO rfl 4 ?_
      simp -implicitDefEqProofs (disch := omega) only [go_sem, ↓reduceIte, reduceCtorEq, Nat.reduceAdd, Nat.reduceEqDiff, Nat.reduceLT, Nat.zero_add, and_true, h1]
      iterate 16 (try (refine run_sem 4 ?_; simp -implicitDefEqProofs (disch := omega) only [go_sem, ↓reduceIte, reduceCtorEq, Nat.reduceAdd, Nat.reduceEqDiff, Nat.reduceLeDiff, Nat.zero_add, Nat.add_zero, Bool.not_false, Nat.le_refl, Nat.zero_le, bne_self_eq_false, true_implies, and_true, Bool.not_false, hw]))
  · have hw : wrs x = (0, false) := if_neg (by simp [h1])
    have h1' : ((enc T x).2 == 0) = false := by simpa using h1
    have h1'' : ((enc T x).2 = 0) = False := eq_false h1
    refine callPS hT t_rv_of hO rfl 4 ?_
    simp -implicitDefEqProofs (disch := omega) only [go_sem, ↓reduceIte, reduceCtorEq, Nat.reduceAdd, Nat.reduceEqDiff, Nat.reduceLT, Nat.zero_add, and_true]
    iterate 16 (try (refine run_sem 4 ?_; simp -implicitDefEqProofs (disch := omega) only [go_sem, ↓reduceIte, reduceCtorEq, Nat.reduceAdd, Nat.reduceEqDiff, Nat.zero_add, Bool.not_false, Nat.le_refl, Nat.zero_le, and_true, Bool.not_false, h1', bne, hw]))
end Go.Proofs.YtaidbdgndljaeaaGreatDoor
/- The library's Sort, Compact and DeleteFunc at rows of two bytes: walked. -/
namespace Go.Proofs.YtaidbdgndljaeaaGreatDoor
open Go Go.Am
set_option maxRecDepth 100000
variable {P : Program} {G : Nat → Option V}
theorem cast2 : ((2 : Nat) : Int) = 2 := rfl
theorem cast1 : ((1 : Nat) : Int) = 1 := rfl
theorem c_isNaN (hT : TabOk P tab) (a : Int) : Pure P G n_cmp_isNaN_uint8 [.int .u8 a] fun u => u = .bool false := by
  intro t
  refine C_keep 0 (Nat.zero_le _) (C_tab hT t_cmp_isNaN_uint8 (by simp [cmp_isNaN_uint8]) (W_run 1000 ?_))
  simp -implicitDefEqProofs (disch := omega) only [go_sem, ↓reduceIte, reduceCtorEq, Nat.reduceEqDiff, Nat.le_refl, bne_self_eq_false, cmp_isNaN_uint8, zq3s_0, zq3s_1, and_true, List.length_nil]
theorem c_Less (hT : TabOk P tab) (a b : Int) : Pure P G n_cmp_Less_uint8 [.int .u8 a, .int .u8 b] fun u => u = .bool (decide (a < b)) := by
  intro t
  refine C_keep 0 (Nat.zero_le _) (C_tab hT t_cmp_Less_uint8 (by simp [cmp_Less_uint8]) (W_run 1000 ?_))
  simp -implicitDefEqProofs (disch := omega) only [go_sem, ↓reduceIte, reduceCtorEq, Nat.reduceEqDiff, Nat.zero_add, cmp_Less_uint8, zq3m_0, zq3m_1]
  refine callPS hT t_cmp_isNaN_uint8 (c_isNaN hT a) rfl 1000 ?_
  simp -implicitDefEqProofs (disch := omega) only [go_sem, ↓reduceIte, reduceCtorEq, Nat.reduceAdd, Nat.reduceEqDiff, Nat.le_refl, and_true, List.length_nil]
def h3 (X B : Option Ob) (w : Nat) (cs : List V) : List (Option Ob) := [X, B, some (.arr w 5 cs)]
theorem c_ins2 (hT : TabOk P tab) {t w : Nat} {X B : Option Ob} (a b : Int) :
    C P G 0 n_slices_insertionSortOrdered_uint8 [.sl 2 w 0 1 2 none, .int .i64 0, .int .i64 2] ⟨t, h3 X B w [.int .u8 a, .int .u8 b]⟩ fun v σ => v = .tup [] ∧ σ = ⟨t, h3 X B w (if b < a then [.int .u8 b, .int .u8 a] else [.int .u8 a, .int .u8 b])⟩ := by
  have hL := c_Less (P := P) (G := G) hT b a
  have w1 : IntKind.i64.wrap (0 + 1) = 1 := by decide
  have w2 : IntKind.i64.wrap (1 + 1) = 2 := by decide
  have w3 : IntKind.i64.wrap (1 - 1) = 0 := by decide
  refine C_tab hT t_slices_insertionSortOrdered_uint8 (by simp [slices_insertionSortOrdered_uint8]) (W_run 1000 ?_)
  simp -implicitDefEqProofs (disch := omega) only [go_sem, ↓reduceIte, reduceCtorEq, Nat.reduceAdd, Nat.reduceEqDiff, Nat.zero_add, slices_insertionSortOrdered_uint8, zq3g_0, zq3g_1, zq3g_2, zq3g_3, zq3g_4, zq3g_5, zq3g_6, h3, w1]
  refine sem_rounds 2 40 ?_
  by_cases h : b < a
  · have h' : decide (b < a) = true := decide_eq_true h
    rw [h'] at hL
    rw [if_pos h]
    simp -implicitDefEqProofs (disch := omega) only [go_sem, ↓reduceIte, reduceCtorEq, Nat.reduceEqDiff, Int.reduceLT, decide_true]
    refine sem_rounds 2 4 ?_
    simp -implicitDefEqProofs (disch := omega) only [go_sem]
    iterate 9 (try (refine run_sem 4 ?_; simp -implicitDefEqProofs (disch := omega) only [go_sem, ↓reduceIte, reduceCtorEq, Nat.reduceAdd, Nat.reduceEqDiff, Nat.reduceLeDiff, Nat.reduceLT, Int.reduceToNat, Int.reduceLE, Int.reduceLT, Nat.zero_add, Nat.add_zero, Nat.mul_one, decide_true, Nat.le_refl, gt_iff_lt, true_implies, and_true, List.length_cons, List.length_nil, w3]))
    refine callPS hT t_cmp_Less_uint8 hL rfl 4 ?_
    simp -implicitDefEqProofs (disch := omega) only [go_sem, ↓reduceIte, reduceCtorEq, Nat.reduceEqDiff]
    iterate 16 (try (refine run_sem 9 ?_; simp -implicitDefEqProofs (disch := omega) only [go_sem, ↓reduceIte, reduceCtorEq, Nat.reduceAdd, Nat.reduceEqDiff, Nat.reduceLeDiff, Nat.reduceLT, Int.reduceToNat, Int.reduceLE, Nat.zero_add, Nat.add_zero, Nat.mul_one, decide_false, Bool.not_false, Nat.le_refl, Nat.zero_le, gt_iff_lt, true_implies, and_true, Bool.not_false, Int.lt_irrefl, List.length_cons, List.length_nil, w2, w3]))
  · have h' : decide (b < a) = false := decide_eq_false h
    rw [h'] at hL
    rw [if_neg h]
    simp -implicitDefEqProofs (disch := omega) only [go_sem, ↓reduceIte, reduceCtorEq, Nat.reduceEqDiff, Int.reduceLT, decide_true]
    refine sem_rounds 2 4 ?_
    simp -implicitDefEqProofs (disch := omega) only [go_sem]
    iterate 9 (try (refine run_sem 4 ?_; simp -implicitDefEqProofs (disch := omega) only [go_sem, ↓reduceIte, reduceCtorEq, Nat.reduceAdd, Nat.reduceEqDiff, Nat.reduceLeDiff, Nat.reduceLT, Int.reduceToNat, Int.reduceLE, Int.reduceLT, Nat.zero_add, Nat.add_zero, Nat.mul_one, decide_true, Nat.le_refl, gt_iff_lt, true_implies, and_true, List.length_cons, List.length_nil, w3]))
    refine callPS hT t_cmp_Less_uint8 hL rfl 4 ?_
    simp -implicitDefEqProofs (disch := omega) only [go_sem, ↓reduceIte, reduceCtorEq, Nat.reduceEqDiff]
    iterate 16 (try (refine run_sem 9 ?_; simp -implicitDefEqProofs (disch := omega) only [go_sem, ↓reduceIte, reduceCtorEq, Nat.reduceEqDiff, decide_false, and_true, Int.lt_irrefl, w2]))
theorem c_pdq2 (hT : TabOk P tab) {t w : Nat} {X B : Option Ob} (a b l : Int) :
    C P G 0 n_slices_pdqsortOrdered_uint8 [.sl 2 w 0 1 2 none, .int .i64 0, .int .i64 2, .int .i64 l] ⟨t, h3 X B w [.int .u8 a, .int .u8 b]⟩ fun v σ => v = .tup [] ∧ σ = ⟨t, h3 X B w (if b < a then [.int .u8 b, .int .u8 a] else [.int .u8 a, .int .u8 b])⟩ := by
  have w1 : IntKind.i64.wrap (2 - 0) = 2 := by decide
  refine C_tab hT t_slices_pdqsortOrdered_uint8 (by simp [slices_pdqsortOrdered_uint8]) (W_run 1000 ?_)
  simp -implicitDefEqProofs (disch := omega) only [go_sem, ↓reduceIte, reduceCtorEq, Nat.reduceAdd, Nat.reduceEqDiff, Nat.zero_add, slices_pdqsortOrdered_uint8, zq3e_0, zq3e_1, zq3e_2, zq3e_3, zq3e_4, zq3e_5, zq3e_6, zq3e_7, zq3e_8, zq3e_9, zq3e_10, zq3e_11, zq3e_12, zq3e_13, zq3e_14, zq3e_15, zq3e_16, zq3e_17, zq3e_18, zq3e_19, zq3e_20, zq3e_21, zq3e_22, zq3e_23, zq3e_24, zq3e_25, zq3e_26, zq3e_27, zq3e_28, zq3e_29, zq3e_30, h3]
  refine sem_rounds 1 40 ?_
  simp -implicitDefEqProofs (disch := omega) only [go_sem, ↓reduceIte, reduceCtorEq, Nat.reduceEqDiff, Int.reduceLE, decide_true, w1]
  refine call hT t_slices_insertionSortOrdered_uint8 (c_ins2 hT a b) 40 fun v σ hv => ?_
  obtain ⟨rfl, rfl⟩ := hv
  simp -implicitDefEqProofs (disch := omega) only [go_sem, ↓reduceIte, reduceCtorEq, Nat.reduceEqDiff, h3, and_true]
def isTwo : V → Bool
  | .int .i64 n => decide (n = 2)
  | _ => false
theorem isTwo_ok (v : V) (h : isTwo v = true) : nameless v = true ∧ v = .int .i64 2 := by
  unfold isTwo at h
  split at h
  · simp at h; subst h; exact ⟨rfl, rfl⟩
  · cases h
theorem c_Len (hT : TabOk P tab) : Pure P G n_math_bits_Len [.int .u64 2] fun u => u = .int .i64 2 :=
  run_pure hT 100 10 (.int .i64 2) isTwo isTwo_ok rfl (by kernel_rfl)
theorem c_Sort2 (hT : TabOk P tab) {t w : Nat} {X B : Option Ob} (a b : Int) :
    C P G 0 n_slices_Sort_uint8_uint8 [.sl 2 w 0 1 2 none] ⟨t, h3 X B w [.int .u8 a, .int .u8 b]⟩ fun v σ => v = .tup [] ∧ σ = ⟨t, h3 X B w (if b < a then [.int .u8 b, .int .u8 a] else [.int .u8 a, .int .u8 b])⟩ := by
  have w1 : IntKind.u64.wrap 2 = 2 := by decide
  refine C_tab hT t_slices_Sort_uint8_uint8 (by simp [slices_Sort_uint8_uint8]) (W_run 1000 ?_)
  simp -implicitDefEqProofs (disch := omega) only [go_sem, ↓reduceIte, reduceCtorEq, Nat.reduceEqDiff, slices_Sort_uint8_uint8, zq38_0, zq38_1, h3, cast2, w1]
  refine callPS hT t_math_bits_Len (c_Len hT) rfl 40 ?_
  simp -implicitDefEqProofs (disch := omega) only [go_sem, ↓reduceIte, reduceCtorEq, Nat.reduceEqDiff]
  refine call hT t_slices_pdqsortOrdered_uint8 (c_pdq2 hT a b 2) 40 fun v σ hv => ?_
  obtain ⟨rfl, rfl⟩ := hv
  simp -implicitDefEqProofs (disch := omega) only [go_sem, ↓reduceIte, reduceCtorEq, Nat.reduceEqDiff, h3, and_true]
theorem c_Compact2 (hT : TabOk P tab) {t w : Nat} {X B : Option Ob} (a b : Int) :
    C P G 0 n_slices_Compact_uint8_uint8 [.sl 2 w 0 1 2 none] ⟨t, h3 X B w [.int .u8 a, .int .u8 b]⟩ fun v σ => (a = b ∧ v = .sl 2 w 0 1 1 none ∧ σ = ⟨t, h3 X B w [.int .u8 a, .int .u8 0]⟩) ∨ (a ≠ b ∧ v = .sl 2 w 0 1 2 none ∧ σ = ⟨t, h3 X B w [.int .u8 a, .int .u8 b]⟩) := by
  have w2 : IntKind.i64.wrap (1 + 1) = 2 := by decide
  have w3 : IntKind.i64.wrap (1 - 1) = 0 := by decide
  refine C_tab hT t_slices_Compact_uint8_uint8 (by simp [slices_Compact_uint8_uint8]) (W_run 1000 ?_)
  simp -implicitDefEqProofs (disch := omega) only [go_sem, ↓reduceIte, reduceCtorEq, Nat.reduceEqDiff, decide_false, slices_Compact_uint8_uint8, zq39_0, zq39_1, zq39_2, zq39_3, zq39_4, zq39_5, zq39_6, zq39_7, zq39_8, zq39_9, zq39_10, zq39_11, zq39_12, zq39_13, zq39_14, zq39_15, zq39_16, h3, cast2, Int.lt_irrefl]
  refine sem_rounds 2 60 ?_
  by_cases h : b = a
  · have h' : (b == a) = true := by simp [h]
    simp -implicitDefEqProofs (disch := omega) only [go_sem, ↓reduceIte, reduceCtorEq, Nat.reduceAdd, Nat.reduceEqDiff, Nat.reduceLeDiff, Nat.reduceLT, Nat.reduceSub, Int.reduceToNat, Int.reduceLE, Int.reduceLT, Nat.succ_ne_zero, Nat.zero_add, Nat.add_zero, Nat.mul_one, decide_true, Nat.le_refl, beq_self_eq_true, cast2, true_implies, true_and, and_true, not_true_eq_false, List.length_cons, List.length_nil, w3, h]
    refine sem_rounds 1 40 ?_
    simp -implicitDefEqProofs (disch := omega) only [go_sem, ↓reduceIte, reduceCtorEq, Nat.reduceEqDiff, Nat.reduceLeDiff, Nat.reduceLT, Nat.reduceSub, Int.reduceToNat, Int.reduceLE, Nat.succ_ne_zero, Nat.zero_add, Nat.mul_one, decide_false, Bool.not_false, cast1, and_true, Bool.not_false, Int.lt_irrefl]
    simp only [evW]
    simp -implicitDefEqProofs (disch := omega) only [go_sem, ↓reduceIte, reduceCtorEq, Nat.reduceAdd, Nat.reduceEqDiff, Nat.reduceLeDiff, Nat.reduceLT, Nat.reduceSub, Int.reduceToNat, Int.reduceLE, Nat.zero_add, Nat.add_zero, Nat.mul_one, Nat.le_refl, Nat.zero_le, and_true, List.length_cons, List.length_nil, List.take_succ_cons, List.take_zero, List.drop_succ_cons, List.drop_zero, List.replicate_succ, List.replicate_zero, List.flatten_cons, List.flatten_nil, List.cons_append, List.nil_append, List.append_nil]
  · have h' : (b = a) = False := eq_false h
    simp -implicitDefEqProofs (disch := omega) only [go_sem, ↓reduceIte, reduceCtorEq, Nat.reduceAdd, Nat.reduceEqDiff, Nat.reduceLeDiff, Nat.reduceLT, Nat.reduceSub, Int.reduceToNat, Int.reduceLE, Int.reduceLT, Nat.succ_ne_zero, Nat.zero_add, Nat.add_zero, Nat.mul_one, decide_true, decide_false, Nat.le_refl, cast2, false_implies, true_implies, true_and, and_true, not_false_eq_true, Int.lt_irrefl, List.length_cons, List.length_nil, w2, w3, h']
    exact .inr fun e => h e.symm
theorem k_z (hT : TabOk P tab) (a : Int) (z : Bool) (hz : decide (a = 0) = z) : Pure P G n_rv_Reads_S1 [.int .u8 a] fun u => u = .bool z := by
  intro t
  refine C_keep 0 (Nat.zero_le _) (C_tab hT t_rv_Reads_S1 (by simp [rv_Reads_S1]) (W_run 1000 ?_))
  simp -implicitDefEqProofs (disch := omega) only [go_sem, ↓reduceIte, reduceCtorEq, Nat.reduceEqDiff, Nat.le_refl, rv_Reads_S1, zq3b_0, zq3b_1, true_and, List.length_nil]
  rw [← hz]; rfl
theorem c_Idx2 (hT : TabOk P tab) {t w : Nat} {X B : Option Ob} (a b : Int) (h : a < b) (h0 : 0 ≤ a) :
    C P G 0 n_slices_IndexFunc_uint8_uint8 [.sl 2 w 0 1 2 none, .fn (.func n_rv_Reads_S1) [] []] ⟨t, h3 X B w [.int .u8 a, .int .u8 b]⟩ fun v σ => v = .int .i64 (if a = 0 then 0 else -1) ∧ σ = ⟨t, h3 X B w [.int .u8 a, .int .u8 b]⟩ := by
  have w2 : IntKind.i64.wrap (1 + 1) = 2 := by decide
  have w3 : IntKind.i64.wrap (0 + 1) = 1 := by decide
  refine C_tab hT t_slices_IndexFunc_uint8_uint8 (by simp [slices_IndexFunc_uint8_uint8]) (W_run 1000 ?_)
  simp -implicitDefEqProofs (disch := omega) only [go_sem, ↓reduceIte, reduceCtorEq, Nat.reduceEqDiff, Nat.zero_add, slices_IndexFunc_uint8_uint8, zq3f_0, zq3f_1, zq3f_2, zq3f_3, zq3f_4, zq3f_5, zq3f_6, zq3f_7, h3, cast2]
  refine sem_rounds 3 60 ?_
  simp -implicitDefEqProofs (disch := omega) only [go_sem, ↓reduceIte, reduceCtorEq, Nat.reduceAdd, Nat.reduceEqDiff, Nat.reduceLeDiff, Nat.reduceLT, Int.reduceToNat, Int.reduceLE, Int.reduceLT, Nat.zero_add, Nat.add_zero, Nat.mul_one, decide_true, true_implies, and_true, List.length_cons, List.length_nil]
  by_cases ha : a = 0
  · refine callPS hT t_rv_Reads_S1 (k_z hT a true (decide_eq_true ha)) rfl 60 ?_
    simp -implicitDefEqProofs (disch := omega) only [go_sem, ↓reduceIte, reduceCtorEq, Nat.reduceEqDiff, and_true, ha]
  · refine callPS hT t_rv_Reads_S1 (k_z hT a false (decide_eq_false ha)) rfl 60 ?_
    simp -implicitDefEqProofs (disch := omega) only [go_sem, ↓reduceIte, reduceCtorEq, Nat.reduceAdd, Nat.reduceEqDiff, Nat.reduceLT, Int.reduceToNat, Int.reduceLE, Int.reduceLT, Nat.zero_add, Nat.mul_one, decide_true, Nat.le_refl, true_implies, and_true, List.length_cons, List.length_nil, w3, ha]
    refine callPS hT t_rv_Reads_S1 (k_z hT b false (decide_eq_false (by omega))) rfl 60 ?_
    simp -implicitDefEqProofs (disch := omega) only [go_sem, ↓reduceIte, reduceCtorEq, Nat.reduceEqDiff, decide_false, and_true, Int.lt_irrefl, w2]
theorem c_Idx1 (hT : TabOk P tab) {t w : Nat} {X B : Option Ob} (a : Int) (cs : List V) (hcs : cs.length = 1) :
    C P G 0 n_slices_IndexFunc_uint8_uint8 [.sl 2 w 0 1 1 none, .fn (.func n_rv_Reads_S1) [] []] ⟨t, h3 X B w (.int .u8 a :: cs)⟩ fun v σ => v = .int .i64 (if a = 0 then 0 else -1) ∧ σ = ⟨t, h3 X B w (.int .u8 a :: cs)⟩ := by
  have w3 : IntKind.i64.wrap (0 + 1) = 1 := by decide
  refine C_tab hT t_slices_IndexFunc_uint8_uint8 (by simp [slices_IndexFunc_uint8_uint8]) (W_run 1000 ?_)
  simp -implicitDefEqProofs (disch := omega) only [go_sem, ↓reduceIte, reduceCtorEq, Nat.reduceEqDiff, Nat.zero_add, slices_IndexFunc_uint8_uint8, zq3f_0, zq3f_1, zq3f_2, zq3f_3, zq3f_4, zq3f_5, zq3f_6, zq3f_7, h3, cast1]
  refine sem_rounds 3 60 ?_
  simp -implicitDefEqProofs (disch := omega) only [go_sem, ↓reduceIte, reduceCtorEq, Nat.reduceEqDiff, Nat.reduceLeDiff, Nat.reduceLT, Int.reduceToNat, Int.reduceLE, Int.reduceLT, Nat.zero_add, Nat.add_zero, Nat.mul_one, decide_true, true_implies, and_true, List.length_cons]
  by_cases ha : a = 0
  · refine callPS hT t_rv_Reads_S1 (k_z hT a true (decide_eq_true ha)) rfl 60 ?_
    simp -implicitDefEqProofs (disch := omega) only [go_sem, ↓reduceIte, reduceCtorEq, Nat.reduceEqDiff, and_true, ha]
  · refine callPS hT t_rv_Reads_S1 (k_z hT a false (decide_eq_false ha)) rfl 60 ?_
    simp -implicitDefEqProofs (disch := omega) only [go_sem, ↓reduceIte, reduceCtorEq, Nat.reduceEqDiff, decide_false, and_true, Int.lt_irrefl, w3, ha]
theorem c_Del2 (hT : TabOk P tab) {t w : Nat} {X B : Option Ob} (a b : Int) (h : a < b) (h0 : 0 ≤ a) :
    C P G 0 n_slices_DeleteFunc_uint8_uint8 [.sl 2 w 0 1 2 none, .fn (.func n_rv_Reads_S1) [] []] ⟨t, h3 X B w [.int .u8 a, .int .u8 b]⟩ fun v σ => ∃ t', t ≤ t' ∧ ((a = 0 ∧ v = .sl 2 w 0 1 1 none ∧ σ = ⟨t', h3 X B w [.int .u8 b, .int .u8 0]⟩) ∨ (a ≠ 0 ∧ v = .sl 2 w 0 1 2 none ∧ σ = ⟨t', h3 X B w [.int .u8 a, .int .u8 b]⟩)) := by
  have w2 : IntKind.i64.wrap (1 + 1) = 2 := by decide
  have w3 : IntKind.i64.wrap (0 + 1) = 1 := by decide
  refine C_tab hT t_slices_DeleteFunc_uint8_uint8 (by simp [slices_DeleteFunc_uint8_uint8]) (W_run 1000 ?_)
  simp -implicitDefEqProofs (disch := omega) only [go_sem, ↓reduceIte, reduceCtorEq, Nat.reduceEqDiff, Nat.zero_add, slices_DeleteFunc_uint8_uint8, zq3a_0, zq3a_1, zq3a_2, zq3a_3, zq3a_4, zq3a_5, zq3a_6, zq3a_7, zq3a_8, zq3a_9, zq3a_10, zq3a_11, zq3a_12, h3]
  refine call hT t_slices_IndexFunc_uint8_uint8 (c_Idx2 hT a b h h0) 60 fun v σ hv => ?_
  obtain ⟨rfl, rfl⟩ := hv
  by_cases ha : a = 0
  · rw [if_pos ha]
    simp -implicitDefEqProofs (disch := omega) only [go_sem, ↓reduceIte, reduceCtorEq, Nat.reduceEqDiff, h3, Int.reduceBEq, w3, Int.reduceNeg]
    refine sem_rounds 3 60 ?_
    simp -implicitDefEqProofs (disch := omega) only [go_sem, ↓reduceIte, reduceCtorEq, Nat.reduceAdd, Nat.reduceEqDiff, Nat.reduceLT, Int.reduceToNat, Int.reduceLE, Int.reduceLT, Nat.zero_add, Nat.mul_one, decide_true, Nat.le_refl, cast2, true_implies, and_true, List.length_cons, List.length_nil]
    refine callPS hT t_rv_Reads_S1 (k_z hT b false (decide_eq_false (by omega))) rfl 60 ?_
    simp -implicitDefEqProofs (disch := omega) only [go_sem, ↓reduceIte, reduceCtorEq, Nat.reduceAdd, Nat.reduceEqDiff, Nat.reduceLeDiff, Nat.reduceLT, Nat.reduceSub, Int.reduceToNat, Int.reduceLE, Nat.succ_ne_zero, Nat.zero_add, Nat.add_zero, Nat.mul_one, decide_false, Bool.not_false, Nat.zero_le, List.take_zero, List.drop_succ_cons, List.drop_zero, List.cons_append, List.nil_append, cast2, and_true, Bool.not_false, Int.lt_irrefl, List.length_cons, List.length_nil, w2, w3]
    try simp only [evW]
    try simp -implicitDefEqProofs (disch := omega) only [go_sem, ↓reduceIte, reduceCtorEq, Nat.reduceAdd, Nat.reduceEqDiff, Nat.reduceLeDiff, Nat.reduceLT, Nat.reduceSub, Int.reduceToNat, Int.reduceLE, Nat.zero_add, Nat.add_zero, Nat.mul_one, Nat.le_refl, Nat.zero_le, List.take_succ_cons, List.take_zero, List.drop_succ_cons, List.drop_zero, List.replicate_succ, List.replicate_zero, List.flatten_cons, List.flatten_nil, List.cons_append, List.nil_append, List.append_nil, true_and, and_true, not_true_eq_false, List.length_cons, List.length_nil, ha]
    exact ⟨t, Nat.le_refl _, rfl⟩
  · rw [if_neg ha]
    simp -implicitDefEqProofs (disch := omega) only [go_sem, ↓reduceIte, reduceCtorEq, Nat.reduceEqDiff, beq_self_eq_true, h3, true_and, and_true, not_false_eq_true, ha, Int.reduceNeg]
    exact ⟨t, Nat.le_refl _, rfl⟩
theorem c_Del1 (hT : TabOk P tab) {t w : Nat} {X B : Option Ob} (a b : Int) :
    C P G 0 n_slices_DeleteFunc_uint8_uint8 [.sl 2 w 0 1 1 none, .fn (.func n_rv_Reads_S1) [] []] ⟨t, h3 X B w [.int .u8 a, .int .u8 b]⟩ fun v σ => ∃ t', t ≤ t' ∧ ((a = 0 ∧ v = .sl 2 w 0 1 0 none ∧ σ = ⟨t', h3 X B w [.int .u8 0, .int .u8 b]⟩) ∨ (a ≠ 0 ∧ v = .sl 2 w 0 1 1 none ∧ σ = ⟨t', h3 X B w [.int .u8 a, .int .u8 b]⟩)) := by
  have w3 : IntKind.i64.wrap (0 + 1) = 1 := by decide
  refine C_tab hT t_slices_DeleteFunc_uint8_uint8 (by simp [slices_DeleteFunc_uint8_uint8]) (W_run 1000 ?_)
  simp -implicitDefEqProofs (disch := omega) only [go_sem, ↓reduceIte, reduceCtorEq, Nat.reduceEqDiff, Nat.zero_add, slices_DeleteFunc_uint8_uint8, zq3a_0, zq3a_1, zq3a_2, zq3a_3, zq3a_4, zq3a_5, zq3a_6, zq3a_7, zq3a_8, zq3a_9, zq3a_10, zq3a_11, zq3a_12, h3]
  refine call hT t_slices_IndexFunc_uint8_uint8 (c_Idx1 hT a [.int .u8 b] rfl) 60 fun v σ hv => ?_
  obtain ⟨rfl, rfl⟩ := hv
  by_cases ha : a = 0
  · rw [if_pos ha]
    simp -implicitDefEqProofs (disch := omega) only [go_sem, ↓reduceIte, reduceCtorEq, Nat.reduceEqDiff, h3, Int.reduceBEq, w3, Int.reduceNeg]
    refine sem_rounds 3 60 ?_
    simp -implicitDefEqProofs (disch := omega) only [go_sem, ↓reduceIte, reduceCtorEq, Nat.reduceEqDiff, Nat.reduceLT, Nat.reduceSub, Int.reduceToNat, Int.reduceLE, Nat.add_zero, Nat.mul_one, decide_false, Bool.not_false, Nat.zero_le, cast1, and_true, Bool.not_false, Int.lt_irrefl]
    try simp only [evW]
    try simp -implicitDefEqProofs (disch := omega) only [go_sem, ↓reduceIte, reduceCtorEq, Nat.reduceAdd, Nat.reduceEqDiff, Nat.reduceLeDiff, Nat.reduceLT, Nat.reduceSub, Int.reduceToNat, Int.reduceLE, Nat.zero_add, Nat.add_zero, Nat.mul_one, Nat.zero_le, List.take_zero, List.drop_succ_cons, List.drop_zero, List.replicate_succ, List.replicate_zero, List.flatten_cons, List.flatten_nil, List.cons_append, List.nil_append, List.append_nil, true_and, and_true, not_true_eq_false, List.length_cons, List.length_nil, ha]
    exact ⟨t, Nat.le_refl _, rfl⟩
  · rw [if_neg ha]
    simp -implicitDefEqProofs (disch := omega) only [go_sem, ↓reduceIte, reduceCtorEq, Nat.reduceEqDiff, beq_self_eq_true, h3, true_and, and_true, not_false_eq_true, ha, Int.reduceNeg]
    exact ⟨t, Nat.le_refl _, rfl⟩
end Go.Proofs.YtaidbdgndljaeaaGreatDoor
/- What instructions read: walked. -/
namespace Go.Proofs.YtaidbdgndljaeaaGreatDoor
open Go Go.Am Go.Rv Go.Rg
set_option maxRecDepth 100000
variable {P : Program}
def us (l : List Int) : List V := l.map (V.int .u8)
theorem readsL_comm (a b : Int) : readsL a b = readsL b a := by unfold readsL; rw [Int.min_comm, Int.max_comm]
theorem readsL_lt {a b : Int} (h : a < b) (h0 : 0 ≤ a) : readsL a b = if a = 0 then [b] else [a, b] := by
  unfold readsL
  rw [Int.min_eq_left (by omega), Int.max_eq_right (by omega), if_pos h]
  split <;> split <;> first | rfl | omega
theorem readsL_eq {a : Int} (h0 : 0 ≤ a) : readsL a a = if a = 0 then [] else [a] := by
  unfold readsL
  rw [Int.min_self, Int.max_self, if_neg (Int.lt_irrefl a)]
  split <;> split <;> first | rfl | omega
abbrev rdQ (X : Option Ob) (x : In) : V → H → Prop := fun v σ => (rds x = [] ∧ v = .lst 0 [] true ∧ ∃ t' ex, σ = ⟨t', X :: ex⟩) ∨ ∃ t' w B cs, namelessL cs = true ∧ v = .sl 2 w 0 1 (rds x).length none ∧ σ = ⟨t', h3 X B w (us (rds x) ++ cs)⟩
theorem c_Reads (hT : TabOk Tryz.prog tab) (x : In) (hx : InOk x) {t : Nat} {X : Option Ob} : C Tryz.prog G0 0 n_rv_Reads [.agg (inC x)] ⟨t, [X]⟩ (rdQ X x) := by
  have hE := c_Encode hT x hx
  obtain ⟨ho, hd, h1, h2, hi⟩ := hx
  refine C_tab hT t_rv_Reads (by simp [rv_Reads]) (W_run 1000 ?_)
  simp -implicitDefEqProofs (disch := omega) only [go_sem, ↓reduceIte, reduceCtorEq, Nat.reduceAdd, Nat.reduceEqDiff, Nat.zero_add, Nat.le_refl, rv_Reads, zq2w_0, zq2w_1, zq2w_2, zq2w_3, zq2w_4, zq2w_5, zq2w_6, zq2w_7, inC, false_implies, and_true, List.cons_append, List.nil_append, List.length_cons, List.length_nil]
  refine callPS hT t_rv_Encode hE rfl 1000 ?_
  by_cases hok : (enc T x).2 = 0
  · have hr : rds x = readsL x.rs1 x.rs2 := if_pos hok
    simp -implicitDefEqProofs (disch := omega) only [go_sem, ↓reduceIte, reduceCtorEq, Nat.reduceAdd, Nat.reduceEqDiff, Nat.reduceLeDiff, Nat.reduceLT, Nat.zero_add, Nat.le_refl, bne_self_eq_false, true_implies, and_true, List.cons_append, List.nil_append, List.length_cons, List.length_nil, hok]
    have hS := fun (t w : Nat) (B : Option Ob) => c_Sort2 (P := Tryz.prog) (G := G0) hT (t := t) (w := w) (X := X) (B := B) x.rs1 x.rs2
    simp only [h3] at hS
    refine call hT t_slices_Sort_uint8_uint8 (hS _ _ _) 40 fun v σ hv => ?_
    obtain ⟨rfl, rfl⟩ := hv
    rcases Int.lt_trichotomy x.rs1 x.rs2 with hlt | heq | hgt
    · have hz := readsL_lt hlt h1.1
      rw [if_neg (by omega)]
      simp -implicitDefEqProofs (disch := omega) only [go_sem, ↓reduceIte, reduceCtorEq, Nat.reduceEqDiff]
      have hK := fun (t w : Nat) (B : Option Ob) => c_Compact2 (P := Tryz.prog) (G := G0) hT (t := t) (w := w) (X := X) (B := B) x.rs1 x.rs2
      have hD := fun (t w : Nat) (B : Option Ob) => c_Del2 (P := Tryz.prog) (G := G0) hT (t := t) (w := w) (X := X) (B := B) x.rs1 x.rs2 hlt h1.1
      simp only [h3] at hK hD
      refine call hT t_slices_Compact_uint8_uint8 (hK _ _ _) 40 fun v σ hv => ?_
      rcases hv with ⟨he, _, _⟩ | ⟨_, rfl, rfl⟩
      · omega
      simp -implicitDefEqProofs (disch := omega) only [go_sem, ↓reduceIte, reduceCtorEq, Nat.reduceEqDiff]
      refine call hT t_slices_DeleteFunc_uint8_uint8 (hD _ _ _) 40 fun v σ hv => ?_
      obtain ⟨t', _, ⟨h0, rfl, rfl⟩ | ⟨h0, rfl, rfl⟩⟩ := hv
      · rw [if_pos h0] at hz
        simp -implicitDefEqProofs (disch := omega) only [go_sem, ↓reduceIte, reduceCtorEq, Nat.reduceEqDiff]
        exact .inr ⟨t', _, _, [.int .u8 0], rfl, by rw [hr, hz]; rfl, by rw [hr, hz]; rfl⟩
      · rw [if_neg h0] at hz
        simp -implicitDefEqProofs (disch := omega) only [go_sem, ↓reduceIte, reduceCtorEq, Nat.reduceEqDiff]
        exact .inr ⟨t', _, _, [], rfl, by rw [hr, hz]; rfl, by rw [hr, hz]; rfl⟩
    · have hz := readsL_eq h1.1
      rw [if_neg (by omega)]
      rw [← heq] at hr ⊢
      simp -implicitDefEqProofs (disch := omega) only [go_sem, ↓reduceIte, reduceCtorEq, Nat.reduceEqDiff]
      have hK := fun (t w : Nat) (B : Option Ob) => c_Compact2 (P := Tryz.prog) (G := G0) hT (t := t) (w := w) (X := X) (B := B) x.rs1 x.rs1
      have hD := fun (t w : Nat) (B : Option Ob) => c_Del1 (P := Tryz.prog) (G := G0) hT (t := t) (w := w) (X := X) (B := B) x.rs1 0
      simp only [h3] at hK hD
      refine call hT t_slices_Compact_uint8_uint8 (hK _ _ _) 40 fun v σ hv => ?_
      rcases hv with ⟨_, rfl, rfl⟩ | ⟨he, _, _⟩
      · simp -implicitDefEqProofs (disch := omega) only [go_sem, ↓reduceIte, reduceCtorEq, Nat.reduceEqDiff]
        refine call hT t_slices_DeleteFunc_uint8_uint8 (hD _ _ _) 40 fun v σ hv => ?_
        obtain ⟨t', _, ⟨h0, rfl, rfl⟩ | ⟨h0, rfl, rfl⟩⟩ := hv
        · rw [if_pos h0] at hz
          simp -implicitDefEqProofs (disch := omega) only [go_sem, ↓reduceIte, reduceCtorEq, Nat.reduceEqDiff]
          exact .inr ⟨t', _, _, [.int .u8 0, .int .u8 0], rfl, by rw [hr, hz]; rfl, by rw [hr, hz]; rfl⟩
        · rw [if_neg h0] at hz
          simp -implicitDefEqProofs (disch := omega) only [go_sem, ↓reduceIte, reduceCtorEq, Nat.reduceEqDiff]
          exact .inr ⟨t', _, _, [.int .u8 0], rfl, by rw [hr, hz]; rfl, by rw [hr, hz]; rfl⟩
      · exact absurd rfl he
    · have hz := readsL_lt hgt h2.1
      rw [readsL_comm] at hr
      rw [if_pos hgt]
      simp -implicitDefEqProofs (disch := omega) only [go_sem, ↓reduceIte, reduceCtorEq, Nat.reduceEqDiff]
      have hK := fun (t w : Nat) (B : Option Ob) => c_Compact2 (P := Tryz.prog) (G := G0) hT (t := t) (w := w) (X := X) (B := B) x.rs2 x.rs1
      have hD := fun (t w : Nat) (B : Option Ob) => c_Del2 (P := Tryz.prog) (G := G0) hT (t := t) (w := w) (X := X) (B := B) x.rs2 x.rs1 hgt h2.1
      simp only [h3] at hK hD
      refine call hT t_slices_Compact_uint8_uint8 (hK _ _ _) 40 fun v σ hv => ?_
      rcases hv with ⟨he, _, _⟩ | ⟨_, rfl, rfl⟩
      · omega
      simp -implicitDefEqProofs (disch := omega) only [go_sem, ↓reduceIte, reduceCtorEq, Nat.reduceEqDiff]
      refine call hT t_slices_DeleteFunc_uint8_uint8 (hD _ _ _) 40 fun v σ hv => ?_
      obtain ⟨t', _, ⟨h0, rfl, rfl⟩ | ⟨h0, rfl, rfl⟩⟩ := hv
      · rw [if_pos h0] at hz
        simp -implicitDefEqProofs (disch := omega) only [go_sem, ↓reduceIte, reduceCtorEq, Nat.reduceEqDiff]
        exact .inr ⟨t', _, _, [.int .u8 0], rfl, by rw [hr, hz]; rfl, by rw [hr, hz]; rfl⟩
      · rw [if_neg h0] at hz
        simp -implicitDefEqProofs (disch := omega) only [go_sem, ↓reduceIte, reduceCtorEq, Nat.reduceEqDiff]
        exact .inr ⟨t', _, _, [], rfl, by rw [hr, hz]; rfl, by rw [hr, hz]; rfl⟩
  · have hok' : ((enc T x).2 = 0) = False := eq_false hok
    have hr : rds x = [] := if_neg hok
    simp -implicitDefEqProofs (disch := omega) only [go_sem, ↓reduceIte, reduceCtorEq, Nat.reduceAdd, Nat.reduceEqDiff, Nat.reduceLeDiff, Nat.reduceLT, Nat.zero_add, Nat.le_refl, false_implies, true_implies, and_true, not_false_eq_true, List.cons_append, List.nil_append, List.length_cons, List.length_nil, hok']
    exact .inl ⟨hr, rfl, _, _, rfl⟩
theorem rds_len (x : In) : (rds x).length ≤ 2 := by
  unfold rds readsL
  split
  · split <;> split <;> simp
  · simp
end Go.Proofs.YtaidbdgndljaeaaGreatDoor
