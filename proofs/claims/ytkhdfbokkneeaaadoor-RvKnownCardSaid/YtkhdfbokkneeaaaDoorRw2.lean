/- The program's forms: walked. -/
import Derived.Test.YtkhdfbokkneeaaaDoorRw1
namespace Go.Proofs.YtkhdfbokkneeaaaDoor
open Go Go.Am Go.Rv
set_option maxRecDepth 100000
variable {P : Program} {G : Nat → Option V}

def u32 (w : Int) : Prop := 0 ≤ w ∧ w < 4294967296
def frm (a b c : Bool) (l : List (Nat × Nat)) (z : Nat) (sg : Bool) (m : Int) : List V := [.bool a, .bool b, .bool c, bitsV l, .int .i64 z, .bool sg, .int .u32 m]

theorem pow_lt (m k : Nat) (h : m ≤ k) : (1 : Int) ≤ 2 ^ m ∧ (2 : Int) ^ m ≤ 2 ^ k := by
  have h1 := Nat.pow_le_pow_right (n := 2) (by omega) h
  have h2 : 0 < 2 ^ m := Nat.pow_pos (by omega)
  constructor
  · exact_mod_cast h2
  · exact_mod_cast h1

theorem bits_fld {w : Int} {a m : Nat} (hw : u32 w) (ha : a ≤ 31) (hm : m ≤ 30) :
    IntKind.u32.wrap (BitVec.ofInt 32 (w.fdiv (2 ^ min a 32)) &&& BitVec.ofInt 32 (IntKind.u32.wrap (IntKind.u32.wrap (1 * 2 ^ min m 32) - 1))).toNat = fld w a m := by
  have e1 : min a 32 = a := by omega
  have e2 : min m 32 = m := by omega
  obtain ⟨p1, p2⟩ := pow_lt m 30 hm
  have e3 : IntKind.u32.wrap (1 * 2 ^ m) = 2 ^ m := by
    rw [Int.one_mul]; exact wrap_id _ (by simp [IntKind.min, IntKind.signed]; omega) (by simp [IntKind.max, IntKind.signed, IntKind.bits]; omega)
  have e4 : IntKind.u32.wrap (2 ^ m - 1) = 2 ^ m - 1 := wrap_id _ (by simp [IntKind.min, IntKind.signed]; omega) (by simp [IntKind.max, IntKind.signed, IntKind.bits]; omega)
  obtain ⟨q1, q2⟩ := pow_lt a 31 ha
  rw [e1, e2, e3, e4, Int.fdiv_eq_ediv_of_nonneg _ (by omega)]
  exact and_low .u32 m _ _ rfl (by simp [IntKind.bits]; omega)

theorem c_of (hT : TabOk P tab) (w : Int) (a m : Nat) (hw : u32 w) (ha : a ≤ 31) (hm : m ≤ 30) : Pure P G n_rv_bits_of [pr a m, .int .u32 w] fun v => v = .int .u32 (fld w a m) := by
  intro t
  refine C_keep 0 (Nat.zero_le _) (C_tab hT t_rv_bits_of (by simp [rv_bits_of]) (W_run 1000 ?_))
  simp -implicitDefEqProofs (disch := omega) only [go_sem, need_of, ↓reduceIte, reduceCtorEq, Nat.reduceAdd, Nat.reduceEqDiff, Nat.reduceLeDiff, Nat.zero_add, Nat.add_zero, Nat.le_refl, Nat.zero_le, rv_bits_of, rv_bits_of_r0, rv_bits_of_r1, pr]
  exact congrArg (V.int .u32) (bits_fld hw ha hm)

theorem bitsV_len (l : List (Nat × Nat)) : ∃ z, bitsV l = .lst z (l.map fun b => pr b.1 b.2) true ∧ (z = 2 ∨ l = []) := by
  cases l with
  | nil => exact ⟨0, rfl, .inr rfl⟩
  | cons b l => exact ⟨2, rfl, .inl rfl⟩

theorem fold_le {l : List (Nat × Nat)} (hb : ∀ p ∈ l, p.2 ≤ 30) (z : Nat) : widthP l z ≤ z + 30 * l.length := by
  induction l generalizing z with
  | nil => simp [widthP]
  | cons p l ih =>
    have h1 := hb p List.mem_cons_self
    have := ih (fun q hq => hb q (List.mem_cons_of_mem _ hq)) (z + p.2)
    simp only [widthP, List.foldl_cons, List.length_cons] at this ⊢
    omega
theorem widthP_take {l : List (Nat × Nat)} {i : Nat} {p : Nat × Nat} (h : l[i]? = some p) (z : Nat) : widthP (l.take (i + 1)) z = widthP (l.take i) z + p.2 := by
  rw [List.take_add_one, h]; simp [widthP]
theorem wrap_i64 {x : Int} (h1 : -9223372036854775808 ≤ x) (h2 : x ≤ 9223372036854775807) : IntKind.i64.wrap x = x := wrap_id _ (by simpa [IntKind.min, IntKind.signed, IntKind.bits] using h1) (by simpa [IntKind.max, IntKind.signed, IntKind.bits] using h2)
theorem wrap_next {i n : Nat} (h : i < n) (hn : n ≤ 1000000000) : IntKind.i64.wrap ((i : Int) + 1) = ((i + 1 : Nat) : Int) := by rw [wrap_i64 (by omega) (by omega)]; rfl

theorem c_width (hT : TabOk P tab) (a b c : Bool) (l : List (Nat × Nat)) (z : Nat) (sg : Bool) (m : Int) (hl : l.length ≤ 4) (hb : ∀ p ∈ l, p.2 ≤ 30) (hz : z ≤ 30) :
    Pure P G n_rv_form_width [.agg (frm a b c l z sg m)] fun v => v = .int .i64 (widthP l z) := by
  intro t
  obtain ⟨y, hy, hyl⟩ := bitsV_len l
  refine C_keep 0 (Nat.zero_le _) (C_tab hT t_rv_form_width (by simp [rv_form_width]) (W_run 1000 ?_))
  simp -implicitDefEqProofs (disch := omega) only [go_sem, ↓reduceIte, reduceCtorEq, Nat.reduceAdd, Nat.reduceEqDiff, Nat.reduceLeDiff, Nat.zero_add, rv_form_width, rv_form_width_r0, rv_form_width_r1, rv_form_width_r2, rv_form_width_r3, rv_form_width_r4, rv_form_width_r5, rv_form_width_r6, rv_form_width_r7, frm, hy, List.length_map]
  refine sem_inv (fun n fr σ => ∃ i t', i ≤ l.length ∧ n = l.length - i ∧ fget fr 3 = .int .i64 (widthP (l.take i) z) ∧ fget fr 9 = .lst y (l.map fun b => pr b.1 b.2) true ∧ fget fr 10 = .int .i64 l.length ∧ fget fr 11 = .int .i64 i ∧
     σ = ⟨t', [some (.arr t 46 (frm a b c l z sg m))]⟩) (fun n fr σ hJ => ?_) (m0 := l.length) ⟨0, t + 1, Nat.zero_le _, rfl, ?_⟩
  · obtain ⟨i, t', hi, rfl, f3, f9, f10, f11, rfl⟩ := hJ
    refine W_run 1000 ?_
    rcases Nat.lt_or_ge i l.length with hlt | hge
    · have hy2 : y = 2 := by rcases hyl with h | h; exact h; rw [h] at hlt; simp at hlt
      subst hy2
      obtain ⟨p, hp⟩ : ∃ p, l[i]? = some p := ⟨_, List.getElem?_eq_getElem hlt⟩
      have hg : (l.map fun b => pr b.1 b.2).getD i .any = .agg [.int .i64 p.1, .int .i64 p.2] := by simp [List.getD_eq_getElem?_getD, hp, pr]
      have hw := fold_le (l := l.take (i + 1)) (fun q hq => hb q (List.mem_of_mem_take hq)) z
      have hw2 : (l.take (i + 1)).length ≤ 4 := by simp; omega
      rw [widthP_take hp] at hw
      have e1 : IntKind.i64.wrap ((widthP (l.take i) z : Int) + (p.2 : Int)) = ((widthP (l.take (i + 1)) z : Nat) : Int) := by rw [widthP_take hp, wrap_i64 (by omega) (by omega)]; push_cast; rfl
      have e2 := wrap_next hlt (by omega)
      simp -implicitDefEqProofs (disch := omega) only [go_sem, need_of, ↓reduceIte, reduceCtorEq, Nat.reduceAdd, Nat.reduceEqDiff, Nat.zero_add, decide_true, Bool.not_false, Nat.le_refl, Nat.zero_le, frm, hy, List.length_map, f3, f9, f10, f11, hlt, hg]
      refine ⟨l.length - (i + 1), _, _, by omega, Shift.drop (o' := [some (.arr t 46 (frm a b c l z sg m))]) (t' := t' + 1) (by simp [subObs, frm, hy]) (Nat.le_refl _) (Nat.zero_le _), i + 1, t' + 1, hlt, rfl, ?_⟩
      simp -implicitDefEqProofs (disch := omega) only [go_sem, ↓reduceIte, Nat.reduceEqDiff, frm, hy, f9, f10, e1, e2]
    · simp -implicitDefEqProofs (disch := omega) only [go_sem, ↓reduceIte, decide_false, f10, f11, show ¬ i < l.length from by omega]
      have hi : i = l.length := by omega
      subst hi
      rw [List.take_length] at f3
      refine run_sem 1000 ?_
      simp -implicitDefEqProofs (disch := omega) only [go_sem, ↓reduceIte, Nat.reduceEqDiff, Nat.zero_add, Nat.zero_le, f3]
  · simp -implicitDefEqProofs (disch := omega) only [go_sem, ↓reduceIte, reduceCtorEq, Nat.reduceEqDiff, frm, hy]
    simp [widthP]
end Go.Proofs.YtkhdfbokkneeaaaDoor
