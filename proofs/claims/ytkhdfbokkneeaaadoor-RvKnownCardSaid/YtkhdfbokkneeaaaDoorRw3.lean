/- Numbers in words: walked. -/
import Derived.Test.YtkhdfbokkneeaaaDoorRw2
namespace Go.Proofs.YtkhdfbokkneeaaaDoor
open Go Go.Am Go.Rv
set_option maxRecDepth 100000
variable {P : Program} {G : Nat → Option V}

theorem fld_lt (w : Int) (a m : Nat) : 0 ≤ fld w a m ∧ fld w a m < 2 ^ m := by
  have := (pow_lt m m (Nat.le_refl _)).1
  exact ⟨Int.emod_nonneg _ (by omega), Int.emod_lt_of_pos _ (by omega)⟩
theorem accP_take {w : Int} {l : List (Nat × Nat)} {i : Nat} {p : Nat × Nat} (h : l[i]? = some p) (z : Int) : accP w (l.take (i + 1)) z = accP w (l.take i) z * 2 ^ p.2 + fld w p.1 p.2 := by
  rw [List.take_add_one, h]; simp [accP]
theorem accP_lt (w : Int) (l : List (Nat × Nat)) : ∀ i, 0 ≤ accP w (l.take i) 0 ∧ accP w (l.take i) 0 < 2 ^ widthP (l.take i) 0 := by
  intro i
  induction i with
  | zero => simp [accP, widthP]
  | succ i ih =>
    cases h : l[i]? with
    | none => rw [List.take_of_length_le (by have := List.getElem?_eq_none_iff.1 h; omega)]; rw [List.take_of_length_le (by have := List.getElem?_eq_none_iff.1 h; omega)] at ih; exact ih
    | some p =>
      rw [accP_take h, widthP_take h]
      obtain ⟨f1, f2⟩ := fld_lt w p.1 p.2
      obtain ⟨g1, _⟩ := pow_lt p.2 p.2 (Nat.le_refl _)
      constructor
      · have := Int.mul_nonneg ih.1 (show (0 : Int) ≤ 2 ^ p.2 by omega); omega
      · rw [Int.pow_add]
        have h1 : accP w (l.take i) 0 + 1 ≤ 2 ^ widthP (l.take i) 0 := by omega
        have := Int.mul_le_mul_of_nonneg_right h1 (show (0 : Int) ≤ 2 ^ p.2 by omega)
        rw [Int.add_mul] at this
        omega
theorem width_take (l : List (Nat × Nat)) (i : Nat) : widthP (l.take i) 0 ≤ widthP l 0 := by
  have key : ∀ (l : List (Nat × Nat)) (a b : Nat), a ≤ b → a ≤ widthP l b := by
    intro l
    induction l with
    | nil => intro a b h; exact h
    | cons p l ih => intro a b h; exact ih a (b + p.2) (by omega)
  have : widthP l 0 = widthP (l.drop i) (widthP (l.take i) 0) := by
    conv => lhs; rw [← List.take_append_drop i l]
    rw [widthP, List.foldl_append]; rfl
  rw [this]
  exact key _ _ _ (Nat.le_refl _)

/-- The next number. -/
theorem num_step {w : Int} {l : List (Nat × Nat)} {i : Nat} {p : Nat × Nat} (h : l[i]? = some p) (hl : widthP l 0 ≤ 60) (hp : p.2 ≤ 30) :
    IntKind.i64.wrap (BitVec.ofInt 64 (IntKind.i64.wrap (accP w (l.take i) 0 * 2 ^ min p.2 64)) ||| BitVec.ofInt 64 (IntKind.i64.wrap (fld w p.1 p.2))).toNat = accP w (l.take (i + 1)) 0 := by
  have e1 : min p.2 64 = p.2 := by omega
  obtain ⟨f1, f2⟩ := fld_lt w p.1 p.2
  obtain ⟨g1, g2⟩ := pow_lt p.2 30 hp
  have hb := accP_lt w l (i + 1)
  have hw := width_take l (i + 1)
  obtain ⟨_, q2⟩ := pow_lt (widthP (l.take (i + 1)) 0) 60 (by omega)
  have hb0 := accP_lt w l i
  rw [accP_take h] at hb ⊢
  have hm := Int.mul_nonneg hb0.1 (show (0 : Int) ≤ 2 ^ p.2 by omega)
  rw [e1, wrap_i64 (x := accP w (l.take i) 0 * 2 ^ p.2) (by omega) (by omega), wrap_i64 (x := fld w p.1 p.2) (by omega) (by omega)]
  exact or_add .i64 p.2 _ _ hm f1 f2 (Int.mul_emod_left _ _) (by simp [IntKind.max, IntKind.signed, IntKind.bits]; omega)

theorem sgn_shift {n : Int} {b : Nat} (h0 : 0 ≤ n) (h1 : n < 2 ^ b) (hb : 1 ≤ b) (hb2 : b ≤ 60) : (IntKind.i64.wrap (n * 2 ^ (64 - b))).fdiv (2 ^ (64 - b)) = sgn n b := by
  obtain ⟨s1, _⟩ := pow_lt (64 - b) 64 (by omega)
  have hp : (2 : Int) ^ b = 2 * 2 ^ (b - 1) := by
    have : b = (b - 1) + 1 := by omega
    conv => lhs; rw [this, Int.pow_succ]
    omega
  have hsp : (2 : Int) ^ (64 - b) * 2 ^ (b - 1) = 9223372036854775808 := by
    rw [← Int.pow_add]
    have : 64 - b + (b - 1) = 63 := by omega
    rw [this]; rfl
  unfold sgn
  rw [Int.fdiv_eq_ediv_of_nonneg _ (by omega)]
  generalize hs : (2 : Int) ^ (64 - b) = s at *
  generalize hq : (2 : Int) ^ (b - 1) = q at *
  rw [hp] at h1 ⊢
  split
  · rename_i hge
    have e : IntKind.i64.wrap (n * s) = (n - 2 * q) * s := by
      have a1 := Int.mul_le_mul_of_nonneg_right hge (show 0 ≤ s by omega)
      have a2 := Int.mul_le_mul_of_nonneg_right (show n + 1 ≤ 2 * q by omega) (show 0 ≤ s by omega)
      rw [Int.add_mul] at a2
      rw [Int.sub_mul, Int.mul_assoc 2 q s, Int.mul_comm q s, hsp]
      rw [Int.mul_assoc 2 q s, Int.mul_comm q s, hsp] at a2
      rw [Int.mul_comm q s, hsp] at a1
      unfold IntKind.wrap
      simp [IntKind.bits, IntKind.signed]
      omega
    rw [e, Int.mul_ediv_cancel _ (by omega)]
  · rename_i hlt
    have a1 := Int.mul_le_mul_of_nonneg_right (show n + 1 ≤ q by omega) (show 0 ≤ s by omega)
    rw [Int.add_mul, Int.mul_comm q s, hsp] at a1
    have a2 := Int.mul_nonneg h0 (show 0 ≤ s by omega)
    rw [wrap_i64 (by omega) (by omega), Int.mul_ediv_cancel _ (by omega)]

theorem c_number (hT : TabOk P tab) (a b c : Bool) (l : List (Nat × Nat)) (z : Nat) (sg : Bool) (m w : Int) (hl : l.length ≤ 4) (hb : ∀ p ∈ l, p.1 ≤ 31 ∧ p.2 ≤ 30) (hz : z ≤ 30) (hwd : widthP l 0 + z ≤ 60) (hwz : widthP l z = widthP l 0 + z) (hsg : sg = true → 1 ≤ widthP l z) (hw : u32 w) :
    Pure P G n_rv_form_number [.agg (frm a b c l z sg m), .int .u32 w] fun v => v = .int .i64 (if sg then sgn (accP w l 0 * 2 ^ z) (widthP l z) else accP w l 0 * 2 ^ z) := by
  intro t
  obtain ⟨y, hy, hyl⟩ := bitsV_len l
  refine C_keep 0 (Nat.zero_le _) (C_tab hT t_rv_form_number (by simp [rv_form_number]) (W_run 1000 ?_))
  simp -implicitDefEqProofs (disch := omega) only [go_sem, ↓reduceIte, reduceCtorEq, Nat.reduceAdd, Nat.reduceEqDiff, Nat.reduceLeDiff, Nat.zero_add, rv_form_number, rv_form_number_r0, rv_form_number_r1, rv_form_number_r2, rv_form_number_r3, rv_form_number_r4, rv_form_number_r5, rv_form_number_r6, rv_form_number_r7, rv_form_number_r8, rv_form_number_r9, rv_form_number_r10, frm, hy, List.length_map]
  refine sem_inv (fun n fr σ => ∃ i t', i ≤ l.length ∧ n = l.length - i ∧ fget fr 1 = .int .u32 w ∧ fget fr 2 = .ptr 0 t 0 ∧ fget fr 5 = .int .i64 (accP w (l.take i) 0) ∧ fget fr 9 = .lst y (l.map fun b => pr b.1 b.2) true ∧ fget fr 10 = .int .i64 l.length ∧ fget fr 11 = .int .i64 i ∧
     σ = ⟨t', [some (.arr t 46 (frm a b c l z sg m))]⟩) (fun n fr σ hJ => ?_) (m0 := l.length) ⟨0, t + 1, Nat.zero_le _, rfl, ?_⟩
  · obtain ⟨i, t', hi, rfl, f1, f2, f5, f9, f10, f11, rfl⟩ := hJ
    refine W_run 1000 ?_
    rcases Nat.lt_or_ge i l.length with hlt | hge
    · have hy2 : y = 2 := by rcases hyl with h | h; exact h; rw [h] at hlt; simp at hlt
      subst hy2
      obtain ⟨p, hp⟩ : ∃ p, l[i]? = some p := ⟨_, List.getElem?_eq_getElem hlt⟩
      have hpb := hb p (List.mem_of_getElem? hp)
      have hg : (l.map fun b => pr b.1 b.2).getD i .any = .agg [.int .i64 p.1, .int .i64 p.2] := by simp [List.getD_eq_getElem?_getD, hp, pr]
      have e1 := num_step (w := w) hp (by omega) hpb.2
      have e2 := wrap_next hlt (by omega)
      simp -implicitDefEqProofs (disch := omega) only [go_sem, need_of, ↓reduceIte, reduceCtorEq, Nat.reduceAdd, Nat.reduceEqDiff, Nat.zero_add, decide_true, Bool.not_false, Nat.le_refl, Nat.zero_le, frm, hy, List.length_map, f1, f5, f9, f10, f11, hlt, hg]
      refine callP hT t_rv_bits_of (c_of hT w p.1 p.2 hw hpb.1 hpb.2) rfl 1000 fun v hv => ?_
      subst hv
      simp -implicitDefEqProofs (disch := omega) only [go_sem, ↓reduceIte, Nat.reduceEqDiff, f11]
      refine ⟨l.length - (i + 1), _, _, by omega, Shift.drop (o' := [some (.arr t 46 (frm a b c l z sg m))]) (t' := t' + 1) (by simp [subObs, frm, hy]) (Nat.le_refl _) (Nat.zero_le _), i + 1, t' + 1, hlt, rfl, ?_⟩
      simp -implicitDefEqProofs (disch := omega) only [go_sem, ↓reduceIte, Nat.reduceEqDiff, frm, hy, f1, f2, f9, f10, e2]
      exact congrArg (V.int .i64) e1
    · have hi : i = l.length := by omega
      subst hi
      rw [List.take_length] at f5
      have hac := accP_lt w l l.length
      rw [List.take_length] at hac
      simp -implicitDefEqProofs (disch := omega) only [go_sem, ↓reduceIte, decide_false, f10, f11, show ¬ l.length < l.length from by omega]
      refine run_sem 1000 ?_
      have ez : min z 64 = z := by omega
      obtain ⟨g1, g2⟩ := pow_lt (widthP l 0 + z) 60 hwd
      obtain ⟨y1, _⟩ := pow_lt z 30 hz
      have h1 := Int.mul_le_mul_of_nonneg_right (show accP w l 0 + 1 ≤ 2 ^ widthP l 0 by omega) (show (0 : Int) ≤ 2 ^ z by omega)
      rw [Int.add_mul, ← Int.pow_add] at h1
      have h2 := Int.mul_nonneg hac.1 (show (0 : Int) ≤ 2 ^ z by omega)
      have e3 : IntKind.i64.wrap (accP w l 0 * 2 ^ z) = accP w l 0 * 2 ^ z := wrap_i64 (by omega) (by omega)
      cases sg with
      | false => simp -implicitDefEqProofs (disch := omega) only [go_sem, need_of, ↓reduceIte, Nat.reduceAdd, Nat.reduceEqDiff, Nat.reduceLeDiff, Nat.zero_add, Nat.zero_le, f2, f5, frm, hy, ez, e3]
      | true =>
        have cw := c_width (G := G) hT a b c l z true m hl (fun p hp => (hb p hp).2) hz
        simp only [frm, hy] at cw
        have hwd1 := hsg rfl
        have e4 : IntKind.i64.wrap (64 - (widthP l z : Int)) = ((64 - widthP l z : Nat) : Int) := by rw [wrap_i64 (by omega) (by omega)]; omega
        have e5 := sgn_shift (n := accP w l 0 * 2 ^ z) (b := widthP l z) h2 (by rw [hwz]; omega) hwd1 (by omega)
        have e6 : min (64 - widthP l z) 64 = 64 - widthP l z := by omega
        have e7 : (0 : Int) ≤ ((64 - widthP l z : Nat) : Int) := by omega
        simp -implicitDefEqProofs (disch := omega) only [go_sem, need_of, ↓reduceIte, reduceCtorEq, Nat.reduceAdd, Nat.reduceEqDiff, Nat.reduceLeDiff, Nat.zero_add, Nat.le_refl, f2, f5, frm, hy, ez, e3]
        refine callP hT t_rv_form_width cw rfl 1000 fun v hv => ?_
        subst hv
        simp -implicitDefEqProofs (disch := omega) only [go_sem, ↓reduceIte, Nat.reduceEqDiff, e4, e6, e7, Int.toNat_natCast]
        refine callP hT t_rv_form_width cw rfl 1000 fun v hv => ?_
        subst hv
        simp -implicitDefEqProofs (disch := omega) only [go_sem, ↓reduceIte, Nat.reduceEqDiff, Nat.zero_add, Nat.zero_le, e4, e6, e7, Int.toNat_natCast, e5]
  · simp -implicitDefEqProofs (disch := omega) only [go_sem, ↓reduceIte, reduceCtorEq, Nat.reduceEqDiff, frm, hy]
    simp [accP]
end Go.Proofs.YtkhdfbokkneeaaaDoor
