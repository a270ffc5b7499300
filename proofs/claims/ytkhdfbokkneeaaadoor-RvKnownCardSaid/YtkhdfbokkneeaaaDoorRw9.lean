/- Decode: walked. -/
import Derived.Test.YtkhdfbokkneeaaaDoorRw8
import Derived.Test.YtkhdfbokkneeaaaDoorRvS3
namespace Go.Proofs.YtkhdfbokkneeaaaDoor
open Go Go.Am Go.Rv
set_option maxRecDepth 100000

theorem c_numF {P : Program} {G : Nat → Option V} (hT : TabOk P tab) {f w : Int} (hf : f = 82 ∨ f = 87 ∨ f = 73 ∨ f = 72 ∨ f = 83 ∨ f = 66 ∨ f = 85 ∨ f = 74 ∨ f = 69) (hw : u32 w) :
    Pure P G n_rv_form_number [.agg (formC f), .int .u32 w] fun v => v = .int .i64 (number w f) := by
  have h := c_number (G := G) hT (hasRd f) (hasR1 f) (hasR2 f) (bitsOf f) (nghts f) (isSgn f) (maskOf f) w
    (by rcases hf with h | h | h | h | h | h | h | h | h <;> rw [h] <;> decide) (by rcases hf with h | h | h | h | h | h | h | h | h <;> rw [h] <;> decide)
    (by rcases hf with h | h | h | h | h | h | h | h | h <;> rw [h] <;> decide) (by rcases hf with h | h | h | h | h | h | h | h | h <;> rw [h] <;> decide)
    (by rcases hf with h | h | h | h | h | h | h | h | h <;> rw [h] <;> decide) (by rcases hf with h | h | h | h | h | h | h | h | h <;> rw [h] <;> decide) hw
  have e := numP_eq w hf
  unfold numP at e
  simp only at e
  rw [e] at h
  exact h

def errT (o : Option In) : List V := match o with
  | some x => [.agg (inC x), .int .i64 0]
  | none => [.agg (inC ⟨0, 0, 0, 0, 0⟩), .int .i64 100]

def dH (tb rc : List V) (t t2 : Nat) (a b c : Bool) (w op rd r1 r2 im : Int) : List (Option Ob) :=
  [some (.arr t 22 [.int .u32 w]), some (.arr (t + 1) 24 [.int .u8 0, .int .u8 0, .int .u8 0, .int .u8 0, .int .i64 0]), some (.arr (t + 1 + 1) 49 tb), some (.arr t2 48 rc),
   some (.arr (t2 + 1) 24 [.int .u8 op, .int .u8 rd, .int .u8 r1, .int .u8 r2, .int .i64 im]),
   some (.arr (t2 + 1 + 1) 58 [.bool a, .ptr 4 (t2 + 1) 1, .int .i64 7, .int .i64 5, .bool b, .ptr 4 (t2 + 1) 2, .int .i64 15, .int .i64 5, .bool c, .ptr 4 (t2 + 1) 3, .int .i64 20, .int .i64 5])]
theorem wrap_fld5 (w : Int) (a : Nat) : IntKind.u8.wrap (fld w a 5) = fld w a 5 := by
  have := fld_lt w a 5
  exact wrap_id _ (by simp [IntKind.min, IntKind.signed]; omega) (by simp [IntKind.max, IntKind.signed, IntKind.bits]; omega)

theorem c_Decode (hT : TabOk Tryd.prog tab) (w : Int) (h0 : 0 ≤ w) (h1 : w < 4294967296) : Pure Tryd.prog G0 n_rv_Decode [.int .u32 w] fun v => v = .tup (errT (first w 0 T)) := by
  intro t
  obtain ⟨tb, htb⟩ : ∃ tb, tb = tabC := ⟨_, rfl⟩
  have ct := c_table hT
  rw [← htb] at ct
  have ok : TbOk tb := by rw [htb]; exact tbOk
  have hnl : namelessL tb = true := by rw [htb]; exact tabC_nameless
  clear htb
  have hl := ok.len
  have ho := ok.ones
  refine C_keep 0 (Nat.zero_le _) (C_tab hT t_rv_Decode (by simp [rv_Decode]) (W_run 1000 ?_))
  simp -implicitDefEqProofs (disch := omega) only [go_sem, ↓reduceIte, reduceCtorEq, Nat.reduceEqDiff, Nat.zero_add, rv_Decode, rv_Decode_r0, rv_Decode_r1, rv_Decode_r2, rv_Decode_r3, rv_Decode_r4, rv_Decode_r5, rv_Decode_r6, rv_Decode_r7, rv_Decode_r8, rv_Decode_r9, rv_Decode_r10, rv_Decode_r11, rv_Decode_r12, rv_Decode_r13]
  refine callP hT t_rv_table ct (by simp [namelessL]) 1000 fun v hv => ?_
  subst hv
  simp -implicitDefEqProofs (disch := omega) only [go_sem, ↓reduceIte, reduceCtorEq, Nat.reduceAdd, Nat.reduceEqDiff, Nat.reduceSub, Nat.reduceMul, Nat.zero_add, Nat.add_zero, Nat.zero_mul, Bool.not_false, Nat.le_refl, Nat.zero_le, hl, ho]
  have hx := c_IndexFunc (G := G0) hT ok (base := 0) (b := t) (v1 := t + 1) (v2 := t + 1 + 1) (t := t + 1 + 1 + 1) w h0 h1 (some 66) (Nat.zero_le _)
  simp only [hD] at hx
  refine call hT t_slices_IndexFunc_rv_row_rv_row hx 1000 fun v σ hv => ?_
  obtain ⟨j, rfl, hj, t2, ht2, rfl⟩ := hv
  rcases hj with ⟨rfl, hno⟩ | ⟨k, r, rfl, hk, his, hfi⟩
  · simp -implicitDefEqProofs (disch := omega) only [go_sem, ↓reduceIte, reduceCtorEq, Nat.reduceAdd, Nat.reduceEqDiff, Int.reduceLT, Nat.zero_add, decide_true, Bool.not_false, Nat.le_refl, Nat.zero_le]
    rw [hno]
    rfl
  · have hkl : k < 65 := by have := (List.getElem?_eq_some_iff.1 hk).1; rw [T_len] at this; exact this
    have hg := ok.get (k + 1) (by omega)
    have hgd : T.getD (k + 1 - 1) ⟨0, [], 0, 0, 0⟩ = r := by rw [Nat.add_sub_cancel, List.getD_eq_getElem?_getD, hk]; rfl
    rw [if_neg (by omega), hgd] at hg
    have hf := forms (T_good r (List.mem_of_getElem? hk))
    obtain ⟨y, hy, _⟩ := bitsV_len (bitsOf r.form)
    have hrc : rowC r = [.bool (hasRd r.form), .bool (hasR1 r.form), .bool (hasR2 r.form), .lst y ((bitsOf r.form).map fun b => pr b.1 b.2) true, .int .i64 (nghts r.form), .bool (isSgn r.form), .int .u32 (maskOf r.form), .str r.name, .int .u32 (matchOf r)] := by
      simp only [rowC, formC, hy, List.cons_append, List.nil_append]
    rw [hrc] at hg
    have cn := c_numF (G := G0) hT hf (w := w) ⟨h0, h1⟩
    simp only [formC, hy] at cn
    have n1 : ¬ (((k + 1 : Nat) : Int) < 0) := by omega
    have n2 : (((k + 1 : Nat) : Int)).toNat = k + 1 := by omega
    have n3 : IntKind.u8.wrap ((k + 1 : Nat) : Int) = (k : Int) + 1 := by rw [wrap_id _ (by simp [IntKind.min, IntKind.signed]; omega) (by simp [IntKind.max, IntKind.signed, IntKind.bits]; omega)]; push_cast; rfl
    simp -implicitDefEqProofs (disch := omega) only [go_sem, need_of, ↓reduceIte, reduceCtorEq, Nat.reduceAdd, Nat.reduceEqDiff, Nat.reduceLeDiff, Nat.zero_add, Nat.add_zero, decide_false, Bool.not_false, Nat.le_refl, Nat.zero_le, n1, n2, n3, hl, hg, show (k + 1) * 9 ≤ 585 by omega, show k + 1 < 66 by omega]
    refine callP hT t_rv_form_number cn (by simp [namelessL, nameless]) 3 fun v hv => ?_
    subst hv
    simp -implicitDefEqProofs (disch := omega) only [go_sem, ↓reduceIte, reduceCtorEq, Nat.reduceAdd, Nat.reduceEqDiff, Nat.reduceLeDiff, Nat.zero_add, Bool.not_false, Nat.le_refl, Nat.zero_le]
    iterate 14 (try (refine run_sem 3 ?_; simp -implicitDefEqProofs (disch := omega) only [go_sem, ↓reduceIte, reduceCtorEq, Nat.reduceAdd, Nat.reduceEqDiff, Nat.reduceLeDiff, Nat.zero_add, Nat.add_zero, Nat.le_refl, g0a, g0b, g0c]))
    have oc : (Value.pointer none).oneCell' = true := rfl
    have co : ∀ a : Nat, a ≤ 31 → Pure Tryd.prog G0 n_rv_bits_of [.agg [.int .i64 a, .int .i64 5], .int .u32 w] fun v => v = .int .u32 (fld w a 5) := fun a ha => c_of (G := G0) hT w a 5 ⟨h0, h1⟩ ha (by omega)
    have wz : ∀ i : Nat, i < 3 → IntKind.i64.wrap ((i : Int) + 1) = ((i + 1 : Nat) : Int) := fun i hi => wrap_next hi (by omega)
    refine sem_inv (fun n fr σ => ∃ i t3, i ≤ 3 ∧ n = 3 - i ∧ fget fr 1 = .ptr 0 t 0 ∧ fget fr 2 = .ptr 1 (t + 1) 0 ∧ fget fr 3 = .int .i64 0 ∧ fget fr 7 = .ptr 4 (t2 + 1) 0 ∧ fget fr 45 = .sl 5 (t2 + 1 + 1) 0 4 3 none ∧ fget fr 46 = .int .i64 ((3 : Nat) : Int) ∧ fget fr 47 = .int .i64 i ∧
       σ = ⟨t3, dH tb (rowC r) t t2 (hasRd r.form) (hasR1 r.form) (hasR2 r.form) w ((k : Int) + 1) (if 1 ≤ i then (if hasRd r.form then fld w 7 5 else 0) else 0) (if 2 ≤ i then (if hasR1 r.form then fld w 15 5 else 0) else 0) (if 3 ≤ i then (if hasR2 r.form then fld w 20 5 else 0) else 0) (number w r.form)⟩)
      (fun n fr σ hJ => ?_) (m0 := 3) ⟨0, t2 + 1 + 1 + 1, by omega, rfl, ?_⟩
    · obtain ⟨i, t3, hi, rfl, f1, f2, f3, f7, f45, f46, f47, rfl⟩ := hJ
      refine W_run 3 ?_
      have hcase : i = 0 ∨ i = 1 ∨ i = 2 ∨ i = 3 := by omega
      rcases hcase with rfl | rfl | rfl | rfl
      · -- round 0
        cases hA : hasRd r.form with
        | true =>
          simp -implicitDefEqProofs (disch := omega) only [go_sem, ↓reduceIte, Nat.reduceLeDiff, Nat.reduceSub, decide_true, dH, f46, f47]
          iterate 12 (try (refine run_sem 3 ?_; simp -implicitDefEqProofs (disch := omega) only [go_sem, need_of, ↓reduceIte, reduceCtorEq, Nat.reduceAdd, Nat.reduceEqDiff, Nat.reduceLeDiff, Nat.zero_add, Nat.add_zero, Nat.zero_mul, Bool.not_false, Nat.le_refl, Nat.zero_le, oc, f1, f45, f47]))
          refine callP hT t_rv_bits_of (co 7 (by omega)) rfl 3 fun v hv => ?_
          subst hv
          simp -implicitDefEqProofs (disch := omega) only [go_sem, ↓reduceIte, Nat.reduceAdd, Nat.reduceEqDiff, Nat.reduceLeDiff, Nat.zero_add, Bool.not_false, Nat.zero_le, wrap_fld5]
          iterate 12 (try (refine run_sem 3 ?_; simp -implicitDefEqProofs (disch := omega) only [go_sem, ↓reduceIte, Nat.reduceEqDiff, f47]))
          refine ⟨3 - 1, _, _, by omega, Shift.drop (o' := dH tb (rowC r) t t2 (hasRd r.form) (hasR1 r.form) (hasR2 r.form) w ((k : Int) + 1) (if hasRd r.form then fld w 7 5 else 0) 0 0 (number w r.form)) (t' := t3 + 1) (by simp [subObs, dH, hA]) (Nat.le_refl _) (Nat.zero_le _), 1, t3 + 1, by omega, rfl, ?_⟩
          simp -implicitDefEqProofs (disch := omega) only [go_sem, ↓reduceIte, Nat.reduceEqDiff, Nat.reduceLeDiff, Nat.zero_add, Nat.le_refl, f1, f2, f3, f7, f45, f46, wz]
          simp [hA, dH]
        | false =>
          simp -implicitDefEqProofs (disch := omega) only [go_sem, ↓reduceIte, Nat.reduceLeDiff, Nat.reduceSub, decide_true, dH, f46, f47]
          iterate 12 (try (refine run_sem 3 ?_; simp -implicitDefEqProofs (disch := omega) only [go_sem, need_of, ↓reduceIte, reduceCtorEq, Nat.reduceAdd, Nat.reduceEqDiff, Nat.reduceLeDiff, Nat.zero_add, Nat.add_zero, Nat.zero_mul, Bool.not_false, Nat.le_refl, Nat.zero_le, oc, f45, f47]))
          refine ⟨3 - 1, _, _, by omega, Shift.drop (o' := dH tb (rowC r) t t2 (hasRd r.form) (hasR1 r.form) (hasR2 r.form) w ((k : Int) + 1) (if hasRd r.form then fld w 7 5 else 0) 0 0 (number w r.form)) (t' := t3 + 1) (by simp [subObs, dH, hA]) (Nat.le_refl _) (Nat.zero_le _), 1, t3 + 1, by omega, rfl, ?_⟩
          simp -implicitDefEqProofs (disch := omega) only [go_sem, ↓reduceIte, Nat.reduceEqDiff, Nat.reduceLeDiff, Nat.zero_add, Nat.le_refl, f1, f2, f3, f7, f45, f46, wz]
          simp [hA, dH]
      · -- round 1
        cases hA : hasR1 r.form with
        | true =>
          simp -implicitDefEqProofs (disch := omega) only [go_sem, ↓reduceIte, Nat.reduceLeDiff, Nat.reduceSub, decide_true, Nat.le_refl, dH, f46, f47]
          iterate 12 (try (refine run_sem 3 ?_; simp -implicitDefEqProofs (disch := omega) only [go_sem, need_of, ↓reduceIte, reduceCtorEq, Nat.reduceAdd, Nat.reduceEqDiff, Nat.reduceLeDiff, Nat.zero_add, Nat.add_zero, Nat.one_mul, Bool.not_false, Nat.le_refl, Nat.zero_le, oc, f1, f45, f47]))
          refine callP hT t_rv_bits_of (co 15 (by omega)) rfl 3 fun v hv => ?_
          subst hv
          simp -implicitDefEqProofs (disch := omega) only [go_sem, ↓reduceIte, Nat.reduceAdd, Nat.reduceEqDiff, Nat.reduceLeDiff, Nat.zero_add, Bool.not_false, Nat.zero_le, wrap_fld5]
          iterate 12 (try (refine run_sem 3 ?_; simp -implicitDefEqProofs (disch := omega) only [go_sem, ↓reduceIte, Nat.reduceEqDiff, f47]))
          refine ⟨3 - 2, _, _, by omega, Shift.drop (o' := dH tb (rowC r) t t2 (hasRd r.form) (hasR1 r.form) (hasR2 r.form) w ((k : Int) + 1) (if hasRd r.form then fld w 7 5 else 0) (if hasR1 r.form then fld w 15 5 else 0) 0 (number w r.form)) (t' := t3 + 1) (by simp [subObs, dH, hA]) (Nat.le_refl _) (Nat.zero_le _), 2, t3 + 1, by omega, rfl, ?_⟩
          simp -implicitDefEqProofs (disch := omega) only [go_sem, ↓reduceIte, Nat.reduceAdd, Nat.reduceEqDiff, Nat.reduceLeDiff, Nat.le_refl, f1, f2, f3, f7, f45, f46, wz]
          simp [hA, dH]
        | false =>
          simp -implicitDefEqProofs (disch := omega) only [go_sem, ↓reduceIte, Nat.reduceLeDiff, Nat.reduceSub, decide_true, Nat.le_refl, dH, f46, f47]
          iterate 12 (try (refine run_sem 3 ?_; simp -implicitDefEqProofs (disch := omega) only [go_sem, need_of, ↓reduceIte, reduceCtorEq, Nat.reduceAdd, Nat.reduceEqDiff, Nat.reduceLeDiff, Nat.zero_add, Nat.add_zero, Nat.one_mul, Bool.not_false, Nat.le_refl, Nat.zero_le, oc, f45, f47]))
          refine ⟨3 - 2, _, _, by omega, Shift.drop (o' := dH tb (rowC r) t t2 (hasRd r.form) (hasR1 r.form) (hasR2 r.form) w ((k : Int) + 1) (if hasRd r.form then fld w 7 5 else 0) (if hasR1 r.form then fld w 15 5 else 0) 0 (number w r.form)) (t' := t3 + 1) (by simp [subObs, dH, hA]) (Nat.le_refl _) (Nat.zero_le _), 2, t3 + 1, by omega, rfl, ?_⟩
          simp -implicitDefEqProofs (disch := omega) only [go_sem, ↓reduceIte, Nat.reduceAdd, Nat.reduceEqDiff, Nat.reduceLeDiff, Nat.le_refl, f1, f2, f3, f7, f45, f46, wz]
          simp [hA, dH]
      · -- round 2
        cases hA : hasR2 r.form with
        | true =>
          simp -implicitDefEqProofs (disch := omega) only [go_sem, ↓reduceIte, Nat.reduceLeDiff, Nat.reduceLT, Nat.reduceSub, decide_true, Nat.le_refl, dH, f46, f47]
          iterate 12 (try (refine run_sem 3 ?_; simp -implicitDefEqProofs (disch := omega) only [go_sem, need_of, ↓reduceIte, reduceCtorEq, Nat.reduceAdd, Nat.reduceEqDiff, Nat.reduceLeDiff, Nat.reduceLT, Nat.reduceMul, Nat.zero_add, Nat.add_zero, Bool.not_false, Nat.le_refl, Nat.zero_le, oc, f1, f45, f47]))
          refine callP hT t_rv_bits_of (co 20 (by omega)) rfl 3 fun v hv => ?_
          subst hv
          simp -implicitDefEqProofs (disch := omega) only [go_sem, ↓reduceIte, Nat.reduceAdd, Nat.reduceEqDiff, Nat.reduceLeDiff, Nat.zero_add, Bool.not_false, Nat.zero_le, wrap_fld5]
          iterate 12 (try (refine run_sem 3 ?_; simp -implicitDefEqProofs (disch := omega) only [go_sem, ↓reduceIte, Nat.reduceEqDiff, f47]))
          refine ⟨3 - 3, _, _, by omega, Shift.drop (o' := dH tb (rowC r) t t2 (hasRd r.form) (hasR1 r.form) (hasR2 r.form) w ((k : Int) + 1) (if hasRd r.form then fld w 7 5 else 0) (if hasR1 r.form then fld w 15 5 else 0) (if hasR2 r.form then fld w 20 5 else 0) (number w r.form)) (t' := t3 + 1) (by simp [subObs, dH, hA]) (Nat.le_refl _) (Nat.zero_le _), 3, t3 + 1, by omega, rfl, ?_⟩
          simp -implicitDefEqProofs (disch := omega) only [go_sem, ↓reduceIte, Nat.reduceAdd, Nat.reduceEqDiff, Nat.reduceLeDiff, Nat.le_refl, f1, f2, f3, f7, f45, f46, wz]
          simp [hA, dH]
        | false =>
          simp -implicitDefEqProofs (disch := omega) only [go_sem, ↓reduceIte, Nat.reduceLeDiff, Nat.reduceLT, Nat.reduceSub, decide_true, Nat.le_refl, dH, f46, f47]
          iterate 12 (try (refine run_sem 3 ?_; simp -implicitDefEqProofs (disch := omega) only [go_sem, need_of, ↓reduceIte, reduceCtorEq, Nat.reduceAdd, Nat.reduceEqDiff, Nat.reduceLeDiff, Nat.reduceLT, Nat.reduceMul, Nat.zero_add, Nat.add_zero, Bool.not_false, Nat.le_refl, Nat.zero_le, oc, f45, f47]))
          refine ⟨3 - 3, _, _, by omega, Shift.drop (o' := dH tb (rowC r) t t2 (hasRd r.form) (hasR1 r.form) (hasR2 r.form) w ((k : Int) + 1) (if hasRd r.form then fld w 7 5 else 0) (if hasR1 r.form then fld w 15 5 else 0) (if hasR2 r.form then fld w 20 5 else 0) (number w r.form)) (t' := t3 + 1) (by simp [subObs, dH, hA]) (Nat.le_refl _) (Nat.zero_le _), 3, t3 + 1, by omega, rfl, ?_⟩
          simp -implicitDefEqProofs (disch := omega) only [go_sem, ↓reduceIte, Nat.reduceAdd, Nat.reduceEqDiff, Nat.reduceLeDiff, Nat.le_refl, f1, f2, f3, f7, f45, f46, wz]
          simp [hA, dH]
      · simp -implicitDefEqProofs (disch := omega) only [go_sem, ↓reduceIte, Nat.reduceLeDiff, Nat.reduceSub, decide_false, Nat.le_refl, f47, f46, Nat.lt_irrefl]
        iterate 6 (try (refine run_sem 3 ?_; simp -implicitDefEqProofs (disch := omega) only [go_sem, ↓reduceIte, reduceCtorEq, Nat.reduceAdd, Nat.reduceEqDiff, Nat.zero_add, Bool.not_false, Nat.le_refl, Nat.zero_le, dH, f2, f7]))
        rw [hfi]; rfl
    · rw [hrc]
      simp -implicitDefEqProofs (disch := omega) only [go_sem, ↓reduceIte, reduceCtorEq, Nat.reduceEqDiff, Nat.reduceLeDiff, dH]
      rfl
end Go.Proofs.YtkhdfbokkneeaaaDoor
