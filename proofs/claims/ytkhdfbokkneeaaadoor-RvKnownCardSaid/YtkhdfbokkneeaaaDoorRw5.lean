/- An instruction's word: walked. -/
import Derived.Test.YtkhdfbokkneeaaaDoorRvS3
namespace Go.Proofs.YtkhdfbokkneeaaaDoor
open Go Go.Am Go.Rv
set_option maxRecDepth 100000
variable {P : Program} {G : Nat → Option V}

def inC (x : In) : List V := [.int .u8 x.op, .int .u8 x.rd, .int .u8 x.rs1, .int .u8 x.rs2, .int .i64 x.imm]
/-- An instruction that can be. -/
def InOk (x : In) : Prop := (0 ≤ x.op ∧ x.op ≤ 255) ∧ (0 ≤ x.rd ∧ x.rd ≤ 255) ∧ (0 ≤ x.rs1 ∧ x.rs1 ≤ 255) ∧ (0 ≤ x.rs2 ∧ x.rs2 ≤ 255) ∧ i64 x.imm

theorem g0a : G0 0 = some (.agg [.int .i64 7, .int .i64 5]) := rfl
theorem g0b : G0 1 = some (.agg [.int .i64 15, .int .i64 5]) := rfl
theorem g0c : G0 2 = some (.agg [.int .i64 20, .int .i64 5]) := rfl

theorem c_may (hT : TabOk P tab) (b : Bool) (n : Int) : Pure P G n_rv_Encode_S1 [.bool b, .int .u8 n] fun v => v = .bool (decide (n < 32) && (b || decide (n = 0))) := by
  intro t
  refine C_tab hT t_rv_Encode_S1 (by simp [rv_Encode_S1]) (W_run 1000 ?_)
  simp -implicitDefEqProofs (disch := omega) only [go_sem, ↓reduceIte, reduceCtorEq, Nat.reduceAdd, Nat.reduceEqDiff, Nat.zero_add, rv_Encode_S1, rv_Encode_S1_r0, rv_Encode_S1_r1]
  by_cases h : n < 32 <;> cases b <;> simp [h]
  rfl

theorem c_plain (hT : TabOk P tab) (x : In) : Pure P G n_proofmarklaw10_plain [.agg (inC x)] fun v => v = .agg (inC x) := by
  intro t
  refine C_keep 0 (Nat.zero_le _) (C_tab hT t_proofmarklaw10_plain (by simp [proofmarklaw10_plain]) (W_run 1000 ?_))
  simp -implicitDefEqProofs (disch := omega) only [go_sem, ↓reduceIte, reduceCtorEq, Nat.reduceAdd, Nat.reduceEqDiff, Nat.reduceLeDiff, Nat.zero_add, Nat.add_zero, Bool.not_false, Nat.le_refl, Nat.zero_le, proofmarklaw10_plain, proofmarklaw10_plain_r0, proofmarklaw10_plain_r1, inC]

theorem c_Encode (hT : TabOk Tryd.prog tab) (x : In) (hx : InOk x) : Pure Tryd.prog G0 n_rv_Encode [.agg (inC x)] fun v => v = .tup [.int .u32 (enc T x).1, .int .i64 (enc T x).2] := by
  obtain ⟨⟨o0, o1⟩, ⟨a0, a1⟩, ⟨b0, b1⟩, ⟨c0, c1⟩, hi⟩ := hx
  by_cases hop : 1 ≤ x.op ∧ x.op ≤ 65
  · obtain ⟨r, hk⟩ : ∃ r, T[(x.op - 1).toNat]? = some r := ⟨_, List.getElem?_eq_getElem (by rw [T_len]; omega)⟩
    have hrow : rowOf x.op = rowC r := by
      unfold rowOf
      rw [if_pos hop]
      have : x.op.toNat - 1 = (x.op - 1).toNat := by omega
      rw [this, List.getD_eq_getElem?_getD, hk]; rfl
    have hf := forms (T_good r (List.mem_of_getElem? hk))
    have he : enc T x = if x.rd > 31 ∨ x.rs1 > 31 ∨ x.rs2 > 31 ∨ (hasRd r.form = false ∧ x.rd ≠ 0) ∨ (hasR1 r.form = false ∧ x.rs1 ≠ 0) ∨ (hasR2 r.form = false ∧ x.rs2 ≠ 0) ∨ ((r.form = 82 ∨ r.form = 69) ∧ x.imm ≠ 0) then (0, 100)
      else if room r.form x.imm = false then (0, 101)
      else (matchOf r + x.rd * 128 + x.rs1 * 32768 + x.rs2 * 1048576 + spread r.form x.imm, 0) := by
      unfold enc; rw [if_pos (by rw [T_len]; exact hop), hk]
    intro t
    obtain ⟨y, hy, hyl⟩ := bitsV_len (bitsOf r.form)
    refine C_keep 0 (Nat.zero_le _) (C_tab hT t_rv_Encode (by simp [rv_Encode]) (W_run 1000 ?_))
    simp -implicitDefEqProofs (disch := omega) only [go_sem, ↓reduceIte, reduceCtorEq, Nat.reduceAdd, Nat.reduceEqDiff, Nat.reduceLeDiff, Nat.zero_add, Nat.add_zero, rv_Encode, rv_Encode_r0, rv_Encode_r1, rv_Encode_r2, rv_Encode_r3, rv_Encode_r4, rv_Encode_r5, rv_Encode_r6, rv_Encode_r7, inC]
    refine callP hT t_rv_of (c_ofop hT x.op o0 o1) rfl 1000 fun v hv => ?_
    subst hv
    rw [hrow]
    have hbl : (bitsOf r.form).length = 0 ↔ (r.form = 82 ∨ r.form = 69) := by rcases hf with h | h | h | h | h | h | h | h | h <;> rw [h] <;> simp [bitsOf]
    have bad : (x.rd > 31 ∨ x.rs1 > 31 ∨ x.rs2 > 31 ∨ (hasRd r.form = false ∧ x.rd ≠ 0) ∨ (hasR1 r.form = false ∧ x.rs1 ≠ 0) ∨ (hasR2 r.form = false ∧ x.rs2 ≠ 0) ∨ ((r.form = 82 ∨ r.form = 69) ∧ x.imm ≠ 0)) → enc T x = (0, 100) := fun h => by rw [he, if_pos h]
    have m1 := c_may (G := G0) hT (hasRd r.form) x.rd
    have m2 := c_may (G := G0) hT (hasR1 r.form) x.rs1
    have m3 := c_may (G := G0) hT (hasR2 r.form) x.rs2
    have bb : ∀ (b : Bool) (n : Int), (decide (n < 32) && (b || decide (n = 0))) = false → n > 31 ∨ (b = false ∧ n ≠ 0) := fun b n h => by
      by_cases h1 : n < 32
      · cases b <;> simp [h1] at h; exact .inr ⟨rfl, h⟩
      · exact .inl (by omega)
    have bt : ∀ (b : Bool) (n : Int), (decide (n < 32) && (b || decide (n = 0))) = true → n ≤ 31 ∧ (b = false → n = 0) := fun b n h => by
      simp only [Bool.and_eq_true, decide_eq_true_eq, Bool.or_eq_true] at h
      exact ⟨by omega, fun hb => by rw [hb] at h; simpa using h.2⟩
    simp -implicitDefEqProofs (disch := omega) only [go_sem, ↓reduceIte, reduceCtorEq, Nat.reduceAdd, Nat.reduceEqDiff, Nat.reduceLeDiff, Nat.reduceLT, Nat.zero_add, Nat.add_zero, decide_true, Bool.not_true, Bool.not_false, Nat.le_refl, Nat.zero_le, rowC, formC, hy, hop]
    refine callP hT t_rv_Encode_S1 m1 rfl 1000 fun v hv => ?_
    subst hv
    cases q1 : (decide (x.rd < 32) && (hasRd r.form || decide (x.rd = 0))) with
    | false =>
      simp -implicitDefEqProofs (disch := omega) only [go_sem, ↓reduceIte, reduceCtorEq, Nat.reduceAdd, Nat.reduceEqDiff, Nat.zero_add, Bool.not_false, Nat.zero_le]
      rw [bad (by rcases bb _ _ q1 with h | h; exact .inl h; exact .inr (.inr (.inr (.inl h))))]
    | true =>
      simp -implicitDefEqProofs (disch := omega) only [go_sem, ↓reduceIte, reduceCtorEq, Nat.reduceAdd, Nat.reduceEqDiff, Nat.reduceLeDiff, Nat.zero_add, Nat.add_zero, Bool.not_true]
      refine callP hT t_rv_Encode_S1 m2 rfl 1000 fun v hv => ?_
      subst hv
      cases q2 : (decide (x.rs1 < 32) && (hasR1 r.form || decide (x.rs1 = 0))) with
      | false =>
        simp -implicitDefEqProofs (disch := omega) only [go_sem, ↓reduceIte, reduceCtorEq, Nat.reduceAdd, Nat.reduceEqDiff, Nat.zero_add, Bool.not_false, Nat.zero_le]
        rw [bad (by rcases bb _ _ q2 with h | h; exact .inr (.inl h); exact .inr (.inr (.inr (.inr (.inl h)))))]
      | true =>
        simp -implicitDefEqProofs (disch := omega) only [go_sem, ↓reduceIte, reduceCtorEq, Nat.reduceAdd, Nat.reduceEqDiff, Nat.reduceLeDiff, Nat.zero_add, Nat.add_zero, Bool.not_true]
        refine callP hT t_rv_Encode_S1 m3 rfl 1000 fun v hv => ?_
        subst hv
        cases q3 : (decide (x.rs2 < 32) && (hasR2 r.form || decide (x.rs2 = 0))) with
        | false =>
          simp -implicitDefEqProofs (disch := omega) only [go_sem, ↓reduceIte, reduceCtorEq, Nat.reduceAdd, Nat.reduceEqDiff, Nat.zero_add, Bool.not_false, Nat.zero_le]
          rw [bad (by rcases bb _ _ q3 with h | h; exact .inr (.inr (.inl h)); exact .inr (.inr (.inr (.inr (.inr (.inl h))))))]
        | true =>
          obtain ⟨d1, e1⟩ := bt _ _ q1
          obtain ⟨d2, e2⟩ := bt _ _ q2
          obtain ⟨d3, e3⟩ := bt _ _ q3
          have hwd : widthP (bitsOf r.form) (nghts r.form) ≤ 60 := by rcases hf with h | h | h | h | h | h | h | h | h <;> rw [h] <;> decide
          have hl4 : (bitsOf r.form).length ≤ 4 := by rcases hf with h | h | h | h | h | h | h | h | h <;> rw [h] <;> decide
          have hb4 : ∀ p ∈ bitsOf r.form, p.1 ≤ 31 ∧ p.2 ≤ 30 := by rcases hf with h | h | h | h | h | h | h | h | h <;> rw [h] <;> decide
          have hz4 : nghts r.form ≤ 30 := by rcases hf with h | h | h | h | h | h | h | h | h <;> rw [h] <;> decide
          have cf := c_fits (G := G0) hT (hasRd r.form) (hasR1 r.form) (hasR2 r.form) (bitsOf r.form) (nghts r.form) (isSgn r.form) (maskOf r.form) x.imm hl4 hb4 hz4 hwd hi
          have ef := fitsP_eq x.imm hf
          unfold fitsP at ef
          simp only at ef
          have cf : Pure Tryd.prog G0 n_rv_form_fits [.agg (frm (hasRd r.form) (hasR1 r.form) (hasR2 r.form) (bitsOf r.form) (nghts r.form) (isSgn r.form) (maskOf r.form)), .int .i64 x.imm] fun v => v = .bool (room r.form x.imm) := by rw [← ef]; exact cf
          simp only [frm, hy] at cf
          have cs := c_spread (G := G0) x.imm hf
          simp only [formC, hy] at cs
          have w1 : IntKind.u32.wrap x.rd = x.rd := wrap_u32 (by omega) (by omega)
          have w2 : IntKind.u32.wrap x.rs1 = x.rs1 := wrap_u32 (by omega) (by omega)
          have w3 : IntKind.u32.wrap x.rs2 = x.rs2 := wrap_u32 (by omega) (by omega)
          have w4 : IntKind.u32.wrap (x.rd * 128) = x.rd * 128 := wrap_u32 (by omega) (by omega)
          have w5 : IntKind.u32.wrap (x.rs1 * 32768) = x.rs1 * 32768 := wrap_u32 (by omega) (by omega)
          have w6 : IntKind.u32.wrap (x.rs2 * 1048576) = x.rs2 * 1048576 := wrap_u32 (by omega) (by omega)
          have ct := c_together (G := G0) hT [matchOf r, x.rd * 128, x.rs1 * 32768, x.rs2 * 1048576, spreadP r.form x.imm] true (by simp)
          simp only [List.map_cons, List.map_nil] at ct
          simp -implicitDefEqProofs (disch := omega) only [go_sem, ↓reduceIte, reduceCtorEq, Nat.reduceAdd, Nat.reduceEqDiff, Nat.reduceLeDiff, Nat.zero_add, Nat.add_zero, Bool.not_true, Nat.le_refl, Nat.zero_le, List.length_map]
          refine ⟨fun hl => ⟨fun hm => ?_, fun hm => ?_⟩, fun hl => ?_⟩
          · rw [bad (.inr (.inr (.inr (.inr (.inr (.inr ⟨hbl.1 (by omega), hm⟩))))))]
          all_goals (
            have hgood : ¬((r.form = 82 ∨ r.form = 69) ∧ x.imm ≠ 0) := fun h => by first | exact h.2 hm | exact hl (by have := hbl.2 h.1; omega)
            have he2 : enc T x = if room r.form x.imm = false then (0, 101) else (matchOf r + x.rd * 128 + x.rs1 * 32768 + x.rs2 * 1048576 + spread r.form x.imm, 0) := by
              rw [he, if_neg]
              rintro (h | h | h | h | h | h | h)
              · omega
              · omega
              · omega
              · exact h.2 (e1 h.1)
              · exact h.2 (e2 h.1)
              · exact h.2 (e3 h.1)
              · exact hgood h
            refine callP hT t_rv_form_fits cf rfl 1000 fun v hv => ?_
            subst hv
            cases hr : room r.form x.imm with
            | false =>
              simp -implicitDefEqProofs (disch := omega) only [go_sem, ↓reduceIte, reduceCtorEq, Nat.reduceAdd, Nat.reduceEqDiff, Nat.zero_add, Bool.not_false, Nat.zero_le]
              rw [he2, hr]; rfl
            | true =>
              simp -implicitDefEqProofs (disch := omega) only [go_sem, ↓reduceIte, reduceCtorEq, Nat.reduceAdd, Nat.reduceEqDiff, Nat.reduceLeDiff, Int.reduceToNat, Int.reduceLE, Nat.zero_add, Nat.add_zero, Bool.not_true, Nat.le_refl, g0a, g0b, g0c, show min 7 32 = 7 from rfl, show min 15 32 = 15 from rfl, show min 20 32 = 20 from rfl, Int.reducePow, w1, w2, w3, w4, w5, w6]
              refine callP hT t_rv_form_spread cs rfl 1000 fun v hv => ?_
              subst hv
              simp -implicitDefEqProofs (disch := omega) only [go_sem, ↓reduceIte, reduceCtorEq, Nat.reduceAdd, Nat.reduceEqDiff, Nat.reduceLeDiff, Nat.zero_add, Nat.le_refl]
              refine callP hT t_rv_together ct rfl 1000 fun v hv => ?_
              subst hv
              simp -implicitDefEqProofs (disch := omega) only [go_sem, ↓reduceIte, reduceCtorEq, Nat.reduceAdd, Nat.reduceEqDiff, Nat.zero_add, Nat.zero_le]
              rw [he2, hr, spreadP_eq _ hf hr, orP_enc hk ⟨a0, d1⟩ ⟨b0, d2⟩ ⟨c0, d3⟩ e1 e2 e3 hr]
              rfl)
  · have he : enc T x = (0, 100) := by unfold enc; rw [if_neg (by rw [T_len]; exact hop)]
    have hrow : rowOf x.op = zeroC := by unfold rowOf; rw [if_neg hop]
    intro t
    refine C_keep 0 (Nat.zero_le _) (C_tab hT t_rv_Encode (by simp [rv_Encode]) (W_run 1000 ?_))
    simp -implicitDefEqProofs (disch := omega) only [go_sem, ↓reduceIte, reduceCtorEq, Nat.reduceAdd, Nat.reduceEqDiff, Nat.reduceLeDiff, Nat.zero_add, Nat.add_zero, rv_Encode, rv_Encode_r0, rv_Encode_r1, rv_Encode_r2, rv_Encode_r3, rv_Encode_r4, rv_Encode_r5, rv_Encode_r6, rv_Encode_r7, inC]
    refine callP hT t_rv_of (c_ofop hT x.op o0 o1) rfl 1000 fun v hv => ?_
    subst hv
    rw [hrow]
    have hop' : decide (1 ≤ x.op ∧ x.op ≤ 65) = false := by simpa using hop
    rw [hop']
    simp -implicitDefEqProofs (disch := omega) only [go_sem, ↓reduceIte, reduceCtorEq, Nat.reduceAdd, Nat.reduceEqDiff, Nat.reduceLT, Nat.zero_add, Bool.not_false, Nat.le_refl, Nat.zero_le, zeroC]
    rw [he]
end Go.Proofs.YtkhdfbokkneeaaaDoor
