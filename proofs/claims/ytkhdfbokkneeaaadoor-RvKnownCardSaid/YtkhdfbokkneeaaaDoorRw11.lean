/- The document's Decode: walked. -/
import Derived.Test.YtkhdfbokkneeaaaDoorRw9
import Derived.Test.YtkhdfbokkneeaaaDoorRw10
namespace Go.Proofs.YtkhdfbokkneeaaaDoor
open Go Go.Am Go.Rv
set_option maxRecDepth 100000
variable {P : Program}

theorem first_at {w : Int} : ∀ (l : List RR) (i n : Nat), i ≤ l.length → (∀ j r, j < i → l[j]? = some r → is w r = false) → first w n l = first w (n + i) (l.drop i)
  | l, 0, n, _, _ => by simp
  | [], i + 1, n, h, _ => by simp at h
  | r :: l, i + 1, n, h, hn => by
    have h0 := hn 0 r (by omega) rfl
    simp only [first, h0, Bool.false_eq_true, if_false, List.drop_succ_cons]
    rw [first_at l i (n + 1) (by simpa using h) (fun j s hj hs => hn (j + 1) s (by omega) (by simpa using hs))]
    congr 1; omega

set_option maxHeartbeats 4000000 in
theorem c_rDecode (hT : TabOk P tab) (w : Int) (h0 : 0 ≤ w) (h1 : w < 4294967296) : Pure P G0 n_proofmarkref10_Decode [.int .u32 w] fun v => v = .tup (errT (first w 0 T)) := by
  intro t
  have hl : (T.map fun r => V.agg (rrC r)).length = 65 := by rw [List.length_map, T_len]
  refine C_keep 0 (Nat.zero_le _) (C_tab hT t_proofmarkref10_Decode (by simp [proofmarkref10_Decode]) (W_run 1000 ?_))
  simp -implicitDefEqProofs (disch := omega) only [go_sem, ↓reduceIte, reduceCtorEq, Nat.reduceEqDiff, proofmarkref10_Decode, proofmarkref10_Decode_r0, proofmarkref10_Decode_r1, proofmarkref10_Decode_r2, proofmarkref10_Decode_r3, proofmarkref10_Decode_r4, proofmarkref10_Decode_r5, proofmarkref10_Decode_r6, proofmarkref10_Decode_r7, proofmarkref10_Decode_r8, proofmarkref10_Decode_r9, proofmarkref10_Decode_r10, proofmarkref10_Decode_r11, proofmarkref10_Decode_r12, proofmarkref10_Decode_r13, proofmarkref10_Decode_r14, proofmarkref10_Decode_r15]
  refine callP hT t_proofmarkref10_rows (c_rows hT) rfl 1000 fun v hv => ?_
  subst hv
  simp -implicitDefEqProofs (disch := omega) only [go_sem, ↓reduceIte, reduceCtorEq, Nat.reduceEqDiff]
  refine sem_invE (fun n fr σ => ∃ i, i ≤ 65 ∧ n = 65 - i ∧ (∀ j r, j < i → T[j]? = some r → is w r = false) ∧ fget fr 0 = .int .u32 w ∧ fget fr 2 = .ptr 0 t 0 ∧ fget fr 3 = .int .i64 0 ∧ fget fr 4 = .lst 5 (T.map fun r => V.agg (rrC r)) true ∧ fget fr 5 = .int .i64 i ∧
     σ = ⟨t + 1, [some (.arr t 28 [.int .u8 0, .int .u8 0, .int .u8 0, .int .u8 0, .int .i64 0])]⟩)
    (fun e fr σ => (e = .ret ∧ ∃ x t' ex, first w 0 T = some x ∧ fget fr 2 = .ptr 0 t 0 ∧ fget fr 3 = .int .i64 0 ∧ σ = ⟨t', some (.arr t 28 (inC x)) :: ex⟩) ∨
      (e = .ex 0 ∧ first w 0 T = none ∧ fget fr 2 = .ptr 0 t 0 ∧ σ = ⟨t + 1, [some (.arr t 28 [.int .u8 0, .int .u8 0, .int .u8 0, .int .u8 0, .int .i64 0])]⟩))
    (m0 := 65) ⟨0, by omega, rfl, fun j r h => by omega, ?_⟩ (fun n fr σ hJ => ?_) (fun e fr σ hE => ?_)
  · simp -implicitDefEqProofs (disch := omega) only [go_sem, ↓reduceIte, reduceCtorEq, Nat.reduceEqDiff]
    rfl
  · obtain ⟨i, hi, rfl, hno, f0, f2, f3, f4, f5, rfl⟩ := hJ
    refine W_run 4 ?_
    rcases Nat.lt_or_ge i 65 with hlt | hge
    · obtain ⟨r, hk⟩ : ∃ r, T[i]? = some r := ⟨_, List.getElem?_eq_getElem (by rw [T_len]; omega)⟩
      have hg0 := T_good r (List.mem_of_getElem? hk)
      have hg : (T.map fun r => V.agg (rrC r)).getD i .any = V.agg [.int .u8 r.form, .str r.name, .int .u32 r.code, .int .u32 r.f3, .int .u32 r.f7] := by rw [List.getD_eq_getElem?_getD, List.getElem?_map, hk]; rfl
      have hfo := forms hg0
      have hF : Forms r.form := by unfold Forms; rcases hfo with h | h | h | h | h | h | h | h | h <;> simp [h]
      have ci := c_is (G := G0) hT w ⟨h0, h1⟩ hg0
      simp only [rrC] at ci
      have cn := c_rnumber (G := G0) hT w ⟨h0, h1⟩ hF
      have ch := c_has (G := G0) hT r.form hF
      have cf := fun a ha => c_field (G := G0) hT w a 5 ⟨h0, h1⟩ ha (by omega)
      have wz : IntKind.i64.wrap ((i : Int) + 1) = ((i + 1 : Nat) : Int) := wrap_next hlt (by omega)
      have wy : IntKind.u8.wrap (((i + 1 : Nat) : Int)) = (i : Int) + 1 := by rw [wrap_id _ (by simp [IntKind.min, IntKind.signed]; omega) (by simp [IntKind.max, IntKind.signed, IntKind.bits]; omega)]; push_cast; rfl
      simp -implicitDefEqProofs (disch := omega) only [go_sem, f5]
      iterate 6 (try (refine run_sem 4 ?_; simp -implicitDefEqProofs (disch := omega) only [go_sem, need_of, ↓reduceIte, reduceCtorEq, Nat.reduceAdd, Nat.reduceEqDiff, Nat.succ_ne_zero, Nat.zero_add, decide_true, Nat.le_refl, f0, f4, f5, hl, hlt, hg]))
      refine callP hT t_proofmarkref10_is ci rfl 3 fun v hv => ?_
      subst hv
      cases his : is w r with
      | false =>
        simp -implicitDefEqProofs (disch := omega) only [go_sem, ↓reduceIte, Nat.reduceEqDiff, Bool.not_false]
        iterate 10 (try (refine run_sem 4 ?_; simp -implicitDefEqProofs (disch := omega) only [go_sem, ↓reduceIte, Nat.reduceEqDiff, f5, wz]))
        refine ⟨65 - (i + 1), _, _, by omega, Shift.refl _ _ _ _, i + 1, hlt, rfl, fun j s hj hs => ?_, ?_⟩
        · by_cases hji : j = i
          · subst hji; rw [hk] at hs; cases hs; exact his
          · exact hno j s (by omega) hs
        · simp -implicitDefEqProofs (disch := omega) only [go_sem, ↓reduceIte, reduceCtorEq, Nat.reduceEqDiff, Nat.succ_ne_zero, f0, f2, f3, f4]
      | true =>
        have hfi : first w 0 T = some (mk i r w) := by
          have := first_of h0 h1 (i := 0) T_good T_apart hk his
          rwa [Nat.zero_add] at this
        simp -implicitDefEqProofs (disch := omega) only [go_sem, ↓reduceIte, Nat.reduceEqDiff, Bool.not_true]
        iterate 10 (try (refine run_sem 4 ?_; simp -implicitDefEqProofs (disch := omega) only [go_sem, need_of, ↓reduceIte, reduceCtorEq, Nat.reduceAdd, Nat.reduceEqDiff, Nat.reduceLeDiff, Nat.succ_ne_zero, Nat.zero_add, Nat.add_zero, f0, f4, f5, hl, hlt, hg, wz, wy]))
        refine callP hT t_proofmarkref10_number cn rfl 3 fun v hv => ?_
        subst hv
        simp -implicitDefEqProofs (disch := omega) only [go_sem, ↓reduceIte, Nat.reduceAdd, Nat.reduceEqDiff, Nat.reduceLeDiff, Nat.zero_add, Bool.not_false, Nat.le_refl, Nat.zero_le]
        iterate 10 (try (refine run_sem 4 ?_; simp -implicitDefEqProofs (disch := omega) only [go_sem, need_of, ↓reduceIte, Nat.reduceAdd, Nat.reduceEqDiff, Nat.reduceLeDiff, Nat.zero_add, Nat.add_zero, f4, f5, hl, hlt, hg]))
        refine callP hT t_proofmarkref10_has ch rfl 3 fun v hv => ?_
        subst hv
        cases hA : hasRd r.form <;> cases hB : hasR1 r.form <;> cases hC : hasR2 r.form
        all_goals (
          simp -implicitDefEqProofs (disch := omega) only [go_sem, ↓reduceIte, Nat.reduceAdd, Nat.reduceEqDiff, Nat.zero_add]
          iterate 10 (try (refine run_sem 4 ?_; simp -implicitDefEqProofs (disch := omega) only [go_sem, ↓reduceIte, reduceCtorEq, Nat.reduceAdd, Nat.reduceEqDiff, Nat.reduceLT, Nat.succ_ne_zero, Nat.zero_add, Bool.not_false, Nat.le_refl, f0, f2]))
          try (refine callP hT t_proofmarkref10_field (cf 7 (by omega)) rfl 3 fun v hv => ?_; subst hv; simp -implicitDefEqProofs (disch := omega) only [go_sem, ↓reduceIte, Nat.reduceAdd, Nat.reduceEqDiff, Nat.reduceLeDiff, Nat.zero_add, Bool.not_false, Nat.zero_le, wrap_fld5]; iterate 10 (try (refine run_sem 4 ?_; simp -implicitDefEqProofs (disch := omega) only [go_sem, ↓reduceIte, reduceCtorEq, Nat.reduceAdd, Nat.reduceEqDiff, Nat.succ_ne_zero, Nat.zero_add, Bool.not_false, Nat.le_refl, f0, f2])))
          try (refine callP hT t_proofmarkref10_field (cf 15 (by omega)) rfl 3 fun v hv => ?_; subst hv; simp -implicitDefEqProofs (disch := omega) only [go_sem, ↓reduceIte, Nat.reduceAdd, Nat.reduceEqDiff, Nat.reduceLeDiff, Nat.zero_add, Bool.not_false, Nat.zero_le, wrap_fld5]; iterate 10 (try (refine run_sem 4 ?_; simp -implicitDefEqProofs (disch := omega) only [go_sem, ↓reduceIte, reduceCtorEq, Nat.reduceAdd, Nat.reduceEqDiff, Nat.succ_ne_zero, Nat.zero_add, Bool.not_false, Nat.le_refl, f0, f2])))
          try (refine callP hT t_proofmarkref10_field (cf 20 (by omega)) rfl 3 fun v hv => ?_; subst hv; simp -implicitDefEqProofs (disch := omega) only [go_sem, ↓reduceIte, Nat.reduceAdd, Nat.reduceEqDiff, Nat.reduceLeDiff, Nat.zero_add, Bool.not_false, Nat.zero_le, wrap_fld5]; iterate 10 (try (refine run_sem 4 ?_; simp -implicitDefEqProofs (disch := omega) only [go_sem, ↓reduceIte, reduceCtorEq, Nat.reduceAdd, Nat.reduceEqDiff, Nat.zero_add, Bool.not_false, Nat.le_refl, f2])))
          refine ⟨_, _, _, hfi, rfl, List.cons_eq_cons.2 ⟨?_, rfl⟩⟩
          simp only [hA, hB, hC, mk, inC, if_true, if_false, Bool.false_eq_true])
    · have hi : i = 65 := by omega
      subst hi
      simp -implicitDefEqProofs (disch := omega) only [go_sem, Nat.reduceSub, f5]
      iterate 6 (try (refine run_sem 4 ?_; simp -implicitDefEqProofs (disch := omega) only [go_sem, ↓reduceIte, reduceCtorEq, Nat.reduceEqDiff, decide_false, f2, f3, f4, hl, Nat.lt_irrefl]))
      refine first_none fun r hr => ?_
      obtain ⟨j, hj⟩ := List.mem_iff_getElem?.1 hr
      have hjl := (List.getElem?_eq_some_iff.1 hj).1
      rw [T_len] at hjl
      exact hno j r hjl hj
  · rcases hE with ⟨rfl, x, t', ex, hx, f2, f3, rfl⟩ | ⟨rfl, hx, f2, rfl⟩
    · refine run_sem 1000 ?_
      simp -implicitDefEqProofs (disch := omega) only [go_sem, ↓reduceIte, reduceCtorEq, Nat.reduceAdd, Nat.reduceEqDiff, Nat.zero_add, Nat.le_refl, Nat.zero_le, f2, f3, inC]
      rw [hx]; rfl
    · refine run_sem 1000 ?_
      simp -implicitDefEqProofs (disch := omega) only [go_sem, ↓reduceIte, reduceCtorEq, Nat.reduceAdd, Nat.reduceEqDiff, Nat.zero_add, Bool.not_false, Nat.le_refl, Nat.zero_le, f2]
      rw [hx]; rfl
end Go.Proofs.YtkhdfbokkneeaaaDoor
