/- What terms need: the document's contract. -/
import Derived.Test.YtfligilbnpcnaaaDoorV4
namespace Go.Proofs.YtfligilbnpcnaaaDoor
open Go Go.Am
set_option maxRecDepth 100000
set_option maxHeartbeats 1000000
variable {P : Program} {G : Nat → Option V}

theorem r_Needs (hT : TabOk P tab) {w0 w1 t : Nat} {L : List Nd} (hL : L.length ≤ 1000) (hok : okN L) (ids : List Int) (hrl : ids.length ≤ 1000) :
    C P G 2 n_proofmarkref03_Needs [.ptr 0 w0 0, .lst 1 (ids.map (V.int .i64)) false] ⟨t, mH w0 w1 L⟩ fun v σ => v = .tup [.lst 1 (nints (symS L (usesL L ids))) false, .lst 1 (nints (cellS L (usesL L ids))) false] ∧ ∃ t', t ≤ t' ∧ σ = ⟨t', mH w0 w1 L⟩ := by
  refine C_keep 2 (Nat.le_refl _) (C_freezeO (Q := fun v σ => ∃ t' wc, t ≤ t' ∧ v = .tup [.lst 1 (nints (symS L (usesL L ids))) false, .sl 3 wc 0 1 (cellS L (usesL L ids)).length none] ∧ σ = ⟨t', mH w0 w1 L ++ [none, some (.arr wc 3 (nints (cellS L (usesL L ids))))]⟩)
    (C_freezeO (Q := fun v σ => ∃ t' ws wc, t ≤ t' ∧ v = .tup [.sl 2 ws 0 1 (symS L (usesL L ids)).length none, .sl 3 wc 0 1 (cellS L (usesL L ids)).length none] ∧ σ = ⟨t', rH w0 w1 ws wc L (symS L (usesL L ids)) (cellS L (usesL L ids))⟩) ?_ fun v σ hv => ?_) fun v σ hv => ?_)
  · have hU := fun t => r_UsesL (P := P) (G := G) hT (w0 := w0) (w1 := w1) (t := t) hL hok hrl
    have hUb : ∀ x ∈ usesL L ids, 0 ≤ x ∧ x < L.length := uses_ok
    have hUl : (usesL L ids).length ≤ 1000 := by have := nodup_len L.length (usesL L ids) uses_nodup uses_ok; omega
    generalize usesL L ids = U at *
    refine C_tab hT t_proofmarkref03_Needs (by simp [proofmarkref03_Needs]) (W_run 1000 ?_)
    simp -implicitDefEqProofs (disch := omega) only [go_sem, ↓reduceIte, reduceCtorEq, Nat.reduceEqDiff, Nat.zero_add, proofmarkref03_Needs, proofmarkref03_Needs_r0, proofmarkref03_Needs_r1, proofmarkref03_Needs_r2, proofmarkref03_Needs_r3, proofmarkref03_Needs_r4, proofmarkref03_Needs_r5, proofmarkref03_Needs_r6, proofmarkref03_Needs_r7, proofmarkref03_Needs_r8, proofmarkref03_Needs_r9, proofmarkref03_Needs_r10, proofmarkref03_Needs_r11, proofmarkref03_Needs_r12, proofmarkref03_Needs_r13, proofmarkref03_Needs_r14, proofmarkref03_Needs_r15, proofmarkref03_Needs_r16]
    refine call hT t_proofmarkref02_Graph_Uses (hU _) 1000 fun v σ hv => ?_
    obtain ⟨rfl, t1, ht1, rfl⟩ := hv
    simp -implicitDefEqProofs (disch := omega) only [go_sem, ↓reduceIte, reduceCtorEq, Nat.reduceEqDiff]
    refine sem_shift (Shift.own (s := 6) (z := 0) (sz := 1) (T := 2) (by simp -implicitDefEqProofs (disch := omega) only [go_sem, ↓reduceIte, reduceCtorEq, Nat.reduceEqDiff]) (by decide)) ?_
    simp -implicitDefEqProofs (disch := omega) only [go_sem, ↓reduceIte, reduceCtorEq, Nat.reduceEqDiff, H.push, mH0_len]
    refine sem_shift (Shift.own (s := 7) (z := 0) (sz := 1) (T := 3) (by simp -implicitDefEqProofs (disch := omega) only [go_sem, ↓reduceIte, reduceCtorEq, Nat.reduceEqDiff]) (by decide)) ?_
    simp -implicitDefEqProofs (disch := omega) only [go_sem, ↓reduceIte, reduceCtorEq, Nat.reduceAdd, Nat.reduceEqDiff, Nat.zero_add, H.push, mH_len, mH_app, List.length_cons, List.length_nil, List.cons_append, List.nil_append]
    refine sem_for U (rnJ t w0 w1 L U) (rnE t w0 w1 L U) ⟨t1 + 1 + 1, t1, t1 + 1, [], [], by omega, .nil, .refl _, rfl, ?_⟩ (fun i x hx fr σ hJ => rn_round hL hUb hUl hx hJ) (fun i hi fr σ hJ => ?_) (fun e fr σ hE => ?_)
    · simp -implicitDefEqProofs (disch := omega) only [go_sem, ↓reduceIte, reduceCtorEq, Nat.reduceEqDiff, List.length_nil, true_and, rH]
      simp [nints]
    · obtain ⟨t2, ws, wc, ss, cs, ht, hasc, hsp, hcs, f0, f6, f7, f8, f9, rfl⟩ := hJ
      rw [hi, List.take_length] at hsp hcs
      refine W_round [(0, .ptr 0 w0 0), (6, .sl 2 ws 0 1 ss.length none), (7, .sl 3 wc 0 1 cs.length none), (8, .lst 1 (nints U) false), (9, .int .i64 ((i : Nat) : Int))] ⟨f0, f6, f7, f8, f9, trivial⟩  1000 ?_
      simp -implicitDefEqProofs (disch := omega) only [go_sem, ↓reduceIte, reduceCtorEq, Nat.reduceEqDiff, decide_false, nints_length, hi, Nat.lt_irrefl]
      have hs := symS_eq hasc hsp
      subst hs hcs
      exact ⟨rfl, t2, ws, wc, ht, rfl, rfl, rfl⟩
    · obtain ⟨rfl, t2, ws, wc, ht2, f6, f7, rfl⟩ := hE
      refine sem_exit [(6, .sl 2 ws 0 1 (symS L U).length none), (7, .sl 3 wc 0 1 (cellS L U).length none)] ⟨f6, f7, trivial⟩ 1000 ?_
      simp -implicitDefEqProofs (disch := omega) only [go_sem, ↓reduceIte, Nat.reduceEqDiff, rH]
      exact ⟨t2, ws, wc, by omega, rfl, rfl, rfl⟩
  · obtain ⟨t', ws, wc, ht, rfl, rfl⟩ := hv
    refine .inr ⟨2, ws, 2, nints (symS L (usesL L ids)), Nat.le_refl _, rfl, nints_nameless _, t', wc, ht, ?_, ?_⟩
    · have := frz_n (k := 2) (w := ws) (symS L (usesL L ids))
      simp only [frzV, frzL] at this ⊢
      rw [this]
      simp
    · simp [rH, mH, mapFrom, Ob.mapV, frz_nints]
  · obtain ⟨t', wc, ht, rfl, rfl⟩ := hv
    refine .inr ⟨3, wc, 3, nints (cellS L (usesL L ids)), by omega, rfl, nints_nameless _, ?_, ?_, t', ht, ?_⟩
    · simp [mapFrom_length, mH]
    · have := frz_n (k := 3) (w := wc) (cellS L (usesL L ids))
      simp only [frzV, frzL] at this ⊢
      rw [this]
    · simp [mH, mapFrom]
/-- Both graphs. -/
theorem r_NeedsK (hT : TabOk P tab) {fmt : Int → List UInt8} {v0 v1 v2 v3 v4 w0 w1 t base : Nat} {L : List Nd} {ex : List (Option Ob)} (hL : L.length ≤ 1000) (hok : okN L) (ids : List Int) (hrl : ids.length ≤ 1000) :
    C P G base n_proofmarkref03_Needs [.ptr 5 w0 0, .lst 1 (ids.map (V.int .i64)) false] ⟨t, kG fmt v0 v1 v2 v3 v4 L ++ mK w0 w1 L ex⟩ fun v σ => v = .tup [.lst 1 (nints (symS L (usesL L ids))) false, .lst 1 (nints (cellS L (usesL L ids))) false] ∧ ∃ t', t ≤ t' ∧ σ = ⟨t', kG fmt v0 v1 v2 v3 v4 L ++ mK w0 w1 L ex⟩ :=
  m_readK (r_Needs hT hL hok ids hrl) rfl rfl
end Go.Proofs.YtfligilbnpcnaaaDoor
