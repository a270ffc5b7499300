/- The document's graph: what is reached, texts. -/
import Derived.Test.YtfligilbnpcnaaaGreatDoorTerm16
namespace Go.Proofs.YtfligilbnpcnaaaGreatDoor
open Go Go.Am
set_option maxRecDepth 100000
set_option maxHeartbeats 1000000
variable {P : Program} {G : Nat → Option V}

theorem mem_uses_iff {L : List Nd} (hwf : gwf L) {r x : Int} (h0 : 0 ≤ r) (h1 : r < L.length) : x ∈ usesL L [r] ↔ x = r ∨ ∃ p ∈ pts L r, x ∈ usesL L [p] := by
  constructor
  · intro hx
    exact uses_pred (L := L) (Q := fun x => x = r ∨ ∃ p ∈ pts L r, x ∈ usesL L [p]) (id := r) (fun z z0 z1 hz q hq => by
      right
      rcases hz with rfl | ⟨p, hp, hzp⟩
      · have := pts_lt hwf h0 h1 q hq
        exact ⟨q, hq, uses_self hwf this.1 (by omega)⟩
      · exact ⟨p, hp, uses_closed hwf hzp hq⟩) (.inl rfl) x hx
  · rintro (rfl | ⟨p, hp, hx⟩)
    · exact uses_self hwf h0 h1
    · exact uses_trans hwf (uses_closed hwf (uses_self hwf h0 h1) hp) hx

theorem r_uses (hT : TabOk P tab) {w0 w1 : Nat} {L : List Nd} (hL : L.length ≤ 1000) (hok : okN L) (id : Int) : ∀ (f : Nat) (r : Int) (t : Nat), 0 ≤ r → r < L.length → r.toNat < f →
   C P G 2 n_proofmarkref02_Graph_uses [.ptr 0 w0 0, .int .i64 r, .int .i64 id] ⟨t, mH w0 w1 L⟩ fun v σ => v = .bool (decide (id ∈ usesL L [r])) ∧ ∃ t', t ≤ t' ∧ σ = ⟨t', mH w0 w1 L⟩ := by
  have hwf := hok.wf
  intro f
  induction f with
  | zero => intro r t h0 h1 h; omega
  | succ f ih =>
    intro r t h0 h1 hf
    have hl := ndC_length L
    obtain ⟨d, hd⟩ : ∃ d, L[r.toNat]? = some d := ⟨_, List.getElem?_eq_getElem (by omega)⟩
    have hc := ndC_get hd
    have hlen : r.toNat < L.length := by omega
    have h6 : r.toNat * 6 + 6 ≤ (ndC L).length := by omega
    obtain ⟨hp, _, hk⟩ := may_parts (hok _ d hd).2.2
    have hiff := mem_uses_iff hwf (x := id) h0 h1
    have hpt : pts L r = d.parts := by simp [pts, List.getD_eq_getElem?_getD, hd]
    rw [hpt] at hiff
    refine C_keep 2 (Nat.le_refl _) (C_tab hT t_proofmarkref02_Graph_uses (by simp [proofmarkref02_Graph_uses]) (W_run 1000 ?_))
    by_cases hri : r = id
    · have hm : id ∈ usesL L [r] := hiff.2 (.inl hri.symm)
      simp -implicitDefEqProofs (disch := omega) only [go_sem, ↓reduceIte, reduceCtorEq, Nat.reduceAdd, Nat.reduceEqDiff, Nat.zero_add, Nat.le_refl, beq_self_eq_true, proofmarkref02_Graph_uses, zq22_0, zq22_1, zq22_2, zq22_3, zq22_4, mH0_len, mH0_take, hri]
      rw [hri] at hm
      exact ⟨by simp [hm], _, by omega, rfl⟩
    · have hri' : (r == id) = false := by simpa using hri
      have hne : ¬ id = r := fun e => hri e.symm
      rcases hk with k | k | k | k
      · have hps : d.parts = [] := by simp [Nd.parts, k]
        have hm : ¬ id ∈ usesL L [r] := fun h => by have := hiff.1 h; simp [hps, hne] at this
        simp -implicitDefEqProofs (disch := omega) only [go_sem, ↓reduceIte, reduceCtorEq, Nat.reduceAdd, Nat.reduceEqDiff, Nat.reduceLeDiff, Int.reduceLE, Nat.zero_add, Nat.add_zero, decide_false, Bool.not_false, Nat.le_refl, ge_iff_le, proofmarkref02_Graph_uses, zq22_0, zq22_1, zq22_2, zq22_3, zq22_4, mH_len, mH0_len, mH_take, List.length_cons, List.length_nil, hri', mH0_0, mH0_1, mH_2, mHs_2, h0, hlen, hc, h6, Nd.cells, k, Int.reduceBEq]
        exact ⟨by simp [hm], _, by omega, rfl⟩
      · have hps : d.parts = [] := by simp [Nd.parts, k]
        have hm : ¬ id ∈ usesL L [r] := fun h => by have := hiff.1 h; simp [hps, hne] at this
        simp -implicitDefEqProofs (disch := omega) only [go_sem, ↓reduceIte, reduceCtorEq, Nat.reduceAdd, Nat.reduceEqDiff, Nat.reduceLeDiff, Int.reduceLE, Nat.zero_add, Nat.add_zero, decide_false, Bool.not_false, Nat.le_refl, ge_iff_le, proofmarkref02_Graph_uses, zq22_0, zq22_1, zq22_2, zq22_3, zq22_4, mH_len, mH0_len, mH_take, List.length_cons, List.length_nil, hri', mH0_0, mH0_1, mH_2, mHs_2, h0, hlen, hc, h6, Nd.cells, k, Int.reduceBEq]
        exact ⟨by simp [hm], _, by omega, rfl⟩
      · have hps : d.parts = [d.y] := by simp [Nd.parts, k]
        have hy := hp d.y (by simp [hps])
        rw [hps] at hiff
        simp only [hne, false_or, List.mem_singleton, exists_eq_left] at hiff
        simp -implicitDefEqProofs (disch := omega) only [go_sem, ↓reduceIte, reduceCtorEq, Nat.reduceAdd, Nat.reduceEqDiff, Nat.reduceLeDiff, Int.reduceLE, Nat.zero_add, Nat.add_zero, decide_true, Bool.not_false, Nat.le_refl, ge_iff_le, proofmarkref02_Graph_uses, zq22_0, zq22_1, zq22_2, zq22_3, zq22_4, mH0_len, List.length_cons, List.length_nil, hri', mH0_0, mH0_1, mH_2, mHs_2, h0, hlen, hc, h6, Nd.cells, k]
        refine callT hT t_proofmarkref02_Graph_uses (m_read (ih d.y _ (by omega) (by omega) (by omega)) rfl rfl) 1000 fun t2 ht2 => ?_
        by_cases hm : id ∈ usesL L [d.y]
        · simp -implicitDefEqProofs (disch := omega) only [go_sem, ↓reduceIte, reduceCtorEq, Nat.reduceAdd, Nat.reduceEqDiff, Nat.reduceLeDiff, Nat.zero_add, decide_true, mH_len, mH_take, List.length_cons, List.length_nil, hm]
          exact ⟨by simp [hiff.2 hm], _, by omega, rfl⟩
        · simp -implicitDefEqProofs (disch := omega) only [go_sem, ↓reduceIte, reduceCtorEq, Nat.reduceAdd, Nat.reduceEqDiff, Nat.reduceLeDiff, Nat.zero_add, Nat.add_zero, decide_false, mH_len, mH_take, List.length_cons, List.length_nil, mH_2, hm, Int.reduceBEq]
          exact ⟨by simp [show ¬ id ∈ usesL L [r] from fun h => hm (hiff.1 h)], _, by omega, rfl⟩
      · have hps : d.parts = [d.x, d.y] := by simp [Nd.parts, k]
        have hy := hp d.y (by simp [hps])
        have hx := hp d.x (by simp [hps])
        rw [hps] at hiff
        simp only [hne, false_or, List.mem_cons, List.not_mem_nil, or_false, exists_eq_or_imp, exists_eq_left] at hiff
        simp -implicitDefEqProofs (disch := omega) only [go_sem, ↓reduceIte, reduceCtorEq, Nat.reduceAdd, Nat.reduceEqDiff, Nat.reduceLeDiff, Int.reduceLE, Nat.zero_add, Nat.add_zero, decide_true, Bool.not_false, Nat.le_refl, ge_iff_le, proofmarkref02_Graph_uses, zq22_0, zq22_1, zq22_2, zq22_3, zq22_4, mH0_len, List.length_cons, List.length_nil, hri', mH0_0, mH0_1, mH_2, mHs_2, h0, hlen, hc, h6, Nd.cells, k]
        refine callT hT t_proofmarkref02_Graph_uses (m_read (ih d.y _ (by omega) (by omega) (by omega)) rfl rfl) 1000 fun t2 ht2 => ?_
        by_cases hm : id ∈ usesL L [d.y]
        · simp -implicitDefEqProofs (disch := omega) only [go_sem, ↓reduceIte, reduceCtorEq, Nat.reduceAdd, Nat.reduceEqDiff, Nat.reduceLeDiff, Nat.zero_add, decide_true, mH_len, mH_take, List.length_cons, List.length_nil, hm]
          exact ⟨by simp [hiff.2 (.inr hm)], _, by omega, rfl⟩
        · simp -implicitDefEqProofs (disch := omega) only [go_sem, ↓reduceIte, reduceCtorEq, Nat.reduceAdd, Nat.reduceEqDiff, Nat.reduceLeDiff, Nat.zero_add, Nat.add_zero, decide_false, beq_self_eq_true, List.length_cons, List.length_nil, mH_2, hm]
          refine callT hT t_proofmarkref02_Graph_uses (m_read (ih d.x _ (by omega) (by omega) (by omega)) rfl rfl) 1000 fun t3 ht3 => ?_
          simp -implicitDefEqProofs (disch := omega) only [go_sem, ↓reduceIte, reduceCtorEq, Nat.reduceAdd, Nat.reduceEqDiff, Nat.reduceLeDiff, Nat.zero_add, mH_len, mH_take, List.length_cons, List.length_nil]
          refine ⟨?_, _, by omega, rfl⟩
          congr 1
          rw [Bool.eq_iff_iff]
          simp only [decide_eq_true_eq]
          rw [hiff]
          simp [hm]

end Go.Proofs.YtfligilbnpcnaaaGreatDoor

