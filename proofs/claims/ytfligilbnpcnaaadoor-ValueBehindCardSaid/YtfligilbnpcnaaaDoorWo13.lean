/- The values of terms: the program's All. -/
import Derived.Test.YtfligilbnpcnaaaDoorWo12
namespace Go.Proofs.YtfligilbnpcnaaaDoor
open Go Go.Am
set_option maxRecDepth 100000
set_option maxHeartbeats 1000000
variable {P : Program} {G : Nat → Option V}

/-- Something lies behind these. -/
def kEx (t : Nat) (o : List (Option Ob)) (σ : H) : Prop := ∃ t' ex, t ≤ t' ∧ σ = ⟨t', o ++ ex⟩
theorem mapnil1 : (Value.map none).oneCell' = true := rfl
theorem c_All0 (hT : TabOk P tab) (SO : SortOk P) {fmt : Int → List UInt8} {v0 v1 v2 v3 v4 t : Nat} {L : List Nd} (hL : L.length ≤ 1000000) (hok : okN L) (S : List Int) (hS : ∀ x ∈ S, i64 x) (tS : Bool) (C' : List Cl) (hC : C'.length ≤ 1000000) (hCn : ∀ c ∈ C', i64 c.n) (tC : Bool) (ids : List Int) (tr : Bool) (hil : ids.length ≤ 1000000) :
    C P G 5 n_value_All [.ptr 1 v0 0, envV S tS 4 C' tC, .lst 1 (nints ids) tr] ⟨t, kG fmt v0 v1 v2 v3 v4 L⟩ fun v σ => (v = .tup [.lst 0 [] true, .bool false] ∧ (∃ x ∈ ids, kAt (knows S C' L (usesL L ids)) x = none) ∧ kEx t (kG fmt v0 v1 v2 v3 v4 L) σ) ∨ (∃ vo t' ve vm vk, t ≤ t' ∧ v = .tup [.sl 8 vo 0 1 ids.length none, .bool true] ∧ (∀ x ∈ ids, (kAt (knows S C' L (usesL L ids)) x).isSome = true) ∧ σ = ⟨t', kG fmt v0 v1 v2 v3 v4 L ++ (allH ve vm vk S tS C' tC (knows S C' L (usesL L ids)) ++ [some (.arr vo 2 (outs (knows S C' L (usesL L ids)) ids ids.length ids.length))])⟩) := by
  refine C_tab hT t_value_All (by simp [value_All]) (W_run 1000 ?_)
  simp -implicitDefEqProofs (disch := omega) only [go_sem, ↓reduceIte, reduceCtorEq, Nat.reduceAdd, Nat.reduceEqDiff, Nat.reduceLeDiff, Nat.zero_add, Bool.not_false, Nat.le_refl, value_All, value_All_r0, value_All_r1, value_All_r2, value_All_r3, value_All_r4, value_All_r5, value_All_r6, value_All_r7, value_All_r8, value_All_r9, value_All_r10, value_All_r11, value_All_r12, value_All_r13, value_All_r14, value_All_r15, value_All_r16, value_All_r17, value_All_r18, envV, mapnil1, kG_len, kG_app, kG_7, kGs_7, allH, List.length_nil, List.length_cons, List.nil_append, List.cons_append, and_true]
  have hU := fun t ex => k_Uses (P := P) (G := G) hT SO (base := 5) (fmt := fmt) (v0 := v0) (v1 := v1) (v2 := v2) (v3 := v3) (v4 := v4) (t := t) (L := L) (ex := ex) hL hok.wf ids 1 tr (.inl rfl) (by omega)
  have hUb : ∀ x ∈ usesL L ids, 0 ≤ x ∧ x < L.length := uses_ok
  have hUn : (usesL L ids).Nodup := uses_nodup
  have hUl : (usesL L ids).length ≤ 1000000 := by have := nodup_len L.length (usesL L ids) uses_nodup uses_ok; omega
  generalize usesL L ids = U at *
  refine call hT t_term_Graph_Uses (hU _ _) 1000 fun v σ hv => ?_
  obtain ⟨rfl, t1, ht1, rfl⟩ := hv
  simp -implicitDefEqProofs (disch := omega) only [go_sem, ↓reduceIte, reduceCtorEq, Nat.reduceEqDiff, List.length_map]
  refine sem_for U (alJ fmt v0 v1 v2 v3 v4 t (t + 1) (t + 1 + 1) t1 1 L S tS C' tC ids tr U) (alE fmt v0 v1 v2 v3 v4 t (t + 1) (t + 1 + 1) t1 1 L S tS C' tC ids tr U) ⟨t1, Nat.le_refl _, ?_⟩ (fun i x hx fr σ hJ => all_round hT (fit_ok hok) (nd_i64 hok) hS hC hCn hUb hUn hUl hx hJ) (fun i hi fr σ hJ => ?_) (fun e fr σ hE => ?_)
  · simp -implicitDefEqProofs (disch := omega) only [go_sem, ↓reduceIte, reduceCtorEq, Nat.reduceEqDiff, allH, true_and]
    exact ⟨rfl, rfl, rfl, rfl⟩
  · obtain ⟨t2, ht2, f0, f2, f8, f9, f23, f24, f25, rfl⟩ := hJ
    refine W_run 1000 ?_
    simp -implicitDefEqProofs (disch := omega) only [go_sem, ↓reduceIte, decide_false, allH, f24, f25, hi, Nat.lt_irrefl, List.take_length]
    exact ⟨rfl, t2, ht2, by simp -implicitDefEqProofs (disch := omega) only [go_sem, ↓reduceIte, Nat.reduceEqDiff, f2], by simp -implicitDefEqProofs (disch := omega) only [go_sem, ↓reduceIte, Nat.reduceEqDiff, f8], rfl⟩
  · obtain ⟨rfl, t2, ht2, f2, f8, rfl⟩ := hE
    refine sem_exit [(2, .lst 1 (nints ids) tr), (8, .ptr 7 (t + 1 + 1) 0)] ⟨f2, f8, trivial⟩ 1000 ?_
    simp -implicitDefEqProofs (disch := omega) only [go_sem, need_of, ↓reduceIte, Nat.reduceAdd, Nat.reduceEqDiff, Nat.zero_add, Nat.le_refl, kG_len, kG_app, allH, nints_length, List.length_nil, List.length_cons, List.nil_append, List.cons_append, true_and, and_true]
    refine sem_for ids (ouJ fmt v0 v1 v2 v3 v4 t (t + 1) (t + 1 + 1) t2 (t2 + 1) L S tS C' tC (knows S C' L U) ids tr) (ouE fmt v0 v1 v2 v3 v4 t (t + 1) (t + 1 + 1) t2 (t2 + 1) L S tS C' tC (knows S C' L U) ids) ⟨by simp, ?_⟩ (fun i x hx fr σ hJ => out_round hil hx hJ) (fun i hi fr σ hJ => ?_) (fun e fr σ hE => ?_)
    · simp -implicitDefEqProofs (disch := omega) only [go_sem, ↓reduceIte, Nat.reduceEqDiff, allH, List.nil_append, List.cons_append, true_and]
      have ho : outs (knows S C' L U) ids 0 ids.length = (List.replicate ids.length [V.int .i64 0]).flatten := by
        simp only [outs, List.take_zero, List.map_nil, nints, List.nil_append, Nat.sub_zero]
        induction ids.length with
        | zero => rfl
        | succ n ih => rw [List.replicate_succ, List.replicate_succ, List.flatten_cons, ← ih]; rfl
      rw [ho]
      exact ⟨rfl, rfl⟩
    · obtain ⟨hall, f8, f14, f44, f45, f46, rfl⟩ := hJ
      rw [hi, List.take_length] at hall
      refine W_run 1000 ?_
      simp -implicitDefEqProofs (disch := omega) only [go_sem, ↓reduceIte, decide_false, allH, List.nil_append, List.cons_append, f45, f46, hi, Nat.lt_irrefl]
      exact .inr ⟨rfl, hall, by simp -implicitDefEqProofs (disch := omega) only [go_sem, ↓reduceIte, Nat.reduceEqDiff, f14], rfl⟩
    · rcases hE with ⟨rfl, hn, f6, f7, i, rfl⟩ | ⟨rfl, hall, f14, rfl⟩
      · refine run_sem 1000 ?_
        simp -implicitDefEqProofs (disch := omega) only [go_sem, allH, List.nil_append, List.cons_append, true_and, f6, f7]
        exact .inl ⟨hn, t2 + 1, _, by omega, rfl⟩
      · refine run_sem 1000 ?_
        simp -implicitDefEqProofs (disch := omega) only [go_sem, ↓reduceIte, Nat.reduceEqDiff, allH, List.nil_append, List.cons_append, f14]
        exact .inr ⟨t2, t2 + 1, t, t + 1, t + 1 + 1, by omega, rfl, hall, rfl, rfl⟩
end Go.Proofs.YtfligilbnpcnaaaDoor

