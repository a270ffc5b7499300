/- The document's Uses, and the graph as the document has it. -/
import Derived.Test.YtfligilbnpcnaaaGreatDoorTerm19
namespace Go.Proofs.YtfligilbnpcnaaaGreatDoor
open Go Go.Am
set_option maxRecDepth 100000
set_option maxHeartbeats 1000000
variable {P : Program} {G : Nat → Option V}

theorem ndC_snoc (L : List Nd) (d : Nd) : ndC (L ++ [d]) = ndC L ++ d.cells := by simp [ndC]
theorem k_NodeAt (hT : TabOk P tab) {base : Nat} {fmt : Int → List UInt8} {v0 v1 v2 v3 v4 t : Nat} {L : List Nd} {ex : List (Option Ob)} {i : Nat} {d : Nd} (hd : L[i]? = some d) :
   C P G base n_term_Graph_Node [.ptr 1 v0 0, .int .i64 i] ⟨t, kG fmt v0 v1 v2 v3 v4 L ++ ex⟩ fun v σ => v = .tup [.agg d.cells, .bool true] ∧ ∃ t', t ≤ t' ∧ σ = ⟨t', kG fmt v0 v1 v2 v3 v4 L ++ ex⟩ := by
  have := k_Node (G := G) hT (base := base) (fmt := fmt) (v0 := v0) (v1 := v1) (v2 := v2) (v3 := v3) (v4 := v4) (t := t) (L := L) (ex := ex) (id := (i : Int))
  have hi := (List.getElem?_eq_some_iff.1 hd).1
  rw [if_pos ⟨by omega, by omega⟩, show L.getD (i : Int).toNat zeroNd = d from by simp [List.getD_eq_getElem?_getD, hd]] at this
  exact this
theorem kG_len0 {fmt : Int → List UInt8} {v0 v1 v2 v3 v4 : Nat} {L : List Nd} : (kG fmt v0 v1 v2 v3 v4 L).length = 5 := rfl
theorem c_PlainG (hT : TabOk P tab) {fmt : Int → List UInt8} {v0 v1 v2 v3 v4 t : Nat} {L : List Nd} (hL : L.length ≤ 1000) :
   C P G 0 n_proofmarkkit_Plain [.ptr 1 v0 0] ⟨t, kG fmt v0 v1 v2 v3 v4 L⟩ fun v σ => ∃ w0 w1 t', t ≤ t' ∧ v = .ptr 5 w0 0 ∧ σ = ⟨t', kG fmt v0 v1 v2 v3 v4 L ++ [some (.arr w0 61 [.sl 6 w1 0 6 L.length none]), some (.arr w1 66 (ndC L))]⟩ := by
  refine C_tab hT t_proofmarkkit_Plain (by simp [proofmarkkit_Plain]) (W_run 1000 ?_)
  simp -implicitDefEqProofs (disch := omega) only [go_sem, ↓reduceIte, reduceCtorEq, Nat.reduceEqDiff, proofmarkkit_Plain, zq5_0, zq5_1, zq5_2, zq5_3, zq5_4, zq5_5, zq5_6, zq5_7, kG_len0]
  refine sem_shift (HShift.shift (HShift.ownAt 6 66 (k := 5) (p := 0) (by omega) rfl rfl)) (run_sem 1000 ?_)
  simp -implicitDefEqProofs (disch := omega) only [go_sem, Nat.reduceAdd, Nat.zero_add, kG_len, kG_app, kGs_5, List.length_nil, List.nil_append, List.length_cons, List.cons_append, List.set_cons_zero]
  refine sem_invE (fun m fr σ => ∃ (i t' w1 : Nat), i ≤ L.length ∧ m = L.length - i ∧ t ≤ t' ∧ fget fr 0 = .ptr 1 v0 0 ∧ fget fr 3 = .ptr 5 t 0 ∧ fget fr 4 = .int .i64 i ∧
       σ = ⟨t', kG fmt v0 v1 v2 v3 v4 L ++ [some (.arr t 61 [.sl 6 w1 0 6 i none]), some (.arr w1 66 (ndC (L.take i)))]⟩)
    (fun e fr σ => e = .ex 0 ∧ fget fr 3 = .ptr 5 t 0 ∧ ∃ (t' w1 : Nat), t ≤ t' ∧ σ = ⟨t', kG fmt v0 v1 v2 v3 v4 L ++ [some (.arr t 61 [.sl 6 w1 0 6 L.length none]), some (.arr w1 66 (ndC L))]⟩)
    (m0 := L.length) ⟨0, t + 1 + 1, t + 1, Nat.zero_le _, rfl, by omega, ?_⟩ (fun m fr σ hJ => ?_) (fun e fr σ hE => ?_)
  · simp -implicitDefEqProofs (disch := omega) only [go_sem, ↓reduceIte, reduceCtorEq, Nat.reduceEqDiff]
    all_goals (first | rfl | exact ⟨rfl, rfl⟩)
  · obtain ⟨i, t', w1, hi, rfl, ht', f0, f3, f4, rfl⟩ := hJ
    rcases Nat.lt_or_ge i L.length with hlt | hge
    · obtain ⟨d, hd⟩ : ∃ d, L[i]? = some d := ⟨_, List.getElem?_eq_getElem hlt⟩
      have hnl := ndC_length (L.take i)
      rw [List.length_take, Nat.min_eq_left (by omega)] at hnl
      have hwi : IntKind.i64.wrap ((i : Int) + 1) = ((i + 1 : Nat) : Int) := by
        rw [wrap_i64 (by omega) (by omega)]; rfl
      have hns : ndC (L.take i) ++ d.cells = ndC (L.take (i + 1)) := by rw [take_snoc2 hd, ndC_snoc]
      have hpl := fun t => c_Plain (P := P) (G := G) hT d t
      have hpl2 : Pure P G n_proofmarkkit_PlainNode [.agg [.int .u8 d.kind, .int .i64 d.n, .int .i64 d.a, .int .u8 d.op, .int .i64 d.x, .int .i64 d.y]] fun v => v = .agg d.cells := hpl
      refine W_run 1000 ?_
      simp -implicitDefEqProofs (disch := omega) only [go_sem, ↓reduceIte, Nat.succ_ne_zero, f0, f4]
      refine callT hT t_term_Graph_Size (k_Size hT) 1000 fun t1 ht1 => ?_
      simp -implicitDefEqProofs (disch := omega) only [go_sem, ↓reduceIte, reduceCtorEq, Nat.reduceEqDiff, Nat.succ_ne_zero, decide_true, f0, f4, hlt]
      refine callT hT t_term_Graph_Node (k_NodeAt hT hd) 1000 fun t2 ht2 => ?_
      simp -implicitDefEqProofs (disch := omega) only [go_sem, ↓reduceIte, reduceCtorEq, Nat.reduceAdd, Nat.reduceEqDiff, Nat.reduceLT, Nat.zero_add, Nat.add_zero, Bool.not_false, Nat.le_refl, Nat.zero_le, f3, Nd.cells, kG_len, kG_app, kG_5, kG_7, kGs_7, List.length_cons, List.length_nil, List.cons_append, List.nil_append]
      refine callPS hT t_proofmarkkit_PlainNode hpl2 rfl 1000 ?_
      simp -implicitDefEqProofs (disch := omega) only [go_sem, need_of, ↓reduceIte, reduceCtorEq, Nat.reduceAdd, Nat.reduceEqDiff, Nat.reduceLeDiff, Nat.zero_add, Nat.add_zero, Bool.not_true, Bool.not_false, Nat.le_refl, Nat.zero_le, f4, Nd.cells, kG_5, kG_6, kGs_5, kGs_6, List.length_cons, List.length_nil, List.cons_append, List.nil_append, hnl]
      refine ⟨L.length - (i + 1), _, _, by omega, Shift.drop (o' := kG fmt v0 v1 v2 v3 v4 L ++ [some (.arr t 61 [.sl 6 (t2 + 1) 0 6 (i + 1) none]), some (.arr (t2 + 1) 66 (ndC (L.take (i + 1))))]) (t' := t2 + 1 + 1) (by rw [← hns]; simp [subObs, kG, Nd.cells]) (Nat.le_refl _) (Nat.zero_le _), i + 1, t2 + 1 + 1, t2 + 1, hlt, rfl, by omega, ?_⟩
      simp -implicitDefEqProofs (disch := omega) only [go_sem, ↓reduceIte, reduceCtorEq, Nat.reduceEqDiff, Nat.succ_ne_zero, f0, f3, hwi]
    · have hil : i = L.length := by omega
      subst hil
      refine W_run 1000 ?_
      simp -implicitDefEqProofs (disch := omega) only [go_sem, ↓reduceIte, Nat.succ_ne_zero, f0, f4]
      refine callT hT t_term_Graph_Size (k_Size hT) 1000 fun t1 ht1 => ?_
      simp -implicitDefEqProofs (disch := omega) only [go_sem, ↓reduceIte, Nat.reduceEqDiff, decide_false, f3, show ¬ L.length < L.length from by omega, List.take_length]
      exact ⟨t1, w1, by omega, rfl, rfl⟩
  · obtain ⟨rfl, f3, t', w1, ht', rfl⟩ := hE
    refine run_sem 1000 ?_
    simp -implicitDefEqProofs (disch := omega) only [go_sem, ↓reduceIte, Nat.reduceEqDiff, f3]
    exact ⟨t, w1, t', ht', rfl, rfl, rfl⟩
end Go.Proofs.YtfligilbnpcnaaaGreatDoor

