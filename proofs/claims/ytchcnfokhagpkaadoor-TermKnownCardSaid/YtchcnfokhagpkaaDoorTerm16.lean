/- The document's graph: how deep, what is reached, texts. -/
import Derived.Test.YtchcnfokhagpkaaDoorTerm12
import Derived.Test.YtchcnfokhagpkaaDoorAmD
namespace Go.Proofs.YtchcnfokhagpkaaDoor
open Go Go.Am
set_option maxRecDepth 100000
set_option maxHeartbeats 1000000
variable {P : Program} {G : Nat → Option V}

theorem mH_0 {w0 w1 : Nat} {L : List Nd} {ex : List (Option Ob)} : (mH w0 w1 L ++ ex)[0]? = some (some (.arr w0 29 [.sl 1 w1 0 6 L.length none])) := rfl
theorem mH_1 {w0 w1 : Nat} {L : List Nd} {ex : List (Option Ob)} : (mH w0 w1 L ++ ex)[1]? = some (some (.arr w1 37 (ndC L))) := rfl
theorem mH_2 {w0 w1 : Nat} {L : List Nd} {x : Option Ob} {ex : List (Option Ob)} : (mH w0 w1 L ++ x :: ex)[2]? = some x := rfl
theorem mHs_2 {w0 w1 : Nat} {L : List Nd} {x y : Option Ob} {ex : List (Option Ob)} : (mH w0 w1 L ++ x :: ex).set 2 y = mH w0 w1 L ++ y :: ex := rfl
theorem mH_len {w0 w1 : Nat} {L : List Nd} {ex : List (Option Ob)} : (mH w0 w1 L ++ ex).length = 2 + ex.length := by simp [mH]; omega
theorem mH0_0 {w0 w1 : Nat} {L : List Nd} : (mH w0 w1 L)[0]? = some (some (.arr w0 29 [.sl 1 w1 0 6 L.length none])) := rfl
theorem mH0_1 {w0 w1 : Nat} {L : List Nd} : (mH w0 w1 L)[1]? = some (some (.arr w1 37 (ndC L))) := rfl
theorem mH0_len {w0 w1 : Nat} {L : List Nd} : (mH w0 w1 L).length = 2 := rfl
theorem mH_app {w0 w1 : Nat} {L : List Nd} {ex y : List (Option Ob)} : (mH w0 w1 L ++ ex) ++ y = mH w0 w1 L ++ (ex ++ y) := by simp
theorem mH_take {w0 w1 : Nat} {L : List Nd} {ex : List (Option Ob)} : (mH w0 w1 L ++ ex).take 2 = mH w0 w1 L := rfl
theorem mH0_take {w0 w1 : Nat} {L : List Nd} : (mH w0 w1 L).take 2 = mH w0 w1 L := rfl
theorem mH_und (w0 w1 : Nat) (L : List Nd) : undO 2 (mH w0 w1 L) = true := by simp [mH, undO, Ob.under, underL, V.under, underL_nameless _ (ndC_nameless L)]
theorem under_nameless (k : Nat) {v : V} (h : nameless v = true) : V.under k v = true := by
  have := underL_nameless (k := k) [v] (by simp [namelessL, h])
  simpa [underL] using this

theorem m_read {f : Nat} {args : List V} {r : V} {w0 w1 t base : Nat} {L : List Nd} {ex : List (Option Ob)} (h : C P G 2 f (.ptr 0 w0 0 :: args) ⟨t, mH w0 w1 L⟩ fun v σ => v = r ∧ ∃ t', t ≤ t' ∧ σ = ⟨t', mH w0 w1 L⟩) (ha : namelessL args = true) (hr : nameless r = true) :
    C P G base f (.ptr 0 w0 0 :: args) ⟨t, mH w0 w1 L ++ ex⟩ fun v σ => v = r ∧ ∃ t', t ≤ t' ∧ σ = ⟨t', mH w0 w1 L ++ ex⟩ :=
  C_read (oS := mH w0 w1 L) h (mH_und w0 w1 L) (by simp [underL, V.under, mH, underL_nameless _ ha]) (under_nameless _ hr)

theorem deepA_0 (D : List Int) : deepA D [] = 0 := rfl
theorem deepA_1 (D : List Int) (y : Int) : deepA D [y] = max 0 (D.getD y.toNat 0) := rfl
theorem deepA_2 (D : List Int) (x y : Int) : deepA D [x, y] = max (max 0 (D.getD x.toNat 0)) (D.getD y.toNat 0) := rfl
theorem deeps_nn (L : List Nd) (i : Nat) : 0 ≤ (deeps L).getD i 0 ∧ (deeps L).getD i 0 ≤ L.length := by
  rw [List.getD_eq_getElem?_getD]
  cases hx : (deeps L)[i]? with
  | none => simp
  | some x => simpa using deeps_bd L x (List.mem_of_getElem? hx)

theorem r_Deep (hT : TabOk P tab) {w0 w1 : Nat} {L : List Nd} (hL : L.length ≤ 1000) (hok : okN L) : ∀ (f : Nat) (id : Int) (t : Nat), id.toNat < f →
   C P G 2 n_proofmarkref02_Graph_Deep [.ptr 0 w0 0, .int .i64 id] ⟨t, mH w0 w1 L⟩ fun v σ => v = .int .i64 (if 0 ≤ id ∧ id < L.length then (deeps L).getD id.toNat 0 else 0) ∧ ∃ t', t ≤ t' ∧ σ = ⟨t', mH w0 w1 L⟩ := by
  intro f
  induction f with
  | zero => intro id t h; omega
  | succ f ih =>
    intro id t hf
    have hl := ndC_length L
    refine C_keep 2 (Nat.le_refl _) (C_tab hT t_proofmarkref02_Graph_Deep (by simp [proofmarkref02_Graph_Deep]) (W_run 1000 ?_))
    by_cases h : 0 ≤ id ∧ id < L.length
    · obtain ⟨d, hd⟩ : ∃ d, L[id.toNat]? = some d := ⟨_, List.getElem?_eq_getElem (by omega)⟩
      have hc := ndC_get hd
      have hlen : id.toNat < L.length := by omega
      have h6 : id.toNat * 6 + 6 ≤ (ndC L).length := by omega
      obtain ⟨hp, _, hk⟩ := may_parts (hok _ d hd).2.2
      have hdd := deeps_of hok hd
      have hb := deeps_nn L id.toNat
      simp -implicitDefEqProofs (disch := omega) only [go_sem, ↓reduceIte, reduceCtorEq, Nat.reduceEqDiff, Nat.zero_add, Nat.add_zero, Nat.le_refl, proofmarkref02_Graph_Deep, proofmarkref02_Graph_Deep_r0, proofmarkref02_Graph_Deep_r1, proofmarkref02_Graph_Deep_r2, proofmarkref02_Graph_Deep_r3, proofmarkref02_Graph_Deep_r4, proofmarkref02_Graph_Deep_r5, proofmarkref02_Graph_Deep_r6, proofmarkref02_Graph_Deep_r7, proofmarkref02_Graph_Deep_r8, proofmarkref02_Graph_Deep_r9, List.length_cons, List.length_nil, mH0_0]
      refine callPS hT t_proofmarkref02_has (c_has hT _ _) rfl 1000 ?_
      rcases hk with k | k | k | k
      · have hps : d.parts = [] := by simp [Nd.parts, k]
        rw [hps, deepA_0] at hdd
        simp -implicitDefEqProofs (disch := omega) only [go_sem, ↓reduceIte, reduceCtorEq, Nat.reduceAdd, Nat.reduceEqDiff, Nat.reduceLeDiff, Nat.zero_add, Nat.add_zero, decide_true, Bool.not_true, Bool.not_false, Nat.le_refl, mH_len, mH0_len, mH_take, List.length_cons, List.length_nil, mH0_0, mH0_1, mH_2, mHs_2, h, hlen, hc, h6, Nd.cells, k, Int.reduceBEq]
        exact ⟨by rw [hdd]; rfl, _, by omega, rfl⟩
      · have hps : d.parts = [] := by simp [Nd.parts, k]
        rw [hps, deepA_0] at hdd
        simp -implicitDefEqProofs (disch := omega) only [go_sem, ↓reduceIte, reduceCtorEq, Nat.reduceAdd, Nat.reduceEqDiff, Nat.reduceLeDiff, Nat.zero_add, Nat.add_zero, decide_true, Bool.not_true, Bool.not_false, Nat.le_refl, mH_len, mH0_len, mH_take, List.length_cons, List.length_nil, mH0_0, mH0_1, mH_2, mHs_2, h, hlen, hc, h6, Nd.cells, k, Int.reduceBEq]
        exact ⟨by rw [hdd]; rfl, _, by omega, rfl⟩
      · have hps : d.parts = [d.y] := by simp [Nd.parts, k]
        rw [hps, deepA_1] at hdd
        have hy := hp d.y (by simp [hps])
        have hby := deeps_nn L d.y.toNat
        have hyif : (if 0 ≤ d.y ∧ d.y < L.length then (deeps L).getD d.y.toNat 0 else 0) = (deeps L).getD d.y.toNat 0 := if_pos ⟨by omega, by omega⟩
        have hw : IntKind.i64.wrap (1 + (deeps L).getD d.y.toNat 0) = 1 + (deeps L).getD d.y.toNat 0 := wrap_i64 (by omega) (by omega)
        simp -implicitDefEqProofs (disch := omega) only [go_sem, ↓reduceIte, reduceCtorEq, Nat.reduceAdd, Nat.reduceEqDiff, Nat.reduceLeDiff, Nat.zero_add, Nat.add_zero, decide_true, Bool.not_true, Bool.not_false, Nat.le_refl, beq_self_eq_true, mH0_len, List.length_cons, List.length_nil, mH0_0, mH0_1, mH_2, mHs_2, h, hlen, hc, h6, Nd.cells, k]
        refine callT hT t_proofmarkref02_Graph_Deep (m_read (ih d.y _ (by omega)) rfl rfl) 1000 fun t2 ht2 => ?_
        simp -implicitDefEqProofs (disch := omega) only [go_sem, ↓reduceIte, reduceCtorEq, Nat.reduceAdd, Nat.reduceEqDiff, Nat.reduceLeDiff, Nat.zero_add, mH_len, mH_take, List.length_cons, List.length_nil, hyif, hw]
        exact ⟨by rw [hdd]; congr 1; omega, _, by omega, rfl⟩
      · have hps : d.parts = [d.x, d.y] := by simp [Nd.parts, k]
        rw [hps, deepA_2] at hdd
        have hy := hp d.y (by simp [hps])
        have hx := hp d.x (by simp [hps])
        have hby := deeps_nn L d.y.toNat
        have hbx := deeps_nn L d.x.toNat
        have hyif : (if 0 ≤ d.y ∧ d.y < L.length then (deeps L).getD d.y.toNat 0 else 0) = (deeps L).getD d.y.toNat 0 := if_pos ⟨by omega, by omega⟩
        have hxif : (if 0 ≤ d.x ∧ d.x < L.length then (deeps L).getD d.x.toNat 0 else 0) = (deeps L).getD d.x.toNat 0 := if_pos ⟨by omega, by omega⟩
        simp -implicitDefEqProofs (disch := omega) only [go_sem, ↓reduceIte, reduceCtorEq, Nat.reduceAdd, Nat.reduceEqDiff, Nat.reduceLeDiff, Nat.zero_add, Nat.add_zero, decide_true, Bool.not_true, Bool.not_false, Nat.le_refl, beq_self_eq_true, mH_len, mH0_len, List.length_cons, List.length_nil, mH0_0, mH0_1, mH_2, mHs_2, h, hlen, hc, h6, Nd.cells, k, Int.reduceBEq]
        refine callT hT t_proofmarkref02_Graph_Deep (m_read (ih d.x _ (by omega)) rfl rfl) 1000 fun t2 ht2 => ?_
        simp -implicitDefEqProofs (disch := omega) only [go_sem, ↓reduceIte, reduceCtorEq, Nat.reduceEqDiff, hxif]
        refine callT hT t_proofmarkref02_Graph_Deep (m_read (ih d.y _ (by omega)) rfl rfl) 1000 fun t3 ht3 => ?_
        simp -implicitDefEqProofs (disch := omega) only [go_sem, ↓reduceIte, reduceCtorEq, Nat.reduceAdd, Nat.reduceEqDiff, Nat.reduceLeDiff, Nat.zero_add, gt_iff_lt, mH_len, mH_take, List.length_cons, List.length_nil, hyif]
        refine ⟨?_, _, by omega, rfl⟩
        rw [hdd]
        congr 1
        rw [wrap_i64 (by split <;> omega) (by split <;> omega)]
        split <;> omega
    · simp -implicitDefEqProofs (disch := omega) only [go_sem, ↓reduceIte, reduceCtorEq, Nat.reduceEqDiff, Nat.zero_add, Nat.add_zero, Nat.le_refl, proofmarkref02_Graph_Deep, proofmarkref02_Graph_Deep_r0, proofmarkref02_Graph_Deep_r1, proofmarkref02_Graph_Deep_r2, proofmarkref02_Graph_Deep_r3, proofmarkref02_Graph_Deep_r4, proofmarkref02_Graph_Deep_r5, proofmarkref02_Graph_Deep_r6, proofmarkref02_Graph_Deep_r7, proofmarkref02_Graph_Deep_r8, proofmarkref02_Graph_Deep_r9, List.length_cons, List.length_nil, mH0_0]
      refine callPS hT t_proofmarkref02_has (c_has hT _ _) rfl 1000 ?_
      simp -implicitDefEqProofs (disch := omega) only [go_sem, ↓reduceIte, reduceCtorEq, Nat.reduceEqDiff, decide_false, Bool.not_false, Nat.le_refl, mH0_len, mH0_take, h]
      exact ⟨_, by omega, rfl⟩
end Go.Proofs.YtchcnfokhagpkaaDoor
