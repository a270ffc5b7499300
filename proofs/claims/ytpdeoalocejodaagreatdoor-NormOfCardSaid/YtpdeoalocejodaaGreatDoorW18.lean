/- The law NormOf. -/
import Derived.Test.YtpdeoalocejodaaGreatDoorJ13
namespace Go.Proofs.YtpdeoalocejodaaGreatDoor
open Go Go.Am
set_option maxRecDepth 100000
set_option maxHeartbeats 4000000
variable {P : Program} {G : Nat → Option V}
abbrev noJ (fmt : Int → List UInt8) (v0 v1 t0 n : Nat) (ex : List (Option Ob)) (S : List Int) (tS : Bool) (C' : List Cl) (tC : Bool) : Nat → Fr → H → Prop := fun i fr σ => ∃ t w2 w3 w4 L, Gr L ∧ n ≤ L.length ∧ L.length ≤ 40 + tri i * 632 ∧ t0 ≤ t ∧ fget fr 3 = .ref (.agg [.lst 1 (nints S) tS, .lst 4 (C'.map Cl.v) tC]) 0 ∧ fget fr 5 = .ptr 1 v0 0 ∧ fget fr 7 = .int .i64 (n : Int) ∧ fget fr 8 = .int .i64 ((i : Nat) : Int) ∧ σ = ⟨t, kG fmt v0 v1 w2 w3 w4 L ++ ex⟩
abbrev noE (fmt : Int → List UInt8) (v0 v1 t0 : Nat) (ex : List (Option Ob)) : AE → Fr → H → Prop := fun e fr σ => e = .ex 0 ∧ ∃ t w2 w3 w4 L, Gr L ∧ L.length ≤ 1000000 ∧ t0 ≤ t ∧ fget fr 5 = .ptr 1 v0 0 ∧ σ = ⟨t, kG fmt v0 v1 w2 w3 w4 L ++ ex⟩
theorem no_round (hT : TabOk P tab) (F : Fmt P G) (SO : SortOk P) (hP : Bits P G) {v0 v1 t0 n i : Nat} {ex : List (Option Ob)} {S : List Int} {tS : Bool} {C' : List Cl} {tC : Bool} (hn : n ≤ 40) (hi : i < n) (hS : ∀ x ∈ S, i64 x) (hCn : ∀ c ∈ C', i64 c.n) (hSl : S.length ≤ 60) (hCl : C'.length ≤ 60)
    (fr : Fr) (σ : H) (hJ : noJ F.fmt v0 v1 t0 n ex S tS C' tC i fr σ) :
    W P G 83 0 (AC.seq (AC.seq (AC.reg zq4_6 [30, 31])   (AC.cond (Arg.t 32)   AC.skip   (AC.exit 0)))   (AC.seq (AC.block 1 (AC.seq (AC.reg zq4_7 [35, 36, 37])   (AC.seq (AC.reg zq4_8 [39, 40, 41, 42, 38, 43, 44])   (AC.seq (AC.reg zq4_9 [46, 47, 48, 49, 45, 50, 51])   (AC.seq (AC.reg zq4_10 [52, 53, 54, 55, 56, 57, 58, 59, 60, 61, 62, 63, 64, 65, 66, 67, 68])   (AC.cond (Arg.t 69)   (AC.seq (AC.reg zq4_11 [])   AC.ret)   AC.skip))))))   (AC.reg zq4_12 [33, 34]))) fr σ (seqQ (fun fr σ => ∃ fr' σ', Shift G 83 0 fr σ fr' σ' ∧ noJ F.fmt v0 v1 t0 n ex S tS C' tC (i + 1) fr' σ') (noE F.fmt v0 v1 t0 ex)) := by
  obtain ⟨t, w2, w3, w4, L, hG, hnL, hl, ht, f3, f5, f7, f8, rfl⟩ := hJ
  have e2 := w_nx hi (by omega)
  have htr : tri (i + 1) ≤ 820 := tri_le (show i + 1 ≤ 40 by omega)
  have htri : tri (i + 1) = tri i + (i + 1) := rfl
  have hin : inG L (i : Int) := ⟨by omega, by omega⟩
  have hroom := room_raw hG (i := i) (W := 39) (by omega) (by omega) (by omega)
  have hfew := uses_few hG.ok hin
  refine W_round [(3, .ref (.agg [.lst 1 (nints S) tS, .lst 4 (C'.map Cl.v) tC]) 0), (5, .ptr 1 v0 0), (7, .int .i64 (n : Int)), (8, .int .i64 ((i : Nat) : Int))] ⟨f3, f5, f7, f8, trivial⟩  1000 ?_
  simp -implicitDefEqProofs (disch := omega) only [go_sem, ↓reduceIte, Nat.reduceEqDiff, decide_true, zq4_6, zq4_7, zq4_8, zq4_9, zq4_10, zq4_11, zq4_12, hi]
  refine call hT t_norm_Of (k_OfE hT F SO hP 39 hG hroom) 1000 fun v σ hv => ?_
  obtain ⟨j, L1, hO, rfl, t1, x2, x3, x4, ht1, rfl⟩ := hv
  obtain ⟨p1, hG1, hp1, _, hl1, hv1, _⟩ := hO.get hG hin
  have hl1' : L1.length ≤ 40 + tri (i + 1) * 632 := by
    have : (usesL L [(i : Int)]).length * (16 * 39 + 8) ≤ (i + 1) * 632 := Nat.mul_le_mul_right _ (by omega)
    rw [htri, Nat.add_mul]
    omega
  have hL1 : L1.length ≤ 1000000 := by omega
  have hin1 := (nd_ext p1 hin).1
  have e1 : ofV S C' L1 j = .tup [.int .i64 (val S C' L (i : Int)), .bool true] := by rw [ofV, if_pos (show 0 ≤ j ∧ j < (L1.length : Int) from hp1.inn), hv1 S C' hS hCn]
  have e3 : ofV S C' L1 (i : Int) = .tup [.int .i64 (val S C' L (i : Int)), .bool true] := by rw [ofV, if_pos (show 0 ≤ (i : Int) ∧ (i : Int) < (L1.length : Int) from hin1), val_ext p1 hin]
  simp -implicitDefEqProofs (disch := omega) only [go_sem, ↓reduceIte, reduceCtorEq, Nat.reduceAdd, Nat.reduceEqDiff, Nat.zero_add, Nat.le_refl, List.length_cons, List.length_nil, List.take_succ_cons, List.take_nil, false_implies, and_true]
  refine call hT t_value_Of (k_Of hT SO hL1 hG1.ok S hS tS C' (by omega) hCn tC j) 1000 fun v σ hv => ?_
  obtain ⟨rfl, t2, ht2, rfl⟩ := hv
  rw [e1]
  simp -implicitDefEqProofs (disch := omega) only [go_sem, ↓reduceIte, reduceCtorEq, Nat.reduceAdd, Nat.reduceEqDiff, Nat.reduceLT, Nat.zero_add, Nat.le_refl, List.length_cons, List.length_nil, List.take_succ_cons, List.take_nil, false_implies, and_true]
  refine call hT t_value_Of (k_Of hT SO hL1 hG1.ok S hS tS C' (by omega) hCn tC (i : Int)) 1000 fun v σ hv => ?_
  obtain ⟨rfl, t3, ht3, rfl⟩ := hv
  rw [e3]
  simp -implicitDefEqProofs (disch := omega) only [go_sem, ↓reduceIte, Nat.reduceAdd, Nat.reduceEqDiff, Nat.reduceLT, Nat.zero_add, Bool.not_true, bne_self_eq_false, Bool.not_true, List.length_cons, List.length_nil, bne_self_eq_false]
  refine call hT t_norm_Of (k_OfE hT F SO hP 0 hG1 (room_plain hG1 hp1 hL1 0)) 1000 fun v σ hv => ?_
  obtain ⟨j2, L2, hO2, rfl, t4, y2, y3, y4, ht4, rfl⟩ := hv
  obtain ⟨rfl, rfl⟩ := (hO2.get hG1 hp1.inn).2.2.2.2.2.2 hp1
  simp -implicitDefEqProofs (disch := omega) only [go_sem, ↓reduceIte, Nat.reduceAdd, Nat.reduceEqDiff, bne_self_eq_false, bne_self_eq_false, e2]
  refine ⟨_, _, Shift.refl _ _ _ _, t4, y2, y3, y4, _, hG1, by have := p1.length_le; omega, hl1', by omega, ?_⟩
  simp -implicitDefEqProofs (disch := omega) only [go_sem, ↓reduceIte, Nat.reduceEqDiff, and_true]
theorem c_NormOf (hT : TabOk P tab) (F : Fmt P G) (SO : SortOk P) (hP : Bits P G) (hW : Pure P G n_proofmarklaw04_works [] fun v => v = .bool true) {t : Nat} (l : List Nd) (tl : Bool) (hl : ∀ d ∈ l, i64 d.n ∧ i64 d.a)
    (S : List Int) (tS : Bool) (C' : List Cl) (tC : Bool) (hS : ∀ x ∈ S, i64 x) (hCn : ∀ c ∈ C', i64 c.n) :
   C P G 0 n_proofmarklaw04_NormOf [.lst 6 (l.map fun d => .agg d.cells) tl, envV S tS 4 C' tC] ⟨t, []⟩ fun v _ => v = .bool true := by
  have hA := madeL_le l
  have hG0 := gr_made l hl
  have hfew := c_few (P := P) (G := G) hT S tS 4 C' tC
  refine C_tab hT t_proofmarklaw04_NormOf (by simp [proofmarklaw04_NormOf]) (W_run 14 ?_)
  by_cases h1 : (40 : Int) < l.length
  · have h1' : decide ((40 : Int) < l.length) = true := by simpa using h1
    simp -implicitDefEqProofs (disch := omega) only [go_sem, ↓reduceIte, reduceCtorEq, Nat.reduceEqDiff, Nat.zero_add, decide_true, gt_iff_lt, proofmarklaw04_NormOf, zq4_0, zq4_1, zq4_2, zq4_3, zq4_4, zq4_5, zq4_6, zq4_7, zq4_8, zq4_9, zq4_10, zq4_11, zq4_12, zq4_13, envV, List.length_map, List.length_nil, List.nil_append, and_true, h1]
    iterate 9 (try (refine run_sem 4 ?_; simp -implicitDefEqProofs (disch := omega) only [go_sem, ↓reduceIte, reduceCtorEq, Nat.reduceEqDiff]))
    refine callPS hT t_proofmarklaw04_works hW rfl 1000 ?_
    simp -implicitDefEqProofs (disch := omega) only [go_sem, ↓reduceIte, reduceCtorEq, Nat.reduceEqDiff]
  · have h1' : decide ((40 : Int) < l.length) = false := by simpa using h1
    simp -implicitDefEqProofs (disch := omega) only [go_sem, ↓reduceIte, reduceCtorEq, Nat.reduceAdd, Nat.reduceEqDiff, Nat.zero_add, decide_false, Nat.le_refl, gt_iff_lt, proofmarklaw04_NormOf, zq4_0, zq4_1, zq4_2, zq4_3, zq4_4, zq4_5, zq4_6, zq4_7, zq4_8, zq4_9, zq4_10, zq4_11, zq4_12, zq4_13, envV, List.length_map, List.length_cons, List.length_nil, List.nil_append, List.take_succ_cons, List.take_nil, false_implies, and_true, h1]
    by_cases h2 : S.length ≤ 60 ∧ C'.length ≤ 60
    · have h2' : decide (S.length ≤ 60 ∧ C'.length ≤ 60) = true := by simpa using h2
      rw [h2'] at hfew
      refine callPS hT t_proofmarklaw04_few hfew rfl 6 ?_
      simp -implicitDefEqProofs (disch := omega) only [go_sem, ↓reduceIte, reduceCtorEq, Nat.reduceAdd, Nat.reduceEqDiff, Bool.not_true, Bool.not_true]
      refine sem_shift (Shift.freeze (k := 0) (v := t) (T := 48) (cs := [.lst 1 (nints S) tS, .lst 4 (C'.map Cl.v) tC]) (Nat.zero_le _) rfl rfl) ?_
      have hfp : frzV 0 t [V.lst 1 (nints S) tS, .lst 4 (C'.map Cl.v) tC] (.ptr 0 t 0) = .ref (.agg [V.lst 1 (nints S) tS, .lst 4 (C'.map Cl.v) tC]) 0 := by simp [frzV]
      simp only [hfp, List.set_cons_zero, frzFr_cons, frzFr_nil, fy_lst, fy_bool, mapFrom, Option.map_none]
      refine sem_shift (Shift.drop (o' := []) (t' := t + 1) (by simp [subObs]) (Nat.le_refl _) (Nat.zero_le _)) (run_sem 1000 ?_)
      simp -implicitDefEqProofs (disch := omega) only [go_sem, ↓reduceIte, reduceCtorEq, Nat.reduceEqDiff]
      refine call hT t_proofmarkkit_Made (c_Made hT F l tl hl (by omega)) 1000 fun v σ hv => ?_
      obtain ⟨v0, v1, v2, v3, v4, c1, u, hc1, rfl, rfl⟩ := hv
      obtain ⟨ex, hex⟩ : ∃ ex : List (Option Ob), ex = [] := ⟨_, rfl⟩
      rw [show kG F.fmt v0 v1 v2 v3 v4 (madeL l) = kG F.fmt v0 v1 v2 v3 v4 (madeL l) ++ ex by rw [hex, List.append_nil]]
      clear hex
      generalize madeL l = L at *
      simp -implicitDefEqProofs (disch := omega) only [go_sem, ↓reduceIte, reduceCtorEq, Nat.reduceAdd, Nat.reduceEqDiff, Nat.reduceLT, Nat.zero_add, List.length_cons, List.length_nil]
      refine call hT t_term_Graph_Size (k_Size hT) 1000 fun v σ hv => ?_
      obtain ⟨rfl, c2, hc2, rfl⟩ := hv
      simp -implicitDefEqProofs (disch := omega) only [go_sem, ↓reduceIte, reduceCtorEq, Nat.reduceEqDiff]
      refine sem_for (List.range L.length) (noJ F.fmt v0 v1 c2 L.length ex S tS C' tC) (noE F.fmt v0 v1 c2 ex) ?_ (fun i x hx fr σ hJ => ?_) (fun i hi fr σ hJ => ?_) (fun e fr σ hE => ?_)
      · refine ⟨c2, v2, v3, v4, L, hG0, Nat.le_refl _, by omega, Nat.le_refl _, ?_⟩
        simp -implicitDefEqProofs (disch := omega) only [go_sem, ↓reduceIte, reduceCtorEq, Nat.reduceEqDiff, true_and, and_true]
        rfl
      · have hi : i < L.length := by have := (List.getElem?_eq_some_iff.1 hx).1; simpa using this
        exact no_round hT F SO hP (by omega) hi hS hCn h2.1 h2.2 fr σ hJ
      · have hi : i = L.length := by simpa using hi
        obtain ⟨t', w2, w3, w4, L', hG, hnL, hl', ht, f3, f5, f7, f8, rfl⟩ := hJ
        have htr : tri i ≤ 820 := tri_le (show i ≤ 40 by omega)
        rw [← hi] at f7
        generalize hn : i = n at f7
        rw [hn] at f8
        refine W_round [(3, .ref (.agg [.lst 1 (nints S) tS, .lst 4 (C'.map Cl.v) tC]) 0), (5, .ptr 1 v0 0), (7, .int .i64 (n : Int)), (8, .int .i64 (n : Int))] ⟨f3, f5, f7, f8, trivial⟩  1000 ?_
        simp -implicitDefEqProofs (disch := omega) only [go_sem, ↓reduceIte, Nat.reduceEqDiff, decide_false, Nat.lt_irrefl]
        exact ⟨rfl, t', w2, w3, w4, L', hG, by omega, ht, by simp -implicitDefEqProofs (disch := omega) only [go_sem, ↓reduceIte, Nat.reduceEqDiff], rfl⟩
      · obtain ⟨rfl, t', w2, w3, w4, L', hG, hl', ht, f5, rfl⟩ := hE
        refine run_sem 1000 ?_
        have n1 : ¬ inG L' (-1) := fun h => absurd h.1 (by decide)
        have n2 : ¬ inG L' (L'.length : Int) := fun h => absurd h.2 (by omega)
        have rm : ∀ x, ¬ inG L' x → Room L' (usesL L' [x]) 0 := fun x hx => .inr ⟨fun y hy => absurd (uses_none hG.ok hx y hy) (List.not_mem_nil), hl'⟩
        simp -implicitDefEqProofs (disch := omega) only [go_sem, ↓reduceIte, f5]
        refine call hT t_norm_Of (k_OfE hT F SO hP 0 hG (rm _ n1)) 1000 fun v σ hv => ?_
        obtain ⟨j, L1, hO, rfl, t1, x2, x3, x4, ht1, rfl⟩ := hv
        obtain ⟨rfl, rfl⟩ := hO.out n1
        simp -implicitDefEqProofs (disch := omega) only [go_sem, ↓reduceIte, Nat.reduceAdd, Nat.reduceEqDiff, beq_self_eq_true, f5]
        refine call hT t_term_Graph_Size (k_Size hT) 1000 fun v σ hv => ?_
        obtain ⟨rfl, t2, ht2, rfl⟩ := hv
        simp -implicitDefEqProofs (disch := omega) only [go_sem, ↓reduceIte, Nat.reduceAdd, Nat.reduceEqDiff]
        refine call hT t_norm_Of (k_OfE hT F SO hP 0 hG (rm _ n2)) 1000 fun v σ hv => ?_
        obtain ⟨j2, L2, hO2, rfl, t3, y2, y3, y4, ht3, rfl⟩ := hv
        obtain ⟨rfl, rfl⟩ := hO2.out n2
        simp -implicitDefEqProofs (disch := omega) only [go_sem, ↓reduceIte, Nat.reduceAdd, Nat.reduceEqDiff, beq_self_eq_true]
        refine callPS hT t_proofmarklaw04_works hW rfl 1000 ?_
        simp -implicitDefEqProofs (disch := omega) only [go_sem, ↓reduceIte, Nat.reduceEqDiff]
    · have h2' : decide (S.length ≤ 60 ∧ C'.length ≤ 60) = false := by simpa using h2
      rw [h2'] at hfew
      refine callPS hT t_proofmarklaw04_few hfew rfl 1000 ?_
      simp -implicitDefEqProofs (disch := omega) only [go_sem, ↓reduceIte, reduceCtorEq, Nat.reduceAdd, Nat.reduceEqDiff, Bool.not_false, Bool.not_false]
      refine callPS hT t_proofmarklaw04_works hW rfl 1000 ?_
      simp -implicitDefEqProofs (disch := omega) only [go_sem, ↓reduceIte, reduceCtorEq, Nat.reduceEqDiff]
end Go.Proofs.YtpdeoalocejodaaGreatDoor
