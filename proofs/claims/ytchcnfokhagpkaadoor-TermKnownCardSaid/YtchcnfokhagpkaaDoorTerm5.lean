/- The law TermAdds. -/
import Derived.Test.YtchcnfokhagpkaaDoorTerm4
import Derived.Test.YtchcnfokhagpkaaDoorAmD
namespace Go.Proofs.YtchcnfokhagpkaaDoor
open Go Go.Am
set_option maxRecDepth 100000
set_option maxHeartbeats 4000000
variable {P : Program} {G : Nat → Option V}

theorem b_Size (hT : TabOk P tab) {base : Nat} {v0 v1 v2 v3 v4 w0 w1 t : Nat} {L M : List Nd} {D N : List Int} :
   C P G base n_term_Graph_Size [.ptr 1 v0 0] ⟨t, bH v0 v1 v2 v3 v4 w0 w1 L D N M⟩ fun v σ => v = .int .i64 L.length ∧ σ = ⟨t, bH v0 v1 v2 v3 v4 w0 w1 L D N M⟩ := by
  refine C_tab hT t_term_Graph_Size (by simp [term_Graph_Size]) (W_run 1000 ?_)
  simp -implicitDefEqProofs (disch := omega) only [go_sem, ↓reduceIte, reduceCtorEq, Nat.reduceAdd, Nat.reduceEqDiff, Nat.reduceLeDiff, Nat.zero_add, Nat.add_zero, term_Graph_Size, term_Graph_Size_r0, term_Graph_Size_r1, term_Graph_Size_r2, term_Graph_Size_r3, bH]

theorem bH_5 {v0 v1 v2 v3 v4 w0 w1 : Nat} {L M : List Nd} {D N : List Int} : (bH v0 v1 v2 v3 v4 w0 w1 L D N M)[5]? = some (some (.arr w0 29 [.sl 6 w1 0 6 M.length none])) := rfl
theorem bH_6 {v0 v1 v2 v3 v4 w0 w1 : Nat} {L M : List Nd} {D N : List Int} : (bH v0 v1 v2 v3 v4 w0 w1 L D N M)[6]? = some (some (.arr w1 37 (ndC M))) := rfl
theorem bH_len {v0 v1 v2 v3 v4 w0 w1 : Nat} {L M : List Nd} {D N : List Int} : (bH v0 v1 v2 v3 v4 w0 w1 L D N M).length = 7 := rfl

def adds : List Nd → List Nd → List Nd
  | L, [] => L
  | L, d :: l => adds (addN L d).2 l
theorem addN_len (L : List Nd) (d : Nd) : (addN L d).2.length ≤ L.length + 1 := by
  unfold addN
  split
  · split <;> simp
  · simp
theorem adds_append : ∀ (L l : List Nd) (d : Nd), adds L (l ++ [d]) = (addN (adds L l) d).2
  | L, [], d => rfl
  | L, e :: l, d => by simp [adds, adds_append _ l d]
theorem adds_len : ∀ (L l : List Nd), (adds L l).length ≤ L.length + l.length
  | L, [] => by simp [adds]
  | L, d :: l => by
    have h1 := adds_len (addN L d).2 l
    have h2 := addN_len L d
    simp only [adds, List.length_cons]; omega

theorem bHx_5 {v0 v1 v2 v3 v4 w0 w1 : Nat} {L M : List Nd} {D N : List Int} {x : Option Ob} : (bH v0 v1 v2 v3 v4 w0 w1 L D N M ++ [x])[5]? = some (some (.arr w0 29 [.sl 6 w1 0 6 M.length none])) := rfl
theorem bHx_6 {v0 v1 v2 v3 v4 w0 w1 : Nat} {L M : List Nd} {D N : List Int} {x : Option Ob} : (bH v0 v1 v2 v3 v4 w0 w1 L D N M ++ [x])[6]? = some (some (.arr w1 37 (ndC M))) := rfl
theorem bHx_7 {v0 v1 v2 v3 v4 w0 w1 : Nat} {L M : List Nd} {D N : List Int} {x : Option Ob} : (bH v0 v1 v2 v3 v4 w0 w1 L D N M ++ [x])[7]? = some x := rfl
theorem bHx_set {v0 v1 v2 v3 v4 w0 w1 : Nat} {L M : List Nd} {D N : List Int} {x y : Option Ob} : (bH v0 v1 v2 v3 v4 w0 w1 L D N M ++ [x]).set 7 y = bH v0 v1 v2 v3 v4 w0 w1 L D N M ++ [y] := rfl
theorem subObs_app : ∀ (o ex : List (Option Ob)), subObs o (o ++ ex)
  | [], ex => by simp [subObs]
  | none :: o, ex => by simpa [subObs] using subObs_app o ex
  | some x :: o, ex => by simpa [subObs] using subObs_app o ex

theorem c_TermAdds2 (hT : TabOk P tab) (hW : Pure P G n_proofmarklaw02_works [] fun v => v = .bool true) {v0 v1 v2 v3 v4 t1 w1 t2 : Nat} {L : List Nd} {D N : List Int} (hL : L.length ≤ 100) {fr : Fr} (f3 : fget fr 3 = .ptr 1 v0 0) (f4 : fget fr 4 = .ptr 5 t1 0) (f6 : fget fr 6 = .int .i64 (-1)) :
   sem P G 99 0 (endK G [RV.tmp 2] fun v σ => v = V.bool true) [KI.ac (.loop (AC.seq (AC.seq (AC.reg proofmarklaw02_TermAdds_r11 [46, 47, 48, 49, 50, 51])   (AC.cond (Arg.t 52)   AC.skip   (AC.exit 2)))   (AC.seq (AC.block 3 (AC.seq (AC.reg proofmarklaw02_TermAdds_r12 [56, 57, 58, 55, 59, 60])   (AC.seq (AC.reg proofmarklaw02_TermAdds_r13 [61, 62, 63, 64, 65, 66, 67, 68, 69, 70, 71, 72, 73, 74, 75, 76, 77, 78, 79, 80, 81, 82, 83, 84, 85, 86, 87, 88, 89, 90, 91, 92, 93, 94, 95, 96])   (AC.cond (Arg.t 97)   (AC.seq (AC.reg proofmarklaw02_TermAdds_r14 [])   AC.ret)   AC.skip))))   (AC.reg proofmarklaw02_TermAdds_r15 [53, 54])))), KI.blk 2, KI.ac (.seq (.reg proofmarklaw02_TermAdds_r16 [98]) .ret)] .nrm fr ⟨t2, bH v0 v1 v2 v3 v4 t1 w1 L D N L⟩ := by
  refine sem_invE (fun m fr σ => ∃ (z : Int) (t2' : Nat), -1 ≤ z ∧ z ≤ L.length + 1 ∧ m = (L.length + 1 - z).toNat ∧ fget fr 3 = .ptr 1 v0 0 ∧ fget fr 4 = .ptr 5 t1 0 ∧ fget fr 6 = .int .i64 z ∧ σ = ⟨t2', bH v0 v1 v2 v3 v4 t1 w1 L D N L⟩)
    (fun e fr σ => e = .ex 2) (m0 := (L.length + 1 - (-1 : Int)).toNat) ⟨-1, t2, by omega, by omega, rfl, f3, f4, f6, rfl⟩ (fun m fr σ hJ => ?_) (fun e fr σ hE => ?_)
  · clear f3 f4 f6
    obtain ⟨z, t2', hz0, hz1, rfl, f3, f4, f6, rfl⟩ := hJ
    refine W_run 1000 ?_
    by_cases hz : z ≤ L.length
    · simp -implicitDefEqProofs (disch := omega) only [go_sem, ↓reduceIte, Nat.reduceEqDiff, Nat.zero_add, Nat.add_zero, decide_true, Nat.le_refl, proofmarklaw02_TermAdds_r11, proofmarklaw02_TermAdds_r12, proofmarklaw02_TermAdds_r13, proofmarklaw02_TermAdds_r14, proofmarklaw02_TermAdds_r15, f3, f4, f6, bH_5, hz]
      refine call hT t_term_Graph_Node (b_Node hT rfl) 1000 fun v σ hv => ?_
      obtain ⟨hv1, t3, ht3, hv2⟩ := hv
      subst hv1
      subst hv2
      have fin : ∀ (fr' : Fr) (t' : Nat) (b : Option Ob), t2' ≤ t' → fget fr' 3 = .ptr 1 v0 0 → fget fr' 4 = .ptr 5 t1 0 → fget fr' 6 = .int .i64 (z + 1) →
         ∃ m' fr1 σ1, m' < (L.length + 1 - z).toNat ∧ Shift G 99 0 fr' ⟨t', bH v0 v1 v2 v3 v4 t1 w1 L D N L ++ [b]⟩ fr1 σ1 ∧ ∃ (z : Int) (t2' : Nat), -1 ≤ z ∧ z ≤ L.length + 1 ∧ m' = (L.length + 1 - z).toNat ∧ fget fr1 3 = .ptr 1 v0 0 ∧ fget fr1 4 = .ptr 5 t1 0 ∧ fget fr1 6 = .int .i64 z ∧ σ1 = ⟨t2', bH v0 v1 v2 v3 v4 t1 w1 L D N L⟩ := fun fr' t' b h1 h2 h3 h4 =>
        ⟨(L.length + 1 - (z + 1)).toNat, fr', _, by omega, Shift.drop (o' := bH v0 v1 v2 v3 v4 t1 w1 L D N L) (t' := t') (subObs_app _ _) (Nat.le_refl _) (Nat.zero_le _), z + 1, t', by omega, by omega, rfl, h2, h3, h4, rfl⟩
      have hw : IntKind.i64.wrap (z + 1) = z + 1 := wrap_i64 (by omega) (by omega)
      rcases (by omega : z = -1 ∨ z = L.length ∨ (0 ≤ z ∧ z < L.length)) with hz2 | hz2 | ⟨hz2, hz3⟩
      · have hc : ¬ (0 ≤ z ∧ z < L.length) := by omega
        rw [if_neg hc]
        simp -implicitDefEqProofs (disch := omega) only [go_sem, ↓reduceIte, reduceCtorEq, Nat.reduceAdd, Nat.reduceEqDiff, Nat.reduceLT, Nat.zero_add, decide_false, Bool.not_true, Bool.not_false, Nat.le_refl, Nat.zero_le, ge_iff_le, beq_self_eq_true, bne_self_eq_false, f6, bH_len, bHx_7, bHx_set, Nd.cells, zeroNd, show ¬ 0 ≤ z from by omega]
        exact fin _ _ _ (by omega) (by simp -implicitDefEqProofs (disch := omega) only [go_sem, ↓reduceIte, Nat.reduceEqDiff, f3]) (by simp -implicitDefEqProofs (disch := omega) only [go_sem, ↓reduceIte, Nat.reduceEqDiff, f4]) (by simp -implicitDefEqProofs (disch := omega) only [go_sem, ↓reduceIte, Nat.reduceEqDiff, hw])
      · have hc : ¬ (0 ≤ z ∧ z < L.length) := by omega
        rw [if_neg hc]
        simp -implicitDefEqProofs (disch := omega) only [go_sem, ↓reduceIte, reduceCtorEq, Nat.reduceAdd, Nat.reduceEqDiff, Nat.reduceLT, Nat.zero_add, Nat.add_zero, decide_true, decide_false, Bool.not_true, Bool.not_false, Nat.le_refl, Nat.zero_le, ge_iff_le, beq_self_eq_true, bne_self_eq_false, f4, f6, bH_len, bHx_5, bHx_7, bHx_set, Nd.cells, zeroNd, show 0 ≤ z from by omega, show ¬ z < L.length from by omega]
        exact fin _ _ _ (by omega) (by simp -implicitDefEqProofs (disch := omega) only [go_sem, ↓reduceIte, Nat.reduceEqDiff, f3]) (by simp -implicitDefEqProofs (disch := omega) only [go_sem, ↓reduceIte, Nat.reduceEqDiff, f4]) (by simp -implicitDefEqProofs (disch := omega) only [go_sem, ↓reduceIte, Nat.reduceEqDiff, hw])
      · obtain ⟨j, rfl⟩ : ∃ j : Nat, z = j := ⟨z.toNat, by omega⟩
        rw [if_pos ⟨hz2, hz3⟩]
        obtain ⟨d, hd⟩ : ∃ d, L[j]? = some d := ⟨_, List.getElem?_eq_getElem (by omega)⟩
        have hgd : L.getD j zeroNd = d := by simp [List.getD_eq_getElem?_getD, hd]
        have hc := ndC_get hd
        have hln := ndC_length L
        have h6 : j * 6 + 6 ≤ (ndC L).length := by omega
        simp -implicitDefEqProofs (disch := omega) only [go_sem, need_of, ↓reduceIte, reduceCtorEq, Nat.reduceAdd, Nat.reduceEqDiff, Nat.reduceLT, Nat.zero_add, Nat.add_zero, decide_true, Bool.not_false, Nat.le_refl, Nat.zero_le, ge_iff_le, bne_self_eq_false, f4, f6, bH_len, bHx_5, bHx_6, bHx_7, bHx_set, Nd.cells, hgd, hz2, hz3, hc, h6]
        refine callPS hT t_proofmarkkit_PlainNode (c_Plain hT d) rfl 1000 ?_
        simp -implicitDefEqProofs (disch := omega) only [go_sem, ↓reduceIte, Nat.reduceAdd, Nat.reduceEqDiff, Bool.not_true, beq_self_eq_true, f6, Nd.cells]
        exact fin _ _ _ (by omega) (by simp -implicitDefEqProofs (disch := omega) only [go_sem, ↓reduceIte, Nat.reduceEqDiff, f3]) (by simp -implicitDefEqProofs (disch := omega) only [go_sem, ↓reduceIte, Nat.reduceEqDiff, f4]) (by simp -implicitDefEqProofs (disch := omega) only [go_sem, ↓reduceIte, Nat.reduceEqDiff, hw])
    · simp -implicitDefEqProofs (disch := omega) only [go_sem, ↓reduceIte, Nat.reduceEqDiff, Nat.zero_add, Nat.add_zero, decide_false, Nat.le_refl, proofmarklaw02_TermAdds_r11, proofmarklaw02_TermAdds_r12, proofmarklaw02_TermAdds_r13, proofmarklaw02_TermAdds_r14, proofmarklaw02_TermAdds_r15, f4, f6, bH_5, hz]
  · subst hE
    refine run_sem 1000 ?_
    simp -implicitDefEqProofs (disch := omega) only [go_sem, ↓reduceIte, proofmarklaw02_TermAdds_r16]
    refine callPS hT t_proofmarklaw02_works hW rfl 1000 ?_
    simp -implicitDefEqProofs (disch := omega) only [go_sem, ↓reduceIte, Nat.reduceEqDiff]

theorem c_TermAdds (hT : TabOk P tab) (F : Fmt P G) (hW : Pure P G n_proofmarklaw02_works [] fun v => v = .bool true) {t : Nat} (l : List Nd) (tight : Bool) (hl : ∀ d ∈ l, i64 d.n ∧ i64 d.a) :
   C P G 0 n_proofmarklaw02_TermAdds [.lst 6 (l.map fun d => .agg d.cells) tight] ⟨t, []⟩ fun v σ => v = .bool true := by
  refine C_tab hT t_proofmarklaw02_TermAdds (by simp [proofmarklaw02_TermAdds]) (W_run 1000 ?_)
  simp -implicitDefEqProofs (disch := omega) only [go_sem, ↓reduceIte, reduceCtorEq, Nat.reduceEqDiff, gt_iff_lt, proofmarklaw02_TermAdds, proofmarklaw02_TermAdds_r0, proofmarklaw02_TermAdds_r1, proofmarklaw02_TermAdds_r2, proofmarklaw02_TermAdds_r3, proofmarklaw02_TermAdds_r4, proofmarklaw02_TermAdds_r5, proofmarklaw02_TermAdds_r6, proofmarklaw02_TermAdds_r7, proofmarklaw02_TermAdds_r8, proofmarklaw02_TermAdds_r9, proofmarklaw02_TermAdds_r10, proofmarklaw02_TermAdds_r11, proofmarklaw02_TermAdds_r12, proofmarklaw02_TermAdds_r13, proofmarklaw02_TermAdds_r14, proofmarklaw02_TermAdds_r15, proofmarklaw02_TermAdds_r16, List.length_map]
  refine ⟨fun h100 => ?_, fun h100 => ?_⟩
  · refine callP hT t_proofmarklaw02_works hW rfl 1000 fun v hv => ?_
    subst hv
    simp -implicitDefEqProofs (disch := omega) only [go_sem, ↓reduceIte, reduceCtorEq, Nat.reduceEqDiff]
  · refine call hT t_term_New (c_New hT (Nat.zero_le _)) 9 fun v σ hv => ?_
    obtain ⟨v0, v1, v2, v3, v4, t1, i1, i2, i3, i4, ht1, rfl, rfl, rfl, rfl, rfl, rfl⟩ := hv
    simp -implicitDefEqProofs (disch := omega) only [go_sem, ↓reduceIte, reduceCtorEq, Nat.reduceAdd, Nat.reduceEqDiff, Nat.zero_add, List.length_nil, List.nil_append, List.length_cons, List.cons_append]
    have h1 := HShift.ownAt (G := G) 6 37 (base := 0) (k := 5) (v := t1) (T' := 29) (p := 0) (z := 0) (cs := [.lst 0 [] true]) (t := t1 + 1) (o := [some (.map v1 []), some (.arr v0 60 [.sl 2 v2 0 6 0 none, .mp 0 v1, .sl 3 v3 0 1 0 none, .sl 4 v4 0 1 0 none]), some (.arr v2 34 []), some (.arr v3 3 []), some (.arr v4 3 []), some (.arr t1 29 [.lst 0 [] true])]) (by omega) rfl rfl
    refine sem_shift h1.shift (run_sem 1000 ?_)
    simp -implicitDefEqProofs (disch := omega) only [go_sem, ↓reduceIte, reduceCtorEq, Nat.reduceAdd, Nat.reduceEqDiff, Nat.zero_add, List.length_nil, List.nil_append, List.length_cons, List.cons_append]
    refine sem_invE (fun m fr σ => ∃ (i v2' v3' v4' w1' t2 : Nat) (L : List Nd) (D N : List Int), i ≤ l.length ∧ m = l.length - i ∧ L.length ≤ i ∧ D.length = L.length ∧ N.length = L.length ∧ fget fr 0 = .lst 6 (l.map fun d => .agg d.cells) tight ∧ fget fr 3 = .ptr 1 v0 0 ∧ fget fr 4 = .ptr 5 t1 0 ∧ fget fr 5 = .int .i64 i ∧
      σ = ⟨t2, bH v0 v1 v2' v3' v4' t1 w1' L D N L⟩)
      (fun e fr σ => ∃ (v2' v3' v4' w1' t2 : Nat) (L : List Nd) (D N : List Int), L.length ≤ 100 ∧ e = .ex 0 ∧ fget fr 3 = .ptr 1 v0 0 ∧ fget fr 4 = .ptr 5 t1 0 ∧ σ = ⟨t2, bH v0 v1 v2' v3' v4' t1 w1' L D N L⟩)
      (m0 := l.length) ⟨0, v2, v3, v4, t1 + 1, t1 + 1 + 1, [], [], [], Nat.zero_le _, rfl, Nat.le_refl _, rfl, rfl, ?_⟩ (fun m fr σ hJ => ?_) (fun e fr σ hE => ?_)
    · simp -implicitDefEqProofs (disch := omega) only [go_sem, ↓reduceIte, reduceCtorEq, Nat.reduceEqDiff, ndC, bH, ents, List.map_nil, List.flatten_nil, List.length_nil]
      rfl
    · clear h1
      obtain ⟨i, v2', v3', v4', w1', t2, L, D, N, hi, rfl, hLL, hD, hN, f0, f3, f4, f5, rfl⟩ := hJ
      refine W_run 1000 ?_
      rcases Nat.lt_or_ge i l.length with hlt | hge
      · obtain ⟨d, hd⟩ : ∃ d, l[i]? = some d := ⟨_, List.getElem?_eq_getElem hlt⟩
        obtain ⟨hn, ha⟩ := hl d (List.mem_of_getElem? hd)
        have hc6 : d.cells.length = 6 := rfl
        have ht6 : d.cells.take 6 = d.cells := rfl
        have hg : (l.map fun d => V.agg d.cells).getD i .any = .agg d.cells := by simp [List.getD_eq_getElem?_getD, hd]
        simp -implicitDefEqProofs (disch := omega) only [go_sem, need_of, ↓reduceIte, reduceCtorEq, Nat.reduceEqDiff, Nat.succ_ne_zero, Nat.zero_add, decide_true, Nat.le_refl, List.length_map, f0, f3, f4, f5, hlt, hg, hc6, ht6]
        refine call hT t_term_Graph_Add (b_Add hT F d (by omega) hD hN hn ha) 1000 fun v σ hv => ?_
        obtain ⟨hv1, t3, v2'', v3'', v4'', D', N', ht3, hv2, hD', hN'⟩ := hv
        subst hv1
        subst hv2
        simp -implicitDefEqProofs (disch := omega) only [go_sem, ↓reduceIte, Nat.reduceEqDiff]
        refine callP hT t_proofmarkkit_PlainNode (c_Plain hT d) rfl 1000 fun v hv => ?_
        subst hv
        simp -implicitDefEqProofs (disch := omega) only [go_sem, ↓reduceIte, Nat.reduceEqDiff]
        refine call hT t_proofmarkref02_Graph_Add (b_rAdd hT d (by omega)) 1000 fun v σ hv => ?_
        obtain ⟨hv1, t4, w1'', ht4, hv2⟩ := hv
        subst hv1
        subst hv2
        have hlen := addN_len L d
        clear hc6 ht6 hg hn ha
        generalize (addN L d).2 = L' at *
        generalize (addN L d).1 = r' at *
        simp -implicitDefEqProofs (disch := omega) only [go_sem, ↓reduceIte, Nat.reduceAdd, Nat.reduceEqDiff, Nat.zero_add, Nat.add_zero, Nat.le_refl, bne_self_eq_false, bne_self_eq_false, f3, f4, bH_5, bH_len]
        refine callS hT t_term_Graph_Size (b_Size hT) 1000 ?_
        simp -implicitDefEqProofs (disch := omega) only [go_sem, ↓reduceIte, Nat.reduceAdd, Nat.reduceEqDiff, bne_self_eq_false, bne_self_eq_false, f5]
        refine ⟨l.length - (i + 1), _, _, by omega, Shift.refl _ _ _ _, i + 1, v2'', v3'', v4'', w1'', t4, L', D', N', hlt, rfl, by omega, hD', hN', ?_⟩
        have hw : IntKind.i64.wrap ((i : Int) + 1) = ((i + 1 : Nat) : Int) := by
          rw [wrap_i64 (by omega) (by omega)]; rfl
        simp -implicitDefEqProofs (disch := omega) only [go_sem, ↓reduceIte, reduceCtorEq, Nat.reduceEqDiff, Nat.succ_ne_zero, f0, f3, f4, hw]
      · simp -implicitDefEqProofs (disch := omega) only [go_sem, ↓reduceIte, Nat.reduceEqDiff, Nat.succ_ne_zero, decide_false, List.length_map, f0, f3, f4, f5, show ¬ i < l.length from by omega]
        exact ⟨v2', v3', v4', w1', t2, L, D, N, by omega, rfl, rfl⟩
    · clear h1
      obtain ⟨v2', v3', v4', w1', t2, L, D, N, hL, rfl, f3, f4, rfl⟩ := hE
      refine run_sem 1000 ?_
      simp -implicitDefEqProofs (disch := omega) only [go_sem, ↓reduceIte]
      exact c_TermAdds2 hT hW hL (by simp -implicitDefEqProofs (disch := omega) only [go_sem, ↓reduceIte, Nat.reduceEqDiff, f3]) (by simp -implicitDefEqProofs (disch := omega) only [go_sem, ↓reduceIte, Nat.reduceEqDiff, f4]) (by simp -implicitDefEqProofs (disch := omega) only [go_sem, ↓reduceIte])
end Go.Proofs.YtchcnfokhagpkaaDoor
