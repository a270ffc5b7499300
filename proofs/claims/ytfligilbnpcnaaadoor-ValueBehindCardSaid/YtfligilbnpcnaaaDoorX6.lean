/- The law ValueBehind: a round of its second loop. -/
import Derived.Test.YtfligilbnpcnaaaDoorX5
namespace Go.Proofs.YtfligilbnpcnaaaDoor
open Go Go.Am
set_option maxRecDepth 100000
set_option maxHeartbeats 1000000
variable {P : Program} {G : Nat → Option V}

abbrev vbJ (fmt : Int → List UInt8) (v0 v1 v2 v3 v4 : Nat) (L : List Nd) (S : List Int) (tS : Bool) (C' : List Cl) (tC : Bool) (S2 : List Int) (C2 : List Cl) : Nat → Fr → H → Prop := fun i fr σ => ∃ t', fget fr 4 = .ref (.agg [.lst 1 (nints S) tS, .lst 4 (C'.map Cl.v) tC]) 0 ∧ fget fr 7 = .ptr 1 v0 0 ∧ fget fr 9 = .ref (.agg [.lst 1 (nints S2) false, .lst 4 (C2.map Cl.v) false]) 0 ∧ fget fr 12 = .int .i64 ((i : Nat) : Int) ∧ σ = ⟨t', kG fmt v0 v1 v2 v3 v4 L⟩
abbrev vbE : AE → Fr → H → Prop := fun e fr σ => e = .ex 2
theorem vb_round (hT : TabOk P tab) (SO : SortOk P) (SI : SortF P n_slices_Sort_int64_int64) {fmt : Int → List UInt8} {v0 v1 v2 v3 v4 i : Nat} {L : List Nd} (hL : L.length ≤ 1000) (hok : okN L) {M S S2 : List Int} {tS tC : Bool} {C' C2 : List Cl} (hS2 : S2 = S ++ M) (hC2 : C2 = behC C' C'.length) (hS : ∀ x ∈ S, i64 x) (hM : ∀ x ∈ M, i64 x) (hC : C'.length ≤ 1000) (hCn : ∀ c ∈ C', i64 c.n) {d : Nd} (hx : L[i]? = some d) {fr : Fr} {σ : H} (hJ : vbJ fmt v0 v1 v2 v3 v4 L S tS C' tC S2 C2 i fr σ) :
    W P G 151 0 (AC.seq (AC.seq (AC.reg proofmarklaw03_ValueBehind_r15 [81, 82, 83])   (AC.cond (Arg.t 84)   AC.skip   (AC.exit 2)))   (AC.seq (AC.block 3 (AC.seq (AC.reg proofmarklaw03_ValueBehind_r16 [87])   (AC.seq (AC.reg proofmarklaw03_ValueBehind_r17 [89, 90, 91, 92, 88, 93, 94, 15])   (AC.seq (AC.reg proofmarklaw03_ValueBehind_r18 [])   (AC.seq (AC.seq (AC.reg proofmarklaw03_ValueBehind_r19 [])   (AC.block 4 (AC.loop (AC.seq (AC.seq (AC.reg proofmarklaw03_ValueBehind_r20 [95, 96, 97])   (AC.cond (Arg.t 98)   AC.skip   (AC.exit 4)))   (AC.seq (AC.block 5 (AC.seq (AC.reg proofmarklaw03_ValueBehind_r21 [101, 102, 103, 104, 105, 106, 107, 108, 109, 110, 111])   (AC.seq (AC.reg proofmarklaw03_ValueBehind_r22 [112, 113, 114, 115, 116, 117, 118, 119, 120, 121, 122, 123, 124, 125, 126, 127])   (AC.cond (Arg.t 128)   (AC.seq (AC.reg proofmarklaw03_ValueBehind_r23 [])   AC.ret)   AC.skip))))   (AC.reg proofmarklaw03_ValueBehind_r24 [99, 100]))))))   (AC.seq (AC.reg proofmarklaw03_ValueBehind_r25 [130, 131, 132, 133, 129, 134, 135, 19])   (AC.seq (AC.reg proofmarklaw03_ValueBehind_r26 [137, 138, 139, 140, 136, 141, 142, 21])   (AC.seq (AC.reg proofmarklaw03_ValueBehind_r27 [143, 144, 145, 146, 147, 148])   (AC.cond (Arg.t 149)   (AC.seq (AC.reg proofmarklaw03_ValueBehind_r28 [])   AC.ret)   AC.skip)))))))))   (AC.reg proofmarklaw03_ValueBehind_r29 [85, 86]))) fr σ (seqQ (fun fr σ => ∃ fr' σ', Shift G 151 0 fr σ fr' σ' ∧ vbJ fmt v0 v1 v2 v3 v4 L S tS C' tC S2 C2 (i + 1) fr' σ') vbE) := by
  obtain ⟨t', f4, f7, f9, f12, rfl⟩ := hJ
  have hlt := (List.getElem?_eq_some_iff.1 hx).1
  have e2 := w_nx hlt (by omega)
  have hwf := hok.wf
  have hfit := fit_ok hok
  have hss : (symS L (usesL L [(i : Int)])).length ≤ 1000000 := by
    have h1 := symS_len L (usesL L [(i : Int)])
    have h2 := rawS_len L (usesL L [(i : Int)])
    have h3 : (usesL L [(i : Int)]).length ≤ L.length := nodup_len _ _ uses_nodup uses_ok
    omega
  have hv : farS S.length (symS L (usesL L [(i : Int)])) = false → val S C' L (i : Int) = val S2 C2 L (i : Int) := fun h => by
    rw [hS2, hC2]
    exact val_beh hwf hfit (by omega) (by omega) (farS_false h)
  have hS2i : ∀ x ∈ S2, i64 x := by
    rw [hS2]
    intro x hx
    rcases List.mem_append.1 hx with h | h
    · exact hS x h
    · exact hM x h
  have hC2l : C2.length ≤ 1000000 := by rw [hC2, behC_len (Nat.le_refl _)]; omega
  have hC2n : ∀ c ∈ C2, i64 c.n := by rw [hC2]; exact behC_i64 hCn _
  have hN := fun t => z_Needs (P := P) (G := G) hT SO SI (base := 0) (fmt := fmt) (v0 := v0) (v1 := v1) (v2 := v2) (v3 := v3) (v4 := v4) (t := t) (L := L) (by omega) hwf [(i : Int)] true (by simp)
  have hO1 := fun t => z_Of (P := P) (G := G) hT SO (base := 0) (fmt := fmt) (v0 := v0) (v1 := v1) (v2 := v2) (v3 := v3) (v4 := v4) (t := t) (L := L) (by omega) hok S hS tS C' (by omega) hCn tC (i : Int)
  have hO2 := fun t => z_Of (P := P) (G := G) hT SO (base := 0) (fmt := fmt) (v0 := v0) (v1 := v1) (v2 := v2) (v3 := v3) (v4 := v4) (t := t) (L := L) (by omega) hok S2 hS2i false C2 hC2l hC2n false (i : Int)
  have e1 : ofV S C' L (i : Int) = .tup [.int .i64 (val S C' L (i : Int)), .bool true] := by rw [ofV, if_pos ⟨by omega, by omega⟩]
  have e3 : ofV S2 C2 L (i : Int) = .tup [.int .i64 (val S2 C2 L (i : Int)), .bool true] := by rw [ofV, if_pos ⟨by omega, by omega⟩]
  simp only [e1] at hO1
  simp only [e3] at hO2
  generalize symS L (usesL L [(i : Int)]) = ss at *
  generalize cellS L (usesL L [(i : Int)]) = cs at *
  clear hS2 hC2
  generalize val S C' L (i : Int) = x1 at *
  generalize val S2 C2 L (i : Int) = x2 at *
  refine W_round [(4, .ref (.agg [.lst 1 (nints S) tS, .lst 4 (C'.map Cl.v) tC]) 0), (7, .ptr 1 v0 0), (9, .ref (.agg [.lst 1 (nints S2) false, .lst 4 (C2.map Cl.v) false]) 0), (12, .int .i64 ((i : Nat) : Int))] ⟨f4, f7, f9, f12, trivial⟩  1000 ?_
  simp -implicitDefEqProofs (disch := omega) only [go_sem, ↓reduceIte, Nat.reduceEqDiff, proofmarklaw03_ValueBehind_r15, proofmarklaw03_ValueBehind_r16, proofmarklaw03_ValueBehind_r17, proofmarklaw03_ValueBehind_r18, proofmarklaw03_ValueBehind_r19, proofmarklaw03_ValueBehind_r20, proofmarklaw03_ValueBehind_r21, proofmarklaw03_ValueBehind_r22, proofmarklaw03_ValueBehind_r23, proofmarklaw03_ValueBehind_r24, proofmarklaw03_ValueBehind_r25, proofmarklaw03_ValueBehind_r26, proofmarklaw03_ValueBehind_r27, proofmarklaw03_ValueBehind_r28, proofmarklaw03_ValueBehind_r29]
  refine call hT t_term_Graph_Size (z_Size hT) 1000 fun u σ hu => ?_
  obtain ⟨rfl, t1, ht1, rfl⟩ := hu
  simp -implicitDefEqProofs (disch := omega) only [go_sem, ↓reduceIte, Nat.reduceEqDiff, Nat.zero_add, decide_true, Nat.le_refl, List.length_cons, List.length_nil, and_true, List.cons_append, List.nil_append, hlt]
  refine call hT t_value_Needs (hN _) 1000 fun u σ hu => ?_
  obtain ⟨rfl, t2, ht2, rfl⟩ := hu
  simp -implicitDefEqProofs (disch := omega) only [go_sem, ↓reduceIte, Nat.reduceAdd, Nat.reduceEqDiff, Nat.reduceLT, Nat.zero_add, List.length_cons, List.length_nil]
  refine vb2 (S := S) (tS := tS) (C' := C') (tC := tC) (S2 := S2) (C2 := C2) (ss := ss) (i := i) (v0 := v0) hT hss rfl rfl ⟨by simp -implicitDefEqProofs (disch := omega) only [go_sem, ↓reduceIte], by simp -implicitDefEqProofs (disch := omega) only [go_sem, ↓reduceIte, Nat.reduceEqDiff], by simp -implicitDefEqProofs (disch := omega) only [go_sem, ↓reduceIte, Nat.reduceEqDiff], by simp -implicitDefEqProofs (disch := omega) only [go_sem, ↓reduceIte, Nat.reduceEqDiff], by simp -implicitDefEqProofs (disch := omega) only [go_sem, ↓reduceIte, Nat.reduceEqDiff], by simp -implicitDefEqProofs (disch := omega) only [go_sem, ↓reduceIte, Nat.reduceEqDiff], by simp -implicitDefEqProofs (disch := omega) only [go_sem, ↓reduceIte, Nat.reduceEqDiff], by simp -implicitDefEqProofs (disch := omega) only [go_sem, ↓reduceIte, Nat.reduceEqDiff]; rfl⟩ (fun fr' k b hb ⟨f4, f7, f9, f12, f13, f14, f16, f17⟩ => ?_)
  rw [← hb] at hv
  refine sem_exit [(4, .ref (.agg [.lst 1 (nints S) tS, .lst 4 (C'.map Cl.v) tC]) 0), (7, .ptr 1 v0 0), (9, .ref (.agg [.lst 1 (nints S2) false, .lst 4 (C2.map Cl.v) false]) 0), (12, .int .i64 ((i : Nat) : Int)), (13, .int .i64 ((i : Nat) : Int)), (16, .bool b)] ⟨f4, f7, f9, f12, f13, f16, trivial⟩ 1000 ?_
  clear f4 f7 f9 f12 f13 f14 f16 f17 hb
  simp -implicitDefEqProofs (disch := omega) only [go_sem, ↓reduceIte, reduceCtorEq, Nat.reduceAdd, Nat.reduceEqDiff, Nat.zero_add, Nat.le_refl, List.length_cons, List.length_nil, false_implies, and_true]
  refine call hT t_value_Of (hO1 _) 1000 fun u σ hu => ?_
  obtain ⟨rfl, t4, ht4, rfl⟩ := hu
  simp -implicitDefEqProofs (disch := omega) only [go_sem, ↓reduceIte, reduceCtorEq, Nat.reduceAdd, Nat.reduceEqDiff, Nat.reduceLT, Nat.zero_add, Nat.le_refl, List.length_cons, List.length_nil, false_implies, and_true]
  refine call hT t_value_Of (hO2 _) 1000 fun u σ hu => ?_
  obtain ⟨rfl, t5, ht5, rfl⟩ := hu
  rcases Bool.eq_false_or_eq_true b with hbb | hbb
  · simp -implicitDefEqProofs (disch := omega) only [go_sem, ↓reduceIte, Nat.reduceAdd, Nat.reduceEqDiff, Nat.reduceLT, Nat.zero_add, Bool.not_true, List.length_cons, List.length_nil, hbb, e2]
    refine ⟨_, _, Shift.refl _ _ _ _, t5, ?_⟩
    simp -implicitDefEqProofs (disch := omega) only [go_sem, ↓reduceIte, Nat.reduceEqDiff]
  · have hx12 := hv hbb
    simp -implicitDefEqProofs (disch := omega) only [go_sem, ↓reduceIte, Nat.reduceAdd, Nat.reduceEqDiff, Nat.reduceLT, Nat.zero_add, Bool.not_false, bne_self_eq_false, List.length_cons, List.length_nil, hbb, e2, hx12, bne_self_eq_false]
    refine ⟨_, _, Shift.refl _ _ _ _, t5, ?_⟩
    simp -implicitDefEqProofs (disch := omega) only [go_sem, ↓reduceIte, Nat.reduceEqDiff]
end Go.Proofs.YtfligilbnpcnaaaDoor

