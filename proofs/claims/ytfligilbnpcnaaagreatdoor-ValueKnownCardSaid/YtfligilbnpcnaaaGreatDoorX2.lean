/- The law ValueNeeded: a round of its loop. -/
import Derived.Test.YtfligilbnpcnaaaGreatDoorX1
namespace Go.Proofs.YtfligilbnpcnaaaGreatDoor
open Go Go.Am
set_option maxRecDepth 100000
set_option maxHeartbeats 1000000
variable {P : Program} {G : Nat → Option V}

theorem kfrzG {fmt : Int → List UInt8} {v0 v1 v2 v3 v4 w : Nat} {cs : List V} {L : List Nd} {k : Nat} (hk : 5 ≤ k) {ex : List (Option Ob)} : mapFrom (frzV k w cs) 0 (kG fmt v0 v1 v2 v3 v4 L ++ ex) = kG fmt v0 v1 v2 v3 v4 L ++ mapFrom (frzV k w cs) 0 ex := by
  have h0 : ¬ 0 = k := by omega
  have h2 : ¬ 2 = k := by omega
  have h3 : ¬ 3 = k := by omega
  have h4 : ¬ 4 = k := by omega
  simp only [kG, List.cons_append, List.nil_append, mapFrom, Option.map_some, Ob.mapV, kfrz_ents, frzV_int (ndC_int L), List.map_map, List.map_cons, List.map_nil, frzV, h2, h3, h4, false_and, if_false]
  simp [frzV, Function.comp_def]
theorem z_Size (hT : TabOk P tab) {base : Nat} {fmt : Int → List UInt8} {v0 v1 v2 v3 v4 t : Nat} {L : List Nd} :
   C P G base n_term_Graph_Size [.ptr 1 v0 0] ⟨t, kG fmt v0 v1 v2 v3 v4 L⟩ fun v σ => v = .int .i64 L.length ∧ ∃ t', t ≤ t' ∧ σ = ⟨t', kG fmt v0 v1 v2 v3 v4 L⟩ := by
  have h := k_Size (P := P) (G := G) hT (base := base) (fmt := fmt) (v0 := v0) (v1 := v1) (v2 := v2) (v3 := v3) (v4 := v4) (t := t) (L := L) (ex := [])
  simpa only [List.append_nil] using h
theorem z_Needs (hT : TabOk P tab) (SO : SortOk P) (SI : SortF P n_slices_Sort_int64_int64) {base : Nat} {fmt : Int → List UInt8} {v0 v1 v2 v3 v4 t : Nat} {L : List Nd} (hL : L.length ≤ 1000000) (hwf : gwf L) (ids : List Int) (tight : Bool) (hrl : ids.length ≤ 1000000) :
    C P G base n_value_Needs [.ptr 1 v0 0, .lst 1 (ids.map (V.int .i64)) tight] ⟨t, kG fmt v0 v1 v2 v3 v4 L⟩ fun v σ => v = .tup [.lst 1 (nints (symS L (usesL L ids))) false, .lst 1 (nints (cellS L (usesL L ids))) false] ∧ ∃ t', t ≤ t' ∧ σ = ⟨t', kG fmt v0 v1 v2 v3 v4 L⟩ := by
  have h := k_Needs (P := P) (G := G) hT SO SI (base := base) (fmt := fmt) (v0 := v0) (v1 := v1) (v2 := v2) (v3 := v3) (v4 := v4) (t := t) (L := L) (ex := []) hL hwf ids 1 tight (.inl rfl) hrl
  simpa only [List.append_nil] using h
theorem z_Of (hT : TabOk P tab) (SO : SortOk P) {base : Nat} {fmt : Int → List UInt8} {v0 v1 v2 v3 v4 t : Nat} {L : List Nd} (hL : L.length ≤ 1000000) (hok : okN L) (S : List Int) (hS : ∀ x ∈ S, i64 x) (tS : Bool) (C' : List Cl) (hC : C'.length ≤ 1000000) (hCn : ∀ c ∈ C', i64 c.n) (tC : Bool) (x : Int) :
    C P G base n_value_Of [.ptr 1 v0 0, envV S tS 4 C' tC, .int .i64 x] ⟨t, kG fmt v0 v1 v2 v3 v4 L⟩ fun v σ => v = ofV S C' L x ∧ ∃ t', t ≤ t' ∧ σ = ⟨t', kG fmt v0 v1 v2 v3 v4 L⟩ := by
  have h := k_Of (P := P) (G := G) hT SO (base := base) (fmt := fmt) (v0 := v0) (v1 := v1) (v2 := v2) (v3 := v3) (v4 := v4) (t := t) (L := L) (ex := []) hL hok S hS tS C' hC hCn tC x
  simpa only [List.append_nil] using h
def cellsOther : List Cl := [⟨0, 0, 0, 77⟩, ⟨1, 0, 0, 78⟩]
/-- Values under the other environment. -/
theorem val_newL {S O : List Int} {C1 C2 : List Cl} {L : List Nd} (hwf : gwf L) (hfit : fit L) (hS : S.length ≤ 60) {id : Int} (h0 : 0 ≤ id) (h1 : id < L.length) (hc : cellS L (usesL L [id]) = [] ∨ C2 = C1) :
    val S C1 L id = val (newL S O (symS L (usesL L [id])) 60) C2 L id := by
  refine val_agree hwf hfit h0 h1 (fun x hx hk => ?_) (fun x hx hk y => ?_)
  · have hm : (nd L x).n ∈ symS L (usesL L [id]) := mem_symS.2 ⟨x, hx, hk, rfl⟩
    generalize (nd L x).n = k at hm
    generalize symS L (usesL L [id]) = ss at hm
    unfold symE
    rw [newL_len]
    by_cases hb : k < 0 ∨ ((60 : Nat) : Int) ≤ k
    · rw [if_pos hb, if_pos (by omega)]
    · rw [if_neg hb]
      have e : (newL S O ss 60).getD k.toNat 0 = symE S k := by
        have hlt : k.toNat < 60 := by omega
        rw [newL, List.getD_eq_getElem?_getD, List.getElem?_map, List.getElem?_range hlt]
        simp only [Option.map_some, Option.getD_some, newS]
        rw [show ((k.toNat : Nat) : Int) = k by omega, if_neg (fun h => h.1 hm)]
      rw [e]
      rfl
  · rcases hc with h | h
    · have := mem_cellS.2 ⟨hx, hk⟩
      rw [h] at this
      cases this
    · rw [h]
theorem newL_i64 {S O ss : List Int} (hS : ∀ x ∈ S, i64 x) (hO : ∀ x ∈ O, i64 x) (n : Nat) : ∀ x ∈ newL S O ss n, i64 x := by
  intro x hx
  obtain ⟨k, _, rfl⟩ := List.mem_map.1 hx
  unfold newS
  refine ite_i64 (getD_i64 hO _) ?_
  unfold symE
  exact ite_i64 (by unfold i64; omega) (getD_i64 hS _)
theorem fz_lst {k w z : Nat} {cs l : List V} {b : Bool} : frzV k w cs (.lst z l b) = .lst z l b := rfl
theorem fz_int {k w : Nat} {cs : List V} {t : IntKind} {i : Int} : frzV k w cs (.int t i) = .int t i := rfl
theorem fz_bool {k w : Nat} {cs : List V} {b : Bool} : frzV k w cs (.bool b) = .bool b := rfl
theorem fz_ref {k w o : Nat} {cs : List V} {x : V} : frzV k w cs (.ref x o) = .ref x o := rfl
theorem fz_ptr {k w n v o : Nat} {cs : List V} (h : n ≠ k) : frzV k w cs (.ptr n v o) = .ptr n v o := by simp [frzV, h]
abbrev vdJ (fmt : Int → List UInt8) (v0 v1 v2 v3 v4 : Nat) (L : List Nd) (S : List Int) (tS : Bool) (C' : List Cl) (tC : Bool) (O : List Int) (tO : Bool) : Nat → Fr → H → Prop := fun i fr σ => ∃ t', fget fr 2 = .lst 1 (nints O) tO ∧ fget fr 4 = .ref (.agg [.lst 1 (nints S) tS, .lst 4 (C'.map Cl.v) tC]) 0 ∧ fget fr 7 = .ptr 1 v0 0 ∧ fget fr 9 = .int .i64 ((i : Nat) : Int) ∧ σ = ⟨t', kG fmt v0 v1 v2 v3 v4 L⟩
abbrev vdE (fmt : Int → List UInt8) (v0 v1 v2 v3 v4 : Nat) (L : List Nd) : AE → Fr → H → Prop := fun e fr σ => e = .ex 0
theorem vd_round (hT : TabOk P tab) (SO : SortOk P) (SI : SortF P n_slices_Sort_int64_int64) {fmt : Int → List UInt8} {v0 v1 v2 v3 v4 i : Nat} {L : List Nd} (hL : L.length ≤ 1000) (hok : okN L) {O S : List Int} {tO tS tC : Bool} {C' : List Cl} (hSl : S.length ≤ 60) (hS : ∀ x ∈ S, i64 x) (hO : ∀ x ∈ O, i64 x) (hC : C'.length ≤ 1000000) (hCn : ∀ c ∈ C', i64 c.n) {d : Nd} (hx : L[i]? = some d) {fr : Fr} {σ : H} (hJ : vdJ fmt v0 v1 v2 v3 v4 L S tS C' tC O tO i fr σ) :
    W P G 154 0 (AC.seq (AC.seq (AC.reg zqf_5 [45, 46, 47])   (AC.cond (Arg.t 48)   AC.skip   (AC.exit 0)))   (AC.seq (AC.block 1 (AC.seq (AC.reg zqf_6 [51])   (AC.seq (AC.reg zqf_7 [53, 54, 55, 56, 52, 57, 58])   (AC.seq (AC.reg zqf_8 [59, 60, 61])   (AC.seq (AC.seq (AC.reg zqf_9 [])   (AC.block 2 (AC.loop (AC.seq (AC.seq (AC.reg zqf_10 [62])   (AC.cond (Arg.t 63)   AC.skip   (AC.exit 2)))   (AC.seq (AC.block 3 (AC.seq (AC.reg zqf_11 [66, 67, 68])   (AC.seq (AC.seq (AC.reg zqf_12 [69, 70, 71, 72, 73, 74, 75, 76, 77])   (AC.cond (Arg.t 78)   (AC.reg zqf_13 [79, 80, 81, 82])   AC.skip))   (AC.reg zqf_14 [83, 84, 85, 86, 87, 88]))))   (AC.reg zqf_15 [64, 65]))))))   (AC.seq (AC.seq (AC.reg zqf_16 [89, 90])   (AC.cond (Arg.t 91)   (AC.reg zqf_17 [92, 93, 94, 95])   AC.skip))   (AC.seq (AC.reg zqf_18 [97, 98, 99, 100, 96, 101, 102])   (AC.seq (AC.reg zqf_19 [104, 105, 106, 107, 103, 108, 109])   (AC.seq (AC.seq (AC.reg zqf_20 [110, 111, 112, 113, 114, 115, 116, 117, 118, 119])   (AC.cond (Arg.t 120)   (AC.seq (AC.reg zqf_21 [])   AC.ret)   AC.skip))   (AC.seq (AC.reg zqf_22 [122, 123, 124, 121, 125, 126, 21])   (AC.seq (AC.reg zqf_23 [127, 128])   (AC.cond (Arg.t 129)   (AC.seq (AC.reg zqf_24 [131, 132, 133, 134, 135, 130, 136, 137, 23])   (AC.seq (AC.reg zqf_25 [139, 140, 141, 142, 143, 138, 144, 145, 25])   (AC.seq (AC.reg zqf_26 [146, 147, 148, 149, 150, 151])   (AC.cond (Arg.t 152)   (AC.seq (AC.reg zqf_27 [])   AC.ret)   AC.skip))))   AC.skip))))))))))))   (AC.reg zqf_28 [49, 50]))) fr σ (seqQ (fun fr σ => ∃ fr' σ', Shift G 154 0 fr σ fr' σ' ∧ vdJ fmt v0 v1 v2 v3 v4 L S tS C' tC O tO (i + 1) fr' σ') (vdE fmt v0 v1 v2 v3 v4 L)) := by
  obtain ⟨t', f2, f4, f7, f9, rfl⟩ := hJ
  have hlt := (List.getElem?_eq_some_iff.1 hx).1
  have e2 := w_nx hlt (by omega)
  have hwf := hok.wf
  have hfit := fit_ok hok
  have hnd : nd L (i : Int) = d := by simp [nd, List.getD_eq_getElem?_getD, hx]
  have hss : (symS L (usesL L [(i : Int)])).length ≤ 1000000 := by
    have h1 := symS_len L (usesL L [(i : Int)])
    have h2 := rawS_len L (usesL L [(i : Int)])
    have h3 : (usesL L [(i : Int)]).length ≤ L.length := nodup_len _ _ uses_nodup uses_ok
    omega
  have hcs : (cellS L (usesL L [(i : Int)])).length ≤ 1000000 := by
    have h2 := cellS_len L (usesL L [(i : Int)])
    have h3 : (usesL L [(i : Int)]).length ≤ L.length := nodup_len _ _ uses_nodup uses_ok
    omega
  have hv := fun C2 h => val_newL (S := S) (O := O) (C1 := C') (C2 := C2) hwf hfit hSl (id := (i : Int)) (by omega) (by omega) h
  have hFi := newL_i64 (ss := symS L (usesL L [(i : Int)])) hS hO 60
  have hFl := newL_len (S := S) (O := O) (ss := symS L (usesL L [(i : Int)])) (n := 60)
  have hN := fun t => z_Needs (P := P) (G := G) hT SO SI (base := 0) (fmt := fmt) (v0 := v0) (v1 := v1) (v2 := v2) (v3 := v3) (v4 := v4) (t := t) (L := L) (by omega) hwf [(i : Int)] true (by simp)
  have hve := val_eq (S := S) (C := C') hwf hfit (x := (i : Int)) (by omega) (by omega)
  rw [hnd] at hve
  have hOg := fun x t ex => k_Of (P := P) (G := G) hT SO (base := 0) (fmt := fmt) (v0 := v0) (v1 := v1) (v2 := v2) (v3 := v3) (v4 := v4) (t := t) (ex := ex) (by omega) hok S hS tS C' hC hCn tC x
  have hO1 := fun t ex => hOg (i : Int) t ex
  have e1 : ofV S C' L (i : Int) = .tup [.int .i64 (val S C' L (i : Int)), .bool true] := by rw [ofV, if_pos ⟨by omega, by omega⟩]
  simp only [e1] at hO1
  have hvi := val_i64 hS hCn (okN_i64 hok)
  have hk4 : d.kind = 4 → (0 ≤ d.x ∧ d.x < L.length) ∧ (0 ≤ d.y ∧ d.y < L.length) ∧ (0 ≤ d.op ∧ d.op ≤ 255) ∧ val S C' L (i : Int) = doW d.op (val S C' L d.x) (val S C' L d.y) := fun h4 => by
    have hp := hwf i d hx
    have h1 := hp d.x (by simp [Nd.parts, h4])
    have h2 := hp d.y (by simp [Nd.parts, h4])
    have h3 := (hfit (i : Int) (by omega) (by omega)).2
    rw [hnd] at h3
    refine ⟨⟨by omega, by omega⟩, ⟨by omega, by omega⟩, h3, ?_⟩
    rw [hve, stepV]
    simp [h4]
  clear hve
  have hCo : ∀ c ∈ cellsOther, i64 c.n := by simp [cellsOther, i64]
  generalize symS L (usesL L [(i : Int)]) = ss at *
  generalize cellS L (usesL L [(i : Int)]) = cs at *
  refine W_round [(2, .lst 1 (nints O) tO), (4, .ref (.agg [.lst 1 (nints S) tS, .lst 4 (C'.map Cl.v) tC]) 0), (7, .ptr 1 v0 0), (9, .int .i64 ((i : Nat) : Int))] ⟨f2, f4, f7, f9, trivial⟩  1000 ?_
  simp -implicitDefEqProofs (disch := omega) only [go_sem, ↓reduceIte, Nat.reduceEqDiff, zqf_5, zqf_6, zqf_7, zqf_8, zqf_9, zqf_10, zqf_11, zqf_12, zqf_13, zqf_14, zqf_15, zqf_16, zqf_17, zqf_18, zqf_19, zqf_20, zqf_21, zqf_22, zqf_23, zqf_24, zqf_25, zqf_26, zqf_27, zqf_28]
  refine call hT t_term_Graph_Size (z_Size hT) 1000 fun u σ hu => ?_
  obtain ⟨rfl, t1, ht1, rfl⟩ := hu
  simp -implicitDefEqProofs (disch := omega) only [go_sem, ↓reduceIte, Nat.reduceEqDiff, Nat.zero_add, decide_true, Nat.le_refl, List.length_cons, List.length_nil, and_true, List.cons_append, List.nil_append, hlt]
  refine call hT t_value_Needs (hN _) 1000 fun u σ hu => ?_
  obtain ⟨rfl, t2, ht2, rfl⟩ := hu
  simp -implicitDefEqProofs (disch := omega) only [go_sem, ↓reduceIte, Nat.reduceAdd, Nat.reduceEqDiff, Nat.reduceLT, Nat.zero_add, Bool.not_false, Nat.le_refl, Nat.zero_le, kG_len0, kG_5, kGs_5, List.length_cons, List.length_nil, true_implies, and_true, List.cons_append, List.nil_append]
  refine sem_shift (HShift.shift (HShift.ownAt 1 2 (k := 5) (p := 0) (Nat.zero_le _) rfl rfl)) ?_
  simp -implicitDefEqProofs (disch := omega) only [go_sem, Nat.reduceAdd, Nat.zero_add, kG_len0, kG_app, kGs_5, List.length_append, List.length_cons, List.length_nil, List.cons_append, List.nil_append]
  refine vd_in (O := O) (tO := tO) (S := S) (tS := tS) (C' := C') (tC := tC) (ss := ss) (cs := cs) (i := i) (vf := t2) hT hss rfl ⟨by simp -implicitDefEqProofs (disch := omega) only [go_sem, ↓reduceIte], by simp -implicitDefEqProofs (disch := omega) only [go_sem, ↓reduceIte, Nat.reduceEqDiff], by simp -implicitDefEqProofs (disch := omega) only [go_sem, ↓reduceIte, Nat.reduceEqDiff], by simp -implicitDefEqProofs (disch := omega) only [go_sem, ↓reduceIte, Nat.reduceEqDiff], by simp -implicitDefEqProofs (disch := omega) only [go_sem, ↓reduceIte, Nat.reduceEqDiff], by simp -implicitDefEqProofs (disch := omega) only [go_sem, ↓reduceIte, Nat.reduceEqDiff], by simp -implicitDefEqProofs (disch := omega) only [go_sem, ↓reduceIte, Nat.reduceEqDiff], by simp -implicitDefEqProofs (disch := omega) only [go_sem, ↓reduceIte, Nat.reduceEqDiff], by simp -implicitDefEqProofs (disch := omega) only [go_sem, ↓reduceIte, Nat.reduceEqDiff]; rfl⟩ (fun fr' t3 r f2 f4 f7 f9 f10 f12 f13 => ?_)
  refine sem_exitS [(2, .lst 1 (nints O) tO), (4, .ref (.agg [.lst 1 (nints S) tS, .lst 4 (C'.map Cl.v) tC]) 0), (7, .ptr 1 v0 0), (9, .int .i64 ((i : Nat) : Int)), (10, .int .i64 ((i : Nat) : Int)), (12, .lst 1 (nints cs) false), (13, .ptr 5 t2 0)] ⟨f2, f4, f7, f9, f10, f12, f13, trivial⟩ ?_
  clear f2 f4 f7 f9 f10 f12 f13
  refine sem_shift (Shift.freeze (k := 6) (v := r) (T := 2) (cs := nints (newL S O ss 60)) (Nat.zero_le _) rfl (nints_nameless _)) ?_
  have hfz := frz_n (k := 6) (w := r) (newL S O ss 60)
  rw [hFl] at hfz
  simp only [kGs_6, kfrzG (show 5 ≤ 6 from by omega), hfz, frzFr_cons, frzFr_nil, fz_lst, fz_int, fz_ref, fz_ptr, ne_eq, Nat.reduceEqDiff, not_false_eq_true, mapFrom, Option.map_some, Option.map_none, Ob.mapV, List.map_cons, List.map_nil]
  generalize newL S O ss 60 = F at *
  refine sem_shift (Shift.drop (o' := kG fmt v0 v1 v2 v3 v4 L ++ [some (.arr t2 26 [.lst 1 (nints F) false, .lst 4 (C'.map Cl.v) tC])]) (t' := t3) (by simp [subObs, kG]) (Nat.le_refl _) (Nat.zero_le _)) (run_sem 1000 ?_)
  simp -implicitDefEqProofs (disch := omega) only [go_sem, ↓reduceIte, reduceCtorEq, Nat.reduceAdd, Nat.reduceEqDiff, Nat.reduceLeDiff, Nat.zero_add, Bool.not_false, Nat.le_refl, Nat.zero_le, kG_5, kGs_5, nints_length, List.length_cons, List.length_nil, false_implies, and_true, List.cons_append, List.nil_append]
  refine ⟨fun hcz => ?_, fun hcz => ?_⟩
  · have hcz' : cs = [] := List.length_eq_zero_iff.1 (by omega)
    have hv' := (hv cellsOther (.inl hcz')).symm
    have hO2 := fun t ex => k_Of (P := P) (G := G) hT SO (base := 0) (fmt := fmt) (v0 := v0) (v1 := v1) (v2 := v2) (v3 := v3) (v4 := v4) (t := t) (ex := ex) (by omega) hok F hFi false cellsOther (by decide) hCo true (i : Int)
    have e3 : ofV F cellsOther L (i : Int) = .tup [.int .i64 (val F cellsOther L (i : Int)), .bool true] := by rw [ofV, if_pos ⟨by omega, by omega⟩]
    simp only [e3] at hO2
    refine call hT t_value_Of (hO1 _ _) 1000 fun u σ hu => ?_
    obtain ⟨rfl, t4, ht4, rfl⟩ := hu
    simp -implicitDefEqProofs (disch := omega) only [go_sem, ↓reduceIte, reduceCtorEq, Nat.reduceAdd, Nat.reduceEqDiff, Nat.reduceLT, Nat.zero_add, Nat.le_refl, kG_5, List.length_cons, List.length_nil, false_implies, and_true]
    refine call hT t_value_Of (hO2 _ _) 1000 fun u σ hu => ?_
    obtain ⟨rfl, t5, ht5, rfl⟩ := hu
    simp -implicitDefEqProofs (disch := omega) only [go_sem, ↓reduceIte, Nat.reduceAdd, Nat.reduceEqDiff, Nat.reduceLT, Nat.zero_add, Bool.not_true, bne_self_eq_false, List.length_cons, List.length_nil, hv', bne_self_eq_false]
    refine call hT t_term_Graph_Node (k_NodeAt hT hx) 1000 fun u σ hu => ?_
    obtain ⟨rfl, t6, ht6, rfl⟩ := hu
    simp -implicitDefEqProofs (disch := omega) only [go_sem, ↓reduceIte, reduceCtorEq, Nat.reduceAdd, Nat.reduceEqDiff, Nat.reduceLeDiff, Nat.reduceLT, Nat.zero_add, Nat.add_zero, Bool.not_false, Nat.le_refl, Nat.zero_le, kG_len0, kG_app, kG_6, kGs_6, List.length_append, List.length_cons, List.length_nil, false_implies, true_implies, and_true, List.cons_append, List.nil_append, Nd.cells]
    refine ⟨fun h4 => ?_, fun h4 => ?_⟩
    · obtain ⟨hpx, hpy, hop, hv4⟩ := hk4 h4
      have ex1 : ofV S C' L d.x = .tup [.int .i64 (val S C' L d.x), .bool true] := by rw [ofV, if_pos hpx]
      have ex2 : ofV S C' L d.y = .tup [.int .i64 (val S C' L d.y), .bool true] := by rw [ofV, if_pos hpy]
      have hOx := fun t ex => hOg d.x t ex
      have hOy := fun t ex => hOg d.y t ex
      simp only [ex1] at hOx
      simp only [ex2] at hOy
      refine call hT t_value_Of (hOx _ _) 1000 fun u σ hu => ?_
      obtain ⟨rfl, t7, ht7, rfl⟩ := hu
      simp -implicitDefEqProofs (disch := omega) only [go_sem, ↓reduceIte, reduceCtorEq, Nat.reduceAdd, Nat.reduceEqDiff, Nat.reduceLT, Nat.zero_add, Nat.le_refl, kG_6, List.length_cons, List.length_nil, false_implies, true_implies, and_true]
      refine call hT t_value_Of (hOy _ _) 1000 fun u σ hu => ?_
      obtain ⟨rfl, t8, ht8, rfl⟩ := hu
      simp -implicitDefEqProofs (disch := omega) only [go_sem, ↓reduceIte, Nat.reduceAdd, Nat.reduceEqDiff, Nat.reduceLeDiff, Nat.reduceLT, Nat.zero_add, kG_6, List.length_cons, List.length_nil, true_implies, and_true]
      refine callPS hT t_word_Do (c_Do hT hop.1 hop.2 (hvi _) (hvi _)) rfl 1000 ?_
      simp -implicitDefEqProofs (disch := omega) only [go_sem, ↓reduceIte, Nat.reduceEqDiff, bne_self_eq_false, hv4, bne_self_eq_false, e2]
      refine ⟨_, _, Shift.drop (o' := kG fmt v0 v1 v2 v3 v4 L) (t' := t8) (by simp [subObs, kG]) (Nat.le_refl _) (Nat.zero_le _), t8, ?_⟩
      simp -implicitDefEqProofs (disch := omega) only [go_sem, ↓reduceIte, Nat.reduceEqDiff]
    · simp -implicitDefEqProofs (disch := omega) only [go_sem, e2]
      refine ⟨_, _, Shift.drop (o' := kG fmt v0 v1 v2 v3 v4 L) (t' := t6 + 1) (by simp [subObs, kG]) (Nat.le_refl _) (Nat.zero_le _), t6 + 1, ?_⟩
      simp -implicitDefEqProofs (disch := omega) only [go_sem, ↓reduceIte, Nat.reduceEqDiff]
  · clear hcz
    have hv' := (hv C' (.inr rfl)).symm
    have hO2 := fun t ex => k_Of (P := P) (G := G) hT SO (base := 0) (fmt := fmt) (v0 := v0) (v1 := v1) (v2 := v2) (v3 := v3) (v4 := v4) (t := t) (ex := ex) (by omega) hok F hFi false C' hC hCn tC (i : Int)
    have e3 : ofV F C' L (i : Int) = .tup [.int .i64 (val F C' L (i : Int)), .bool true] := by rw [ofV, if_pos ⟨by omega, by omega⟩]
    simp only [e3] at hO2
    refine call hT t_value_Of (hO1 _ _) 1000 fun u σ hu => ?_
    obtain ⟨rfl, t4, ht4, rfl⟩ := hu
    simp -implicitDefEqProofs (disch := omega) only [go_sem, ↓reduceIte, reduceCtorEq, Nat.reduceAdd, Nat.reduceEqDiff, Nat.reduceLT, Nat.zero_add, Nat.le_refl, kG_5, List.length_cons, List.length_nil, false_implies, and_true]
    refine call hT t_value_Of (hO2 _ _) 1000 fun u σ hu => ?_
    obtain ⟨rfl, t5, ht5, rfl⟩ := hu
    simp -implicitDefEqProofs (disch := omega) only [go_sem, ↓reduceIte, Nat.reduceAdd, Nat.reduceEqDiff, Nat.reduceLT, Nat.zero_add, Bool.not_true, bne_self_eq_false, List.length_cons, List.length_nil, hv', bne_self_eq_false]
    refine call hT t_term_Graph_Node (k_NodeAt hT hx) 1000 fun u σ hu => ?_
    obtain ⟨rfl, t6, ht6, rfl⟩ := hu
    simp -implicitDefEqProofs (disch := omega) only [go_sem, ↓reduceIte, reduceCtorEq, Nat.reduceAdd, Nat.reduceEqDiff, Nat.reduceLeDiff, Nat.reduceLT, Nat.zero_add, Nat.add_zero, Bool.not_false, Nat.le_refl, Nat.zero_le, kG_len0, kG_app, kG_6, kGs_6, List.length_append, List.length_cons, List.length_nil, false_implies, true_implies, and_true, List.cons_append, List.nil_append, Nd.cells]
    refine ⟨fun h4 => ?_, fun h4 => ?_⟩
    · obtain ⟨hpx, hpy, hop, hv4⟩ := hk4 h4
      have ex1 : ofV S C' L d.x = .tup [.int .i64 (val S C' L d.x), .bool true] := by rw [ofV, if_pos hpx]
      have ex2 : ofV S C' L d.y = .tup [.int .i64 (val S C' L d.y), .bool true] := by rw [ofV, if_pos hpy]
      have hOx := fun t ex => hOg d.x t ex
      have hOy := fun t ex => hOg d.y t ex
      simp only [ex1] at hOx
      simp only [ex2] at hOy
      refine call hT t_value_Of (hOx _ _) 1000 fun u σ hu => ?_
      obtain ⟨rfl, t7, ht7, rfl⟩ := hu
      simp -implicitDefEqProofs (disch := omega) only [go_sem, ↓reduceIte, reduceCtorEq, Nat.reduceAdd, Nat.reduceEqDiff, Nat.reduceLT, Nat.zero_add, Nat.le_refl, kG_6, List.length_cons, List.length_nil, false_implies, true_implies, and_true]
      refine call hT t_value_Of (hOy _ _) 1000 fun u σ hu => ?_
      obtain ⟨rfl, t8, ht8, rfl⟩ := hu
      simp -implicitDefEqProofs (disch := omega) only [go_sem, ↓reduceIte, Nat.reduceAdd, Nat.reduceEqDiff, Nat.reduceLeDiff, Nat.reduceLT, Nat.zero_add, kG_6, List.length_cons, List.length_nil, true_implies, and_true]
      refine callPS hT t_word_Do (c_Do hT hop.1 hop.2 (hvi _) (hvi _)) rfl 1000 ?_
      simp -implicitDefEqProofs (disch := omega) only [go_sem, ↓reduceIte, Nat.reduceEqDiff, bne_self_eq_false, hv4, bne_self_eq_false, e2]
      refine ⟨_, _, Shift.drop (o' := kG fmt v0 v1 v2 v3 v4 L) (t' := t8) (by simp [subObs, kG]) (Nat.le_refl _) (Nat.zero_le _), t8, ?_⟩
      simp -implicitDefEqProofs (disch := omega) only [go_sem, ↓reduceIte, Nat.reduceEqDiff]
    · simp -implicitDefEqProofs (disch := omega) only [go_sem, e2]
      refine ⟨_, _, Shift.drop (o' := kG fmt v0 v1 v2 v3 v4 L) (t' := t6 + 1) (by simp [subObs, kG]) (Nat.le_refl _) (Nat.zero_le _), t6 + 1, ?_⟩
      simp -implicitDefEqProofs (disch := omega) only [go_sem, ↓reduceIte, Nat.reduceEqDiff]
end Go.Proofs.YtfligilbnpcnaaaGreatDoor

