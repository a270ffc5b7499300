/- Reading a region: the faults. -/
import Derived.Test.YtaidbdgndljaeaaGreatDoorJ7
import Derived.Test.YtaidbdgndljaeaaGreatDoorJ4
/- Reading a region: the faults. -/
namespace Go.Proofs.YtaidbdgndljaeaaGreatDoor
open Go Go.Am Go.Rv Go.Rg
set_option maxRecDepth 100000
def zF : List V := [.str [], .int .i64 0, .lst 0 [] true, .int .i64 0, .lst 0 [] true]
def flt (n i e : Int) : List V := [.int .i64 n, .int .i64 i, .int .i64 e]
theorem faultAt_next {al : List Int} {pl F : Int} {c : List In} {ws : List Int} {i : Nat} {w : Int} (h : ws[i]? = some w) : faultAt al pl c F i (ws.drop i) = match dec w with
    | none => some (i, 220)
    | some x => if faultOf al pl c F i x ≠ 0 then some (i, faultOf al pl c F i x) else faultAt al pl c F (i + 1) (ws.drop (i + 1)) := by
  have hl := (List.getElem?_eq_some_iff.1 h).1
  rw [List.drop_eq_getElem_cons hl, (List.getElem?_eq_some_iff.1 h).2]
  rfl
abbrev fH (m : Im) (nm : List UInt8) (pl : Int) (c : List In) (F : Int) (ws : List Int) (v1 v2 vr vm : Nat) : List (Option Ob) := rd6 m nm pl c F vr (some (.arr v1 37 zF)) (some (.arr v2 31 (flt 0 0 0))) (some (.map vm (km kI oneI (badS ws ws.length))))
abbrev flJ (m : Im) (nm : List UInt8) (pl : Int) (c : List In) (F : Int) (ws : List Int) (n v1 v2 vr vm : Nat) : Nat → Fr → H → Prop := fun i fr σ => ∃ t, faultAt (ats m) pl c F 0 ws = faultAt (ats m) pl c F i (ws.drop i) ∧ fget fr 1 = .int .i64 ((n : Nat) : Int) ∧ fget fr 4 = .ptr 1 v1 0 ∧ fget fr 5 = .ptr 2 v2 0 ∧ fget fr 8 = .ptr 3 vr 0 ∧ fget fr 9 = .mp 4 vm ∧ fget fr 87 = .int .i64 c.length ∧ fget fr 88 = .int .i64 ((i : Nat) : Int) ∧ σ = ⟨t, fH m nm pl c F ws v1 v2 vr vm⟩
abbrev flE (m : Im) (nm : List UInt8) (pl : Int) (c : List In) (F : Int) (ws : List Int) (n v1 v2 vr vm : Nat) : AE → Fr → H → Prop := fun e fr σ =>
  (e = .ret ∧ fget fr 4 = .ptr 1 v1 0 ∧ fget fr 5 = .ptr 2 v2 0 ∧ ∃ (i : Nat) (er : Int) (t : Nat) (X3 X4 : Option Ob), faultAt (ats m) pl c F 0 ws = some (i, er) ∧ σ = ⟨t, [none, some (.arr v1 37 zF), some (.arr v2 31 (flt n i er)), X3, X4, none]⟩) ∨
  (e = .ex 2 ∧ faultAt (ats m) pl c F 0 ws = none ∧ fget fr 1 = .int .i64 ((n : Nat) : Int) ∧ fget fr 4 = .ptr 1 v1 0 ∧ fget fr 5 = .ptr 2 v2 0 ∧ fget fr 8 = .ptr 3 vr 0 ∧ ∃ t, σ = ⟨t, fH m nm pl c F ws v1 v2 vr vm⟩)
theorem fl_round (hT : TabOk Tryz.prog tab) {m : Im} {nm : List UInt8} {pl F : Int} {ws : List Int} {n v1 v2 vr vm : Nat} (hw : ∀ w ∈ ws, 0 ≤ w ∧ w < 4294967296) (hl : ws.length ≤ 1000) (hs : m.syms.length ≤ 1000) (hpl : 0 ≤ pl ∧ pl ≤ 1099511627776) {i : Nat} {w : Int} (hx : ws[i]? = some w) {fr : Fr} {σ : H} (hJ : flJ m nm pl (codeOf ws) F ws n v1 v2 vr vm i fr σ) :
    W Tryz.prog G0 124 0 (AC.seq (AC.reg zqk_14 [])   (AC.seq (AC.cond (Arg.t 89)   AC.skip   (AC.exit 2))   (AC.seq (AC.block 3 (AC.seq (AC.reg zqk_15 [90])   (AC.seq (AC.seq (AC.reg zqk_16 [91, 92, 93])   (AC.cond (Arg.t 94)   (AC.seq (AC.reg zqk_17 [95, 96, 97, 98])   AC.ret)   AC.skip))   (AC.seq (AC.reg zqk_18 [99, 100, 101])   (AC.seq (AC.reg zqk_19 [102])   (AC.cond (Arg.t 103)   (AC.seq (AC.reg zqk_20 [104, 105, 106, 107, 108])   AC.ret)   AC.skip))))))   (AC.reg zqk_21 [109])))) fr σ (seqQ (fun fr σ => ∃ fr' σ', Shift G0 124 0 fr σ fr' σ' ∧ flJ m nm pl (codeOf ws) F ws n v1 v2 vr vm (i + 1) fr' σ') (flE m nm pl (codeOf ws) F ws n v1 v2 vr vm)) := by
  obtain ⟨t, hf, f1, f4, f5, f8, f9, f87, f88, rfl⟩ := hJ
  have hlt := (List.getElem?_eq_some_iff.1 hx).1
  have hcl : (codeOf ws).length = ws.length := by simp [codeOf]
  have hltc : ((i : Int) < ((codeOf ws).length : Int)) = True := eq_true (by omega)
  have e2 := wnext hlt (by omega)
  have hwb := hw w (List.mem_of_getElem? hx)
  have hfn := faultAt_next (al := ats m) (pl := pl) (F := F) (c := codeOf ws) hx
  rw [← hf] at hfn
  have hg := mget_km (ks := [Kd.i]) (key := kI) kI_eq oneI (i : Int) (badS ws ws.length)
  have hk : ∀ f S, keysOk false [Kd.i] (V.int .i64 (i : Int)) (km kI f S) = True := fun f S => eq_true (keysOk_I (i : Int) f S)
  have hci : (codeOf ws)[i]? = some ((dec w).getD zeroI) := by simp [codeOf, hx]
  have hltn : i < (codeOf ws).length := by omega
  cases hd : dec w with
  | none =>
    rw [hd] at hfn
    rw [if_pos (mem_badS.2 ⟨hlt, by rw [hx]; simp [hd]⟩)] at hg
    simp only [kI, oneI] at hg
    refine W_round [(1, .int .i64 ((n : Nat) : Int)), (4, .ptr 1 v1 0), (5, .ptr 2 v2 0), (8, .ptr 3 vr 0), (9, .mp 4 vm), (87, .int .i64 (codeOf ws).length), (88, .int .i64 ((i : Nat) : Int))] ⟨f1, f4, f5, f8, f9, f87, f88, trivial⟩  60 ?_
    simp -implicitDefEqProofs (disch := omega) only [go_sem, ↓reduceIte, Nat.reduceAdd, Nat.reduceEqDiff, Nat.reduceLeDiff, Int.reduceLT, Nat.zero_add, decide_true, Bool.not_false, Nat.le_refl, Nat.zero_le, gt_iff_lt, Option.getD_some, zqk_14, zqk_15, zqk_16, zqk_17, zqk_18, zqk_19, zqk_20, zqk_21, rd6, rdC, zF, flt, symsV, codeV, inC, insV, V.cells, and_true, Bool.not_false, List.cons_append, List.nil_append, gt_iff_lt, hltc, hg, hk, Option.getD_some]
    exact .inl ⟨rfl, rfl, rfl, i, 220, t, _, _, hfn, rfl⟩
  | some x =>
    rw [hd] at hfn
    simp only at hfn
    rw [if_neg (fun h => by have := (mem_badS.1 h).2; rw [hx] at this; simp [hd] at this)] at hg
    simp only [kI] at hg
    rw [hd] at hci
    obtain ⟨d1, d2⟩ := dec_le hwb.1 hd
    have hA : Ask m pl (codeOf ws) i x := ⟨hci, by omega, hs, ⟨d1.1, d1.2.1, d1.2.2.1, d1.2.2.2, by unfold i64; omega⟩, by omega, hpl⟩
    have hF := c_fault hT (nm := nm) (F := F) (vr := vr) (t := t) (X1 := some (.arr v1 37 zF)) (X2 := some (.arr v2 31 (flt 0 0 0))) (X4 := some (.map vm (km kI oneI (badS ws ws.length)))) hA
    simp only [rd6, rdC, zF, flt, insV, symsV, codeV, inC] at hF
    generalize faultOf (ats m) pl (codeOf ws) F i x = er at *
    refine W_round [(1, .int .i64 ((n : Nat) : Int)), (4, .ptr 1 v1 0), (5, .ptr 2 v2 0), (8, .ptr 3 vr 0), (9, .mp 4 vm), (87, .int .i64 (codeOf ws).length), (88, .int .i64 ((i : Nat) : Int))] ⟨f1, f4, f5, f8, f9, f87, f88, trivial⟩  60 ?_
    simp -implicitDefEqProofs (disch := omega) only [go_sem, ↓reduceIte, Nat.reduceEqDiff, Int.reduceLT, decide_true, decide_false, gt_iff_lt, Option.getD_none, zqk_14, zqk_15, zqk_16, zqk_17, zqk_18, zqk_19, zqk_20, zqk_21, rd6, rdC, zF, flt, symsV, codeV, inC, insV, and_true, gt_iff_lt, hltc, hg, hk, Option.getD_none]
    refine call hT t_regions_reader_fault hF 40 fun v σ hv => ?_
    obtain ⟨rfl, t2, ht2, rfl⟩ := hv
    by_cases h0 : er = 0
    · have h0' : (er != 0) = false := by simp [h0]
      rw [if_neg (by simpa using h0)] at hfn
      simp -implicitDefEqProofs (disch := omega) only [go_sem, ↓reduceIte, Nat.reduceEqDiff, h0']
      iterate 4 (try (refine run_sem 4 ?_; simp -implicitDefEqProofs (disch := omega) only [go_sem, need_of, ↓reduceIte, reduceCtorEq, Nat.reduceAdd, Nat.reduceEqDiff, Nat.reduceLeDiff, Nat.reduceLT, Nat.reduceSub, Nat.reduceMul, Int.reduceToNat, Int.reduceLE, Int.reduceLT, Int.reduceEq, Int.reduceNe, Nat.succ_ne_zero, Nat.zero_add, Nat.add_zero, Nat.mul_one, Nat.one_mul, Nat.zero_mul, decide_true, decide_false, Bool.not_true, Bool.not_false, Nat.le_refl, Nat.zero_le, ge_iff_le, gt_iff_lt, Nat.reduceBEq, Nat.reduceBNe, beq_self_eq_true, bne_self_eq_false, Option.isSome_some, Option.isSome_none, Option.getD_some, Option.getD_none, regions_read, zqk_0, zqk_1, zqk_2, zqk_3, zqk_4, zqk_5, zqk_6, zqk_7, zqk_8, zqk_9, zqk_10, zqk_11, zqk_12, zqk_13, zqk_14, zqk_15, zqk_16, zqk_17, zqk_18, zqk_19, zqk_20, zqk_21, zqk_22, zqk_23, rd6, rdC, zF, flt, symsV, codeV, inC, insV, V.cells, List.length_map, false_implies, true_implies, true_and, and_true, not_true_eq_false, not_false_eq_true, Int.reduceBEq, Int.reduceBNe, Bool.not_true, Bool.not_false, List.cons_append, List.nil_append, ge_iff_le, gt_iff_lt, h0']))
      refine ⟨_, _, Shift.refl _ _ _ _, t2, hfn, ?_⟩
      simp -implicitDefEqProofs (disch := omega) only [go_sem, ↓reduceIte, Nat.reduceEqDiff, rd6, rdC, zF, flt, symsV, codeV, inC, insV, and_true, e2]
      try simp
    · have h0' : (er != 0) = true := by simp [h0]
      rw [if_pos h0] at hfn
      simp -implicitDefEqProofs (disch := omega) only [go_sem, ↓reduceIte, Nat.reduceAdd, Nat.reduceEqDiff, Nat.reduceLeDiff, Nat.zero_add, Bool.not_false, Nat.le_refl, Nat.zero_le, V.cells, and_true, Bool.not_false, List.cons_append, List.nil_append, h0']
      iterate 4 (try (refine run_sem 4 ?_; simp -implicitDefEqProofs (disch := omega) only [go_sem, need_of, ↓reduceIte, reduceCtorEq, Nat.reduceAdd, Nat.reduceEqDiff, Nat.reduceLeDiff, Nat.reduceLT, Nat.reduceSub, Nat.reduceMul, Int.reduceToNat, Int.reduceLE, Int.reduceLT, Int.reduceEq, Int.reduceNe, Nat.succ_ne_zero, Nat.zero_add, Nat.add_zero, Nat.mul_one, Nat.one_mul, Nat.zero_mul, decide_true, decide_false, Bool.not_true, Bool.not_false, Nat.le_refl, Nat.zero_le, ge_iff_le, gt_iff_lt, Nat.reduceBEq, Nat.reduceBNe, beq_self_eq_true, bne_self_eq_false, Option.isSome_some, Option.isSome_none, Option.getD_some, Option.getD_none, regions_read, zqk_0, zqk_1, zqk_2, zqk_3, zqk_4, zqk_5, zqk_6, zqk_7, zqk_8, zqk_9, zqk_10, zqk_11, zqk_12, zqk_13, zqk_14, zqk_15, zqk_16, zqk_17, zqk_18, zqk_19, zqk_20, zqk_21, zqk_22, zqk_23, rd6, rdC, zF, flt, symsV, codeV, inC, insV, V.cells, List.length_map, false_implies, true_implies, true_and, and_true, not_true_eq_false, not_false_eq_true, Int.reduceBEq, Int.reduceBNe, Bool.not_true, Bool.not_false, List.cons_append, List.nil_append, ge_iff_le, gt_iff_lt, h0']))
      exact .inl ⟨rfl, rfl, rfl, i, er, t2, _, _, hfn, rfl⟩
end Go.Proofs.YtaidbdgndljaeaaGreatDoor
/- Reading a region. -/
namespace Go.Proofs.YtaidbdgndljaeaaGreatDoor
open Go Go.Am Go.Rv Go.Rg
set_option maxRecDepth 100000
theorem chunk5 (c : List In) : chunkV 5 c.length (rowC5 c) = c.map fun x => V.agg (inC x) := by
  induction c with
  | nil => rfl
  | cons x c ih =>
    show chunkV 5 (c.length + 1) (inC x ++ rowC5 c) = _
    unfold chunkV
    rw [List.map_cons, ← ih]
    rfl
def readV (n : Nat) : Rg.Fn ⊕ (Nat × Int) → V
  | .inl f => .tup [.agg (fnC f.name f.pl f.code f.frame f.cuts), .agg (flt 0 0 0)]
  | .inr e => .tup [.agg (fnC [] 0 [] 0 []), .agg (flt n e.1 e.2)]
theorem wk_zF : Wk (.agg zF) (.agg (fnC [] 0 [] 0 [])) :=
  .agg _ _ (.cons _ _ _ _ (.refl _) (.cons _ _ _ _ (.refl _) (.cons _ _ _ _ (.lst 0 5 [] [] true .nil (.inl rfl)) (.cons _ _ _ _ (.refl _) (.cons _ _ _ _ (.lst 0 1 [] [] true .nil (.inl rfl)) .nil)))))
theorem rowC5_nl (c : List In) : namelessL (rowC5 c) = true := by
  induction c with
  | nil => rfl
  | cons x c ih =>
    show namelessL (inC x ++ rowC5 c) = true
    rw [namelessL_append, ih]; rfl
theorem c_read0 (hT : TabOk Tryz.prog tab) (m : Im) (hm : ImB m) (hr : right m = true) (hw : ∀ w ∈ m.code, 0 ≤ w ∧ w < 4294967296) (hl : m.code.length ≤ 1000) {n : Nat} {s : List UInt8 × Int} (hs : m.syms[n]? = some s) :
    Am.Pure Tryz.prog G0 n_regions_read [imgV m, .int .i64 (n : Int)] fun v => Wk v (readV n (readS (ats m) s.1 s.2 (words m n))) := by
  intro t
  have hB := c_Bounds (P := Tryz.prog) (G := G0) hT m hm hr hs
  have hlt := (List.getElem?_eq_some_iff.1 hs).1
  have hD := ats_get hs
  obtain ⟨a, b, ef, et, hab, hbl, es, ew⟩ := (right_rt hr).bounds hs
  have hsl := hm.s
  have hnl := img_nl m
  rw [ef, et] at hB
  have w1 : IntKind.i64.wrap ((4 * (a : Int)).tdiv 4) = (a : Int) := by
    rw [Int.mul_tdiv_cancel_left _ (by decide), wself (by omega)]
  have w2 : IntKind.i64.wrap ((4 * (b : Int)).tdiv 4) = (b : Int) := by
    rw [Int.mul_tdiv_cancel_left _ (by decide), wself (by omega)]
  have hdt : List.take (b - a) (List.drop a (m.code.map (V.int .u32))) = (words m n).map (V.int .u32) := by rw [ew]; simp [List.map_take, List.map_drop]
  have hwl : (words m n).length = b - a := by rw [ew]; simp; omega
  have hwb : ∀ w ∈ words m n, 0 ≤ w ∧ w < 4294967296 := fun w h => by
    rw [ew] at h
    exact hw w (List.mem_of_mem_drop (List.mem_of_mem_take h))
  generalize words m n = ws at *
  simp only [imgV, imgC, symsV, codeV] at hB hnl
  simp only [symV] at hD
  refine C_keep 0 (Nat.zero_le _) (C_tab hT t_regions_read (by simp [regions_read]) (W_run 6 ?_))
  simp -implicitDefEqProofs (disch := omega) only [go_sem, ↓reduceIte, reduceCtorEq, Nat.reduceAdd, Nat.reduceEqDiff, Nat.zero_add, regions_read, zqk_0, zqk_1, zqk_2, zqk_3, zqk_4, zqk_5, zqk_6, zqk_7, zqk_8, zqk_9, zqk_10, zqk_11, zqk_12, zqk_13, zqk_14, zqk_15, zqk_16, zqk_17, zqk_18, zqk_19, zqk_20, zqk_21, zqk_22, zqk_23, imgV, imgC, symsV, codeV, V.cells, and_true, List.cons_append, List.nil_append]
  refine sem_shift (Shift.freeze (k := 0) (v := t) (T := 25) (cs := imgC m) (Nat.zero_le _) rfl (imgC_nl m)) ?_
  simp only [imgC, symsV, codeV, frzFr_cons, frzFr_nil, frzL, frzV, mapFrom, Ob.mapV, List.set_cons_zero, Option.map_some, Option.map_none, List.map_cons, List.map_nil]
  refine run_sem 9 ?_
  simp -implicitDefEqProofs (disch := omega) only [go_sem, ↓reduceIte, reduceCtorEq, Nat.reduceAdd, Nat.reduceEqDiff, Nat.succ_ne_zero, Nat.zero_add, Nat.le_refl, V.cells, false_implies, and_true]
  refine callPS hT t_image_Bounds hB (by simp [namelessL, nameless]) 26 ?_
  simp -implicitDefEqProofs (disch := omega) only [go_sem, need_of, ↓reduceIte, reduceCtorEq, Nat.reduceAdd, Nat.reduceEqDiff, Nat.reduceLeDiff, Nat.reduceLT, Nat.zero_add, Nat.add_zero, Nat.le_refl, V.cells, List.length_map, false_implies, true_implies, and_true, List.cons_append, List.nil_append, hlt, hD]
  refine sem_shift (HShift.shift (HShift.ownAt 5 47 (base := 0) (k := 3) (v := t + 1 + 1 + 1) (T' := 107) (p := 5) (z := 0) (cs := [.int .i64 m.data, .lst 2 (m.syms.map symV) false, .lst 1 (m.code.map (V.int .u32)) false, .str s.1, .int .i64 (4 * (a : Int)), .lst 0 [] true, .int .i64 0, .lst 0 [] true]) (Nat.zero_le _) rfl rfl)) ?_
  simp only [List.set_cons_succ, List.set_cons_zero, List.length_cons, List.length_nil, List.cons_append, List.nil_append]
  have ha0 : ¬ ((a : Int) < 0) := by omega
  have hab' : ((a : Int) ≤ (b : Int)) = True := eq_true (by omega)
  have hab'' : (a ≤ b) = True := eq_true (by omega)
  have h0a : ((0 : Int) ≤ (a : Int)) = True := eq_true (by omega)
  have hbl' : (b ≤ m.code.length) = True := eq_true hbl
  refine run_sem 14 ?_
  simp -implicitDefEqProofs (disch := omega) only [go_sem, ↓reduceIte, reduceCtorEq, Nat.reduceAdd, Nat.reduceEqDiff, Int.reduceEq, Nat.zero_add, Nat.le_refl, V.cells, List.length_map, true_implies, and_true, not_false_eq_true, w1, w2, hdt, hab', h0a, hbl', Int.toNat_natCast]
  generalize t + 1 = v1
  generalize v1 + 1 = v2
  generalize v2 + 1 = vr
  generalize vr + 1 = vm
  refine sem_for ws (rwJ m s.1 (4 * (a : Int)) ws n v1 v2 vr vm (some (.arr v1 37 zF)) (some (.arr v2 31 (flt 0 0 0)))) (rwE m s.1 (4 * (a : Int)) ws n v1 v2 vr vm (some (.arr v1 37 zF)) (some (.arr v2 31 (flt 0 0 0)))) ⟨vm + 1 + 1, vm + 1, ?_⟩ (fun i w hx fr σ hJ => rw_round hT hwb (by omega) hx hJ) (fun i hi fr σ hJ => ?_) (fun e fr σ hE => ?_)
  · simp -implicitDefEqProofs (disch := omega) only [go_sem, ↓reduceIte, reduceCtorEq, Nat.reduceEqDiff, zF, flt, codeV, true_and]
    simp [rcC, symsV, codeV, badS, km, rowC5]
  · obtain ⟨t2, wv, f1, f4, f5, f8, f9, f40, f41, f42, rfl⟩ := hJ
    have hcl : (codeOf ws).take i = codeOf ws := List.take_of_length_le (by simp [codeOf, hi])
    rw [hcl]
    refine W_round [(1, .int .i64 ((n : Nat) : Int)), (4, .ptr 1 v1 0), (5, .ptr 2 v2 0), (8, .ptr 3 vr 0), (9, .mp 4 vm), (40, codeV ws), (41, .int .i64 ws.length), (42, .int .i64 ((i : Nat) : Int))] ⟨f1, f4, f5, f8, f9, f40, f41, f42, trivial⟩  12 ?_
    simp -implicitDefEqProofs (disch := omega) only [go_sem, ↓reduceIte, Nat.reduceEqDiff, decide_false, zF, flt, codeV, hi, Nat.lt_irrefl]
    exact ⟨t2, wv, rfl, rfl, rfl, rfl, rfl, rfl, rfl⟩
  obtain ⟨t2, wv, rfl, f1, f4, f5, f8, f9, rfl⟩ := hE
  have hcl : (codeOf ws).length = ws.length := by simp [codeOf]
  refine sem_exitS [(1, .int .i64 ((n : Nat) : Int)), (4, .ptr 1 v1 0), (5, .ptr 2 v2 0), (8, .ptr 3 vr 0), (9, .mp 4 vm)] ⟨f1, f4, f5, f8, f9, trivial⟩ ?_
  refine sem_shift (Shift.freeze (k := 5) (v := wv) (T := 47) (cs := rowC5 (codeOf ws)) (Nat.zero_le _) rfl (rowC5_nl _)) ?_
  have hfz : frzV 5 wv (rowC5 (codeOf ws)) (.sl 5 wv 0 5 ws.length none) = insV (codeOf ws) := by
    have hle : (codeOf ws).length * 5 ≤ (rowC5 (codeOf ws)).length := by rw [rowC5_len]; omega
    simp [frzV, rowsV, insV, ← hcl, chunk5, hle]
  have hfk : ∀ S, (km kI oneI S).map (fun p => (p.1, frzV 5 wv (rowC5 (codeOf ws)) p.2)) = km kI oneI S := fun S => by
    simp [km, kI, frzV, oneI]
  have n15 : ((1 : Nat) = 5) = False := eq_false (by decide)
  have n25 : ((2 : Nat) = 5) = False := eq_false (by decide)
  have n35 : ((3 : Nat) = 5) = False := eq_false (by decide)
  simp only [frzFr_cons, frzFr_nil, mapFrom, List.set_cons_succ, List.set_cons_zero, Option.map_some, Option.map_none, Ob.mapV, rcC, zF, flt, symsV, codeV, List.map_cons, List.map_nil, hfz]
  simp only [frzV, n15, n25, n35, false_and, if_false, hfk]
  obtain ⟨x0, hx0⟩ : ∃ x0, (codeOf ws)[0]? = some x0 := ⟨_, List.getElem?_eq_getElem (by omega)⟩
  have hx0m := List.mem_of_getElem? hx0
  have hok : ∀ x ∈ codeOf ws, InOk x ∧ (-8589934592 ≤ x.imm ∧ x.imm ≤ 8589934592) := fun x hx => by
    obtain ⟨w, hw, rfl⟩ := List.mem_map.1 hx
    cases hd : dec w with
    | none => simp [InOk, zeroI, i64]
    | some y =>
      obtain ⟨d1, d2⟩ := dec_le (hwb w hw).1 hd
      exact ⟨⟨d1.1, d1.2.1, d1.2.2.1, d1.2.2.2, by show i64 y.imm; unfold i64; omega⟩, d2⟩
  have hFr := c_frame (P := Tryz.prog) (G := G0) hT x0 (by have := (hok x0 hx0m).2; omega)
  have hfc : frameOf x0 = frameC (codeOf ws) := by unfold frameC; rw [List.getD_eq_getElem?_getD, hx0]; rfl
  rw [hfc] at hFr
  have hD0 := ins_getD hx0
  have hl0 : 0 < (codeOf ws).length := by omega
  have hl0' : ((0 : Int) < ((codeOf ws).length : Int)) = True := eq_true (by omega)
  simp only [inC] at hFr hD0
  refine run_sem 14 ?_
  simp -implicitDefEqProofs (disch := omega) only [go_sem, ↓reduceIte, reduceCtorEq, Nat.reduceAdd, Nat.reduceEqDiff, Nat.reduceLeDiff, Int.reduceToNat, Int.reduceLE, Nat.zero_add, Nat.le_refl, inC, insV, V.cells, List.length_map, false_implies, true_implies, and_true, hD0, hl0]
  refine callPS hT t_regions_frame hFr rfl 30 ?_
  simp -implicitDefEqProofs (disch := omega) only [go_sem, ↓reduceIte, Nat.reduceAdd, Nat.reduceEqDiff, Nat.reduceLeDiff, Nat.zero_add, Bool.not_false, Nat.zero_le, V.cells, List.length_map, true_implies, and_true, Bool.not_false, List.cons_append, List.nil_append]
  have hrd : readS (ats m) s.1 s.2 ws = match faultAt (ats m) (4 * (a : Int)) (codeOf ws) (frameC (codeOf ws)) 0 ws with | none => .inl (fnOf s.1 (4 * (a : Int)) ws) | some e => .inr e := by rw [← es]; rfl
  generalize hFF : frameC (codeOf ws) = F at *
  refine sem_for ws (flJ m s.1 (4 * (a : Int)) (codeOf ws) F ws n v1 v2 vr vm) (flE m s.1 (4 * (a : Int)) (codeOf ws) F ws n v1 v2 vr vm) ⟨t2, by simp, ?_⟩ (fun i w hx fr σ hJ => fl_round hT hwb (by omega) (by omega) (by omega) hx hJ) (fun i hi fr σ hJ => ?_) (fun e fr σ hE => ?_)
  · simp -implicitDefEqProofs (disch := omega) only [go_sem, ↓reduceIte, Nat.reduceEqDiff, true_and]
    simp [rd6, rdC, symsV, codeV, insV, inC, zF, flt]
  · obtain ⟨t3, hf, f1, f4, f5, f8, f9, f87, f88, rfl⟩ := hJ
    rw [hi, List.drop_length] at hf
    have hi' : i = (codeOf ws).length := by omega
    refine W_round [(1, .int .i64 ((n : Nat) : Int)), (4, .ptr 1 v1 0), (5, .ptr 2 v2 0), (8, .ptr 3 vr 0), (9, .mp 4 vm), (87, .int .i64 (codeOf ws).length), (88, .int .i64 ((i : Nat) : Int))] ⟨f1, f4, f5, f8, f9, f87, f88, trivial⟩  12 ?_
    simp -implicitDefEqProofs (disch := omega) only [go_sem, ↓reduceIte, Nat.reduceEqDiff, decide_false, hi', Nat.lt_irrefl]
    exact .inr ⟨rfl, hf, rfl, rfl, rfl, rfl, t3, rfl⟩
  rcases hE with ⟨rfl, f4, f5, i, er, t3, X3, X4, hf, rfl⟩ | ⟨rfl, hf, f1, f4, f5, f8, t3, rfl⟩
  · rw [hrd, hf]
    refine run_sem 12 ?_
    simp -implicitDefEqProofs (disch := omega) only [go_sem, ↓reduceIte, reduceCtorEq, Nat.reduceAdd, Nat.reduceEqDiff, Nat.zero_add, Nat.le_refl, Nat.zero_le, zF, flt, false_implies, true_and, and_true, f4, f5]
    exact .tup _ _ (.cons _ _ _ _ wk_zF (.cons _ _ _ _ (.refl _) .nil))
  · rw [hrd, hf]
    have hC := Pure.args (.cons _ _ _ _ wk_fn .nil) (c_cuts (G := G0) hT s.1 (4 * (a : Int)) F (codeOf ws) [] (by omega) fun x hx => (hok x hx).1)
    simp only [fnN, insV, inC, cutsV] at hC
    refine sem_exit [(1, .int .i64 ((n : Nat) : Int)), (4, .ptr 1 v1 0), (5, .ptr 2 v2 0), (8, .ptr 3 vr 0)] ⟨f1, f4, f5, f8, trivial⟩ 60 ?_
    simp -implicitDefEqProofs (disch := omega) only [go_sem, ↓reduceIte, reduceCtorEq, Nat.reduceAdd, Nat.reduceEqDiff, Nat.zero_add, Nat.le_refl, zF, flt, symsV, codeV, inC, insV, false_implies, and_true, rd6, rdC]
    have hfn : fnOf s.1 (4 * (a : Int)) ws = ⟨s.1, 4 * (a : Int), codeOf ws, F, Rg.cuts (codeOf ws) F⟩ := by unfold fnOf; rw [hFF]
    refine callPS hT t_regions_Func_cuts hC (by simp [namelessL, nameless]) 60 ?_
    simp -implicitDefEqProofs (disch := omega) only [go_sem, ↓reduceIte, reduceCtorEq, Nat.reduceAdd, Nat.reduceEqDiff, Nat.zero_add, Bool.not_false, Nat.le_refl, Nat.zero_le, V.cells, false_implies, true_and, and_true, Bool.not_false, List.cons_append, List.nil_append]
    rw [hfn]
    exact .refl _
theorem readV_nl (n : Nat) (r : Rg.Fn ⊕ (Nat × Int)) : nameless (readV n r) = true := by
  cases r <;> simp [readV, nameless, namelessL, fn_nl, flt]
theorem c_read (hT : TabOk Tryz.prog tab) (m : Im) (hm : ImB m) (hr : right m = true) (hw : ∀ w ∈ m.code, 0 ≤ w ∧ w < 4294967296) (hl : m.code.length ≤ 1000) {n : Nat} {s : List UInt8 × Int} (hs : m.syms[n]? = some s) :
    Am.Pure Tryz.prog G0 n_regions_read [imgV m, .int .i64 (n : Int)] fun v => v = readV n (readS (ats m) s.1 s.2 (words m n)) := fun t =>
  C_res (c_read0 hT m hm hr hw hl hs t) fun v σ ⟨_, h⟩ => ⟨_, h, readV_nl _ _, rfl⟩
end Go.Proofs.YtaidbdgndljaeaaGreatDoor
/- An image's functions. -/
namespace Go.Proofs.YtaidbdgndljaeaaGreatDoor
open Go Go.Am Go.Rv Go.Rg
set_option maxRecDepth 100000
theorem take3 (a b c d e : Option Ob) : subObs [a, b, c] [a, b, c, d, e] := subObs_take 3 [a, b, c, d, e]
def fC (f : Rg.Fn) : List V := fnC f.name f.pl f.code f.frame f.cuts
def funsV (r : List Rg.Fn) : V := .lst 5 (r.map fun f => V.agg (fC f)) false
def rowF (r : List Rg.Fn) : List V := (r.map fC).flatten
theorem rowF_snoc (r : List Rg.Fn) (f : Rg.Fn) : rowF (r ++ [f]) = rowF r ++ fC f := by simp [rowF]
theorem rowF_len (r : List Rg.Fn) : (rowF r).length = 5 * r.length := by
  induction r with
  | nil => rfl
  | cons x c ih =>
    show (fC x ++ rowF c).length = _
    rw [List.length_append, ih, List.length_cons]
    simp [fC, fnC]; omega
theorem chunkF (r : List Rg.Fn) : chunkV 5 r.length (rowF r) = r.map fun f => V.agg (fC f) := by
  induction r with
  | nil => rfl
  | cons x c ih =>
    show chunkV 5 (c.length + 1) (fC x ++ rowF c) = _
    unfold chunkV
    rw [List.map_cons, ← ih]
    rfl
theorem rowF_nl (r : List Rg.Fn) : namelessL (rowF r) = true := by
  induction r with
  | nil => rfl
  | cons x c ih =>
    show namelessL (fC x ++ rowF c) = true
    rw [namelessL_append, ih, Bool.and_true]
    exact fn_nl
def ofV : List Rg.Fn ⊕ (Nat × Nat × Int) → V
  | .inl r => .tup [funsV r, .agg (flt 0 0 0)]
  | .inr e => .tup [funsV [], .agg (flt e.1 e.2.1 e.2.2)]
def joinA (r0 : List Rg.Fn) : List Rg.Fn ⊕ (Nat × Nat × Int) → List Rg.Fn ⊕ (Nat × Nat × Int)
  | .inl r => .inl (r0 ++ r)
  | .inr e => .inr e
theorem readAll_next {m : Im} {n : Nat} {s : List UInt8 × Int} (h : m.syms[n]? = some s) : readAll m n (m.syms.drop n) = match readS (ats m) s.1 s.2 (words m n) with
    | .inr e => .inr (n, e.1, e.2)
    | .inl f => joinA [f] (readAll m (n + 1) (m.syms.drop (n + 1))) := by
  have hl := (List.getElem?_eq_some_iff.1 h).1
  rw [List.drop_eq_getElem_cons hl, (List.getElem?_eq_some_iff.1 h).2, readAll]
  cases readS (ats m) s.1 s.2 (words m n) with
  | inr e => rfl
  | inl f =>
    cases readAll m (n + 1) (m.syms.drop (n + 1)) <;> rfl
theorem joinA_app (a b : List Rg.Fn) (x : List Rg.Fn ⊕ (Nat × Nat × Int)) : joinA a (joinA b x) = joinA (a ++ b) x := by cases x <;> simp [joinA]
abbrev oaJ (m : Im) (v3 : Nat) : Nat → Fr → H → Prop := fun n fr σ => ∃ t w r, ofS m = joinA r (readAll m n (m.syms.drop n)) ∧ r.length = n ∧ fget fr 1 = .ref (.agg (imgC m)) 0 ∧ fget fr 3 = .ptr 1 v3 0 ∧ fget fr 4 = .sl 2 w 0 5 r.length none ∧ fget fr 14 = .int .i64 m.syms.length ∧ fget fr 15 = .int .i64 ((n : Nat) : Int) ∧ σ = ⟨t, [none, some (.arr v3 31 (flt 0 0 0)), some (.arr w 37 (rowF r))]⟩
abbrev oaE (m : Im) (v3 : Nat) : AE → Fr → H → Prop := fun e fr σ =>
  (e = .ret ∧ fget fr 2 = .lst 0 [] true ∧ fget fr 3 = .ptr 1 v3 0 ∧ ∃ (n i : Nat) (er : Int) (t : Nat) (ex : List (Option Ob)), ofS m = .inr (n, i, er) ∧ σ = ⟨t, none :: some (.arr v3 31 (flt n i er)) :: ex⟩) ∨
  (e = .ex 0 ∧ ∃ t w r, ofS m = .inl r ∧ fget fr 1 = .ref (.agg (imgC m)) 0 ∧ fget fr 3 = .ptr 1 v3 0 ∧ fget fr 4 = .sl 2 w 0 5 r.length none ∧ σ = ⟨t, [none, some (.arr v3 31 (flt 0 0 0)), some (.arr w 37 (rowF r))]⟩)
theorem oa_round (hT : TabOk Tryz.prog tab) {m : Im} {v3 : Nat} (hm : ImB m) (hr : right m = true) (hw : ∀ w ∈ m.code, 0 ≤ w ∧ w < 4294967296) (hl : m.code.length ≤ 1000) (he0 : ∀ (n i : Nat) (e : Int), ofS m = .inr (n, i, e) → e ≠ 0) {n : Nat} {s : List UInt8 × Int} (hs : m.syms[n]? = some s) {fr : Fr} {σ : H} (hJ : oaJ m v3 n fr σ) :
    W Tryz.prog G0 35 0 (AC.seq (AC.reg zq5_5 [])   (AC.seq (AC.cond (Arg.t 16)   AC.skip   (AC.exit 0))   (AC.seq (AC.block 1 (AC.seq (AC.reg zq5_6 [17])   (AC.seq (AC.reg zq5_7 [19, 20, 21, 18, 22, 23])   (AC.seq (AC.seq (AC.reg zq5_8 [24, 25])   (AC.cond (Arg.t 26)   (AC.seq (AC.reg zq5_9 [27])   AC.ret)   AC.skip))   (AC.reg zq5_10 [28, 29, 30, 31])))))   (AC.reg zq5_11 [32])))) fr σ (seqQ (fun fr σ => ∃ fr' σ', Shift G0 35 0 fr σ fr' σ' ∧ oaJ m v3 (n + 1) fr' σ') (oaE m v3)) := by
  obtain ⟨t, w, r, hof, hrn, f1, f3, f4, f14, f15, rfl⟩ := hJ
  have hlt := (List.getElem?_eq_some_iff.1 hs).1
  have hsl := hm.s
  have e2 := wnext hlt (by omega)
  have hR := c_read hT m hm hr hw hl hs
  have hnx := readAll_next hs
  rw [hnx] at hof
  have hrl := rowF_len r
  cases hrd : readS (ats m) s.1 s.2 (words m n) with
  | inr e =>
    rw [hrd] at hR hof
    obtain ⟨i, er⟩ := e
    have hne := he0 n i er hof
    have hne' : (er != 0) = true := by simp [hne]
    simp only [readV, imgV, imgC, symsV, codeV, fnC, insV, cutsV, flt, inC] at hR
    refine W_round [(1, .ref (.agg (imgC m)) 0), (3, .ptr 1 v3 0), (4, .sl 2 w 0 5 r.length none), (14, .int .i64 m.syms.length), (15, .int .i64 ((n : Nat) : Int))] ⟨f1, f3, f4, f14, f15, trivial⟩  20 ?_
    simp -implicitDefEqProofs (disch := omega) only [go_sem, ↓reduceIte, reduceCtorEq, Nat.reduceAdd, Nat.reduceEqDiff, Nat.zero_add, decide_true, Nat.le_refl, zq5_5, zq5_6, zq5_7, zq5_8, zq5_9, zq5_10, zq5_11, imgC, flt, symsV, codeV, V.cells, false_implies, and_true, hlt]
    refine callPS hT t_regions_read hR (by simp [namelessL, nameless]) 60 ?_
    simp -implicitDefEqProofs (disch := omega) only [go_sem, ↓reduceIte, reduceCtorEq, Nat.reduceAdd, Nat.reduceEqDiff, Nat.reduceLT, Nat.zero_add, Bool.not_false, Nat.le_refl, Nat.zero_le, V.cells, false_implies, true_implies, and_true, Bool.not_false, List.cons_append, List.nil_append, hne']
    exact .inl ⟨rfl, rfl, rfl, n, i, er, t + 1 + 1, _, hof, rfl⟩
  | inl f =>
    rw [hrd] at hR hof
    have hsn := rowF_snoc r f
    simp only [readV, imgV, imgC, symsV, codeV, fnC, insV, cutsV, flt, inC, fC] at hR hsn
    refine W_round [(1, .ref (.agg (imgC m)) 0), (3, .ptr 1 v3 0), (4, .sl 2 w 0 5 r.length none), (14, .int .i64 m.syms.length), (15, .int .i64 ((n : Nat) : Int))] ⟨f1, f3, f4, f14, f15, trivial⟩  20 ?_
    simp -implicitDefEqProofs (disch := omega) only [go_sem, ↓reduceIte, reduceCtorEq, Nat.reduceAdd, Nat.reduceEqDiff, Nat.zero_add, decide_true, Nat.le_refl, zq5_5, zq5_6, zq5_7, zq5_8, zq5_9, zq5_10, zq5_11, imgC, flt, symsV, codeV, V.cells, false_implies, and_true, hlt]
    refine callPS hT t_regions_read hR (by simp [namelessL, nameless]) 60 ?_
    simp -implicitDefEqProofs (disch := omega) only [go_sem, need_of, ↓reduceIte, reduceCtorEq, Nat.reduceAdd, Nat.reduceEqDiff, Nat.reduceLeDiff, Nat.reduceLT, Nat.zero_add, Bool.not_true, Bool.not_false, Nat.le_refl, Nat.zero_le, bne_self_eq_false, V.cells, false_implies, true_implies, true_and, and_true, Bool.not_true, Bool.not_false, List.cons_append, List.nil_append, hrl]
    refine ⟨_, _, Shift.drop (o' := [none, some (.arr v3 31 (flt 0 0 0)), some (.arr (t + 1 + 1) 37 (rowF (r ++ [f])))]) (t' := t + 1 + 1 + 1) (by rw [hsn]; exact take3 _ _ _ _ _) (Nat.le_refl _) (Nat.zero_le _), t + 1 + 1 + 1, t + 1 + 1, r ++ [f], ?_, by simp [hrn], ?_⟩
    · rw [hof]; exact joinA_app _ _ _
    · simp -implicitDefEqProofs (disch := omega) only [go_sem, ↓reduceIte, Nat.reduceEqDiff, imgC, flt, symsV, codeV, true_and, and_true, e2]
      try simp
theorem faultAt_ne {al : List Int} {pl F : Int} {c : List In} : ∀ {ws : List Int} {i j : Nat} {e : Int}, faultAt al pl c F i ws = some (j, e) → e ≠ 0
  | [], _, _, _, h => by simp [faultAt] at h
  | w :: ws, i, j, e, h => by
    unfold faultAt at h
    split at h
    · simp at h; omega
    · split at h
      · rename_i hne
        simp only [Option.some.injEq, Prod.mk.injEq] at h
        rw [← h.2]; exact hne
      · exact faultAt_ne h
theorem readAll_ne {m : Im} : ∀ {l : List (List UInt8 × Int)} {n k i : Nat} {e : Int}, readAll m n l = .inr (k, i, e) → e ≠ 0
  | [], _, _, _, _, h => by simp [readAll] at h
  | s :: l, n, k, i, e, h => by
    unfold readAll at h
    split at h
    · rename_i i' e' he
      simp only [Sum.inr.injEq, Prod.mk.injEq] at h
      unfold readS at he
      split at he
      · cases he
      · rename_i p hp
        simp only [Sum.inr.injEq] at he
        rw [he] at hp
        rw [← h.2.2]
        exact faultAt_ne hp
    · split at h
      · cases h
      · rename_i x hx
        simp only [Sum.inr.injEq] at h
        rw [h] at hx
        exact readAll_ne hx
theorem ofV_nl (r : List Rg.Fn ⊕ (Nat × Nat × Int)) : nameless (ofV r) = true := by
  cases r <;> simp [ofV, funsV, nameless, namelessL, flt]
theorem wk_no {a b c : Int} : Wk (.tup [.lst 0 [] true, .agg (flt a b c)]) (.tup [funsV [], .agg (flt a b c)]) :=
  .tup _ _ (.cons _ _ _ _ (.lst 0 5 [] [] true .nil (.inl rfl)) (.cons _ _ _ _ (.refl _) .nil))
theorem c_Of (hT : TabOk Tryz.prog tab) (m : Im) (hm : ImB m) (hw : ∀ w ∈ m.code, 0 ≤ w ∧ w < 4294967296) (hl : m.code.length ≤ 1000) :
    Am.Pure Tryz.prog G0 n_regions_Of [imgV m] fun v => v = ofV (ofS m) := by
  have hR := c_ImgRight (P := Tryz.prog) (G := G0) hT m hm
  have hsl := hm.s
  simp only [imgV, imgC, symsV, codeV] at hR
  refine Pure_frz (fun t => ?_) (ofV_nl _)
  refine C_tab hT t_regions_Of (by simp [regions_Of]) (W_run 6 ?_)
  simp -implicitDefEqProofs (disch := omega) only [go_sem, ↓reduceIte, reduceCtorEq, Nat.reduceEqDiff, Nat.zero_add, regions_Of, zq5_0, zq5_1, zq5_2, zq5_3, zq5_4, zq5_5, zq5_6, zq5_7, zq5_8, zq5_9, zq5_10, zq5_11, zq5_12, imgV, imgC, symsV, codeV, V.cells, and_true, List.cons_append, List.nil_append]
  refine sem_shift (Shift.freeze (k := 0) (v := t) (T := 25) (cs := imgC m) (Nat.zero_le _) rfl (imgC_nl m)) ?_
  simp only [imgC, symsV, codeV, frzFr_cons, frzFr_nil, frzL, frzV, mapFrom, Ob.mapV, List.set_cons_zero, Option.map_some, Option.map_none, List.map_cons, List.map_nil]
  refine run_sem 9 ?_
  simp -implicitDefEqProofs (disch := omega) only [go_sem, ↓reduceIte, reduceCtorEq, Nat.reduceAdd, Nat.reduceEqDiff, Nat.succ_ne_zero, Nat.zero_add, Nat.le_refl, V.cells, false_implies, and_true]
  refine callPS hT t_image_Right hR (by simp [namelessL, nameless]) 4 ?_
  cases hr : right m with
  | false =>
    have hof : ofS m = .inr (0, 0, 2) := by unfold ofS; rw [hr]; rfl
    rw [hof]
    simp -implicitDefEqProofs (disch := omega) only [go_sem, ↓reduceIte, reduceCtorEq, Nat.reduceEqDiff, Bool.not_false, Bool.not_false]
    iterate 9 (try (refine run_sem 4 ?_; simp -implicitDefEqProofs (disch := omega) only [go_sem, ↓reduceIte, reduceCtorEq, Nat.reduceAdd, Nat.reduceEqDiff, Nat.zero_add, Bool.not_false, Nat.le_refl, Nat.zero_le, V.cells, false_implies, true_and, and_true, Bool.not_false, List.cons_append, List.nil_append]))
    exact .inl wk_no
  | true =>
    have hof : ofS m = readAll m 0 m.syms := by unfold ofS; rw [hr]; rfl
    simp -implicitDefEqProofs (disch := omega) only [go_sem, ↓reduceIte, reduceCtorEq, Nat.reduceEqDiff, Bool.not_true, Bool.not_true]
    iterate 1 (try (refine run_sem 4 ?_; simp -implicitDefEqProofs (disch := omega) only [go_sem, ↓reduceIte, reduceCtorEq, Nat.reduceEqDiff]))
    refine sem_shift (Shift.own (s := 4) (z := 0) (sz := 5) (T := 37) (by simp -implicitDefEqProofs (disch := omega) only [go_sem, ↓reduceIte, reduceCtorEq, Nat.reduceEqDiff]) (by decide)) ?_
    simp -implicitDefEqProofs (disch := omega) only [go_sem, ↓reduceIte, reduceCtorEq, Nat.reduceAdd, Nat.reduceEqDiff, Nat.zero_add, H.push]
    generalize t + 1 = v3
    refine run_sem 12 ?_
    simp -implicitDefEqProofs (disch := omega) only [go_sem, ↓reduceIte, reduceCtorEq, Nat.reduceAdd, Nat.reduceEqDiff, Nat.reduceLeDiff, Nat.zero_add, V.cells, List.length_map, true_implies, and_true]
    refine sem_for m.syms (oaJ m v3) (oaE m v3) ⟨v3 + 1 + 1, v3 + 1, [], by rw [hof, List.drop_zero]; cases readAll m 0 m.syms <;> rfl, rfl, ?_⟩ (fun n s hs fr σ hJ => oa_round hT hm hr hw hl (fun n i e h => by rw [hof] at h; exact readAll_ne h) hs hJ) (fun n hn fr σ hJ => ?_) (fun e fr σ hE => ?_)
    · simp -implicitDefEqProofs (disch := omega) only [go_sem, ↓reduceIte, reduceCtorEq, Nat.reduceEqDiff, imgC, flt, symsV, codeV, true_and]
      try simp [rowF]
    · obtain ⟨t2, w, r, ho, hrn, f1, f3, f4, f14, f15, rfl⟩ := hJ
      rw [hn, List.drop_length] at ho
      have ho : ofS m = .inl r := by rw [ho]; simp [readAll, joinA]
      refine W_round [(1, .ref (.agg (imgC m)) 0), (3, .ptr 1 v3 0), (4, .sl 2 w 0 5 r.length none), (14, .int .i64 m.syms.length), (15, .int .i64 ((n : Nat) : Int))] ⟨f1, f3, f4, f14, f15, trivial⟩  12 ?_
      simp -implicitDefEqProofs (disch := omega) only [go_sem, ↓reduceIte, Nat.reduceEqDiff, decide_false, imgC, flt, symsV, codeV, hn, Nat.lt_irrefl]
      exact .inr ⟨rfl, t2, w, r, ho, rfl, rfl, rfl, rfl⟩
    · rcases hE with ⟨rfl, f2, f3, n, i, er, t2, ex, ho, rfl⟩ | ⟨rfl, t2, w, r, ho, f1, f3, f4, rfl⟩
      · refine run_sem 12 ?_
        simp -implicitDefEqProofs (disch := omega) only [go_sem, ↓reduceIte, reduceCtorEq, Nat.reduceAdd, Nat.reduceEqDiff, Nat.zero_add, Nat.le_refl, flt, false_implies, true_and, and_true, f2, f3]
        rw [ho]
        exact .inl wk_no
      · rw [ho]
        refine sem_exit [(1, .ref (.agg (imgC m)) 0), (3, .ptr 1 v3 0), (4, .sl 2 w 0 5 r.length none)] ⟨f1, f3, f4, trivial⟩ 20 ?_
        simp -implicitDefEqProofs (disch := omega) only [go_sem, ↓reduceIte, reduceCtorEq, Nat.reduceAdd, Nat.reduceEqDiff, Nat.zero_add, Bool.not_false, Nat.le_refl, Nat.zero_le, imgC, flt, symsV, codeV, V.cells, false_implies, and_true, Bool.not_false, List.cons_append, List.nil_append]
        have hfz : frzV 2 w (rowF r) (.tup [.sl 2 w 0 5 r.length none, .agg (flt 0 0 0)]) = .tup [funsV r, .agg (flt 0 0 0)] := by
          have hle : r.length * 5 ≤ (rowF r).length := by rw [rowF_len]; omega
          simp [frzV, frzL, rowsV, funsV, chunkF, hle, flt]
        refine ⟨2, w, 37, rowF r, rfl, rowF_nl r, ?_, ?_⟩
        · rw [show [V.int .i64 0, .int .i64 0, .int .i64 0] = flt 0 0 0 from rfl, hfz]; simp [funsV, nameless, namelessL, flt]
        · rw [show [V.int .i64 0, .int .i64 0, .int .i64 0] = flt 0 0 0 from rfl, hfz]; exact .refl _
end Go.Proofs.YtaidbdgndljaeaaGreatDoor
/- Images of rows of instructions. -/
namespace Go.Proofs.YtaidbdgndljaeaaGreatDoor
open Go Go.Am Go.Rv Go.Rg
set_option maxRecDepth 100000
def lsV (ls : List (List In)) : V := .lst 1 (ls.map insV) false
def symC (s : List UInt8 × Int) : List V := [.str s.1, .int .i64 s.2]
def rowS (l : List (List UInt8 × Int)) : List V := (l.map symC).flatten
theorem rowS_snoc (l : List (List UInt8 × Int)) (s : List UInt8 × Int) : rowS (l ++ [s]) = rowS l ++ symC s := by simp [rowS]
theorem rowS_len (l : List (List UInt8 × Int)) : (rowS l).length = 2 * l.length := by
  induction l with
  | nil => rfl
  | cons x c ih =>
    show (symC x ++ rowS c).length = _
    rw [List.length_append, ih, List.length_cons]
    simp [symC]; omega
theorem chunkS (l : List (List UInt8 × Int)) : chunkV 2 l.length (rowS l) = l.map symV := by
  induction l with
  | nil => rfl
  | cons x c ih =>
    show chunkV 2 (c.length + 1) (symC x ++ rowS c) = _
    unfold chunkV
    rw [List.map_cons, ← ih]
    rfl
theorem rowS_nl (l : List (List UInt8 × Int)) : namelessL (rowS l) = true := by
  induction l with
  | nil => rfl
  | cons x c ih =>
    show namelessL (symC x ++ rowS c) = true
    rw [namelessL_append, ih]; rfl
def rowU (l : List Int) : List V := l.map (V.int .u32)
theorem rowU_nl : ∀ l : List Int, namelessL (rowU l) = true
  | [] => rfl
  | n :: c => by have := rowU_nl c; simpa [rowU, namelessL, nameless] using this
theorem encs_next {l : List In} {k : Nat} {x : In} (h : l[k]? = some x) : encs (l.take (k + 1)) = encs (l.take k) ++ if (enc T x).2 = 0 then [(enc T x).1] else [] := by
  rw [List.take_add_one, h]
  unfold encs
  rw [List.filterMap_append]
  congr 1
  simp only [Option.toList_some, List.filterMap_cons, List.filterMap_nil]
  split <;> simp_all
abbrev imH (v0 v1 ws wc : Nat) (d : Int) (S : List (List UInt8 × Int)) (C : List Int) : List (Option Ob) :=
  [some (.arr v0 25 [.int .i64 0, .lst 0 [] true, .lst 0 [] true]), some (.arr v1 25 [.int .i64 d, .sl 2 ws 0 2 S.length none, .sl 3 wc 0 1 C.length none]), some (.arr ws 60 (rowS S)), some (.arr wc 43 (rowU C))]
abbrev ikJ (ls : List (List In)) (i v0 v1 : Nat) (d : Int) (S : List (List UInt8 × Int)) (C0 : List Int) (l : List In) : Nat → Fr → H → Prop := fun k fr σ => ∃ t ws wc C, C = C0 ++ encs (l.take k) ∧ fget fr 0 = lsV ls ∧ fget fr 4 = .ptr 0 v0 0 ∧ fget fr 5 = .ptr 1 v1 0 ∧ fget fr 6 = .int .i64 ((i : Nat) : Int) ∧ fget fr 7 = .int .i64 ((k : Nat) : Int) ∧ σ = ⟨t, imH v0 v1 ws wc d S C⟩
abbrev ikE (ls : List (List In)) (i v0 v1 : Nat) (d : Int) (S : List (List UInt8 × Int)) (C0 : List Int) (l : List In) : AE → Fr → H → Prop := fun e fr σ => ∃ t ws wc C, e = .ex 2 ∧ C = C0 ++ encs l ∧ fget fr 0 = lsV ls ∧ fget fr 4 = .ptr 0 v0 0 ∧ fget fr 5 = .ptr 1 v1 0 ∧ fget fr 6 = .int .i64 ((i : Nat) : Int) ∧ σ = ⟨t, imH v0 v1 ws wc d S C⟩
theorem ik_round (hT : TabOk Tryz.prog tab) {ls : List (List In)} {i v0 v1 : Nat} {d : Int} {S : List (List UInt8 × Int)} {C0 : List Int} {l : List In} (hi : ls[i]? = some l) (hl : l.length ≤ 100000) (hC0 : C0.length ≤ 1000000) (hok : ∀ x ∈ l, InOk x) {k : Nat} {x : In} (hx : l[k]? = some x) {fr : Fr} {σ : H} (hJ : ikJ ls i v0 v1 d S C0 l k fr σ) :
    W Tryz.prog G0 69 0 (AC.seq (AC.seq (AC.reg zqa_6 [40, 41, 42, 43, 44, 45])   (AC.cond (Arg.t 46)   AC.skip   (AC.exit 2)))   (AC.seq (AC.block 3 (AC.seq (AC.reg zqa_7 [50, 51, 52, 53, 54, 55, 56, 57, 49, 58, 59])   (AC.seq (AC.reg zqa_8 [60])   (AC.cond (Arg.t 61)   (AC.reg zqa_9 [62, 63, 64, 65, 66, 67])   AC.skip))))   (AC.reg zqa_10 [47, 48]))) fr σ (seqQ (fun fr σ => ∃ fr' σ', Shift G0 69 0 fr σ fr' σ' ∧ ikJ ls i v0 v1 d S C0 l (k + 1) fr' σ') (ikE ls i v0 v1 d S C0 l)) := by
  obtain ⟨t, ws, wc, C, hC, f0, f4, f5, f6, f7, rfl⟩ := hJ
  have hil := (List.getElem?_eq_some_iff.1 hi).1
  have hlt := (List.getElem?_eq_some_iff.1 hx).1
  have hDi : (ls.map insV).getD i V.any = .lst 5 (l.map fun x => V.agg (inC x)) false := by simp [List.getD_eq_getElem?_getD, hi, insV]
  have hDk := ins_getD hx
  have hE := c_Encode hT x (hok x (List.mem_of_getElem? hx))
  have hen := encs_next hx
  have e2 := wnext hlt (by omega)
  have hCl : C.length ≤ 2000000 := by
    rw [hC, List.length_append]
    have := encs_le (l.take k)
    rw [List.length_take] at this
    omega
  simp only [inC] at hE hDi hDk
  generalize enc T x = e at *
  obtain ⟨w, er⟩ := e
  simp only at hE hen
  by_cases h0 : er = 0
  · have h0' : (er == 0) = true := by simp [h0]
    rw [if_pos h0] at hen
    have hsn : rowU (C ++ [w]) = rowU C ++ [.int .u32 w] := by simp [rowU]
    have hln : C.length + 1 = (C ++ [w]).length := by simp
    have hCn : C ++ [w] = C0 ++ encs (l.take (k + 1)) := by rw [hen, hC, List.append_assoc]
    refine W_round [(0, lsV ls), (4, .ptr 0 v0 0), (5, .ptr 1 v1 0), (6, .int .i64 ((i : Nat) : Int)), (7, .int .i64 ((k : Nat) : Int))] ⟨f0, f4, f5, f6, f7, trivial⟩  60 ?_
    simp -implicitDefEqProofs (disch := omega) only [go_sem, need_of, ↓reduceIte, reduceCtorEq, Nat.reduceAdd, Nat.reduceEqDiff, Nat.zero_add, decide_true, Nat.le_refl, zqa_6, zqa_7, zqa_8, zqa_9, zqa_10, lsV, V.cells, List.length_map, false_implies, true_implies, and_true, hil, hlt, hDi, hDk]
    refine callPS hT t_rv_Encode hE rfl 60 ?_
    simp -implicitDefEqProofs (disch := omega) only [go_sem, ↓reduceIte, reduceCtorEq, Nat.reduceAdd, Nat.reduceEqDiff, Nat.reduceLeDiff, Nat.reduceLT, Nat.zero_add, Nat.mul_one, Bool.not_true, Bool.not_false, Nat.le_refl, Nat.zero_le, V.cells, true_implies, true_and, and_true, Bool.not_true, Bool.not_false, List.cons_append, List.nil_append, imH, h0']
    have hrl : (rowU C).length = C.length := by simp [rowU]
    iterate 4 (try (refine run_sem 9 ?_; simp -implicitDefEqProofs (disch := omega) only [go_sem, need_of, ↓reduceIte, reduceCtorEq, Nat.reduceAdd, Nat.reduceEqDiff, Nat.reduceLeDiff, Nat.reduceLT, Nat.reduceSub, Nat.reduceMul, Int.reduceToNat, Int.reduceLE, Int.reduceLT, Int.reduceEq, Int.reduceNe, Nat.succ_ne_zero, Nat.zero_add, Nat.add_zero, Nat.mul_one, Nat.one_mul, Nat.zero_mul, decide_true, decide_false, Bool.not_true, Bool.not_false, Nat.le_refl, Nat.zero_le, ge_iff_le, gt_iff_lt, Nat.reduceBEq, Nat.reduceBNe, beq_self_eq_true, bne_self_eq_false, Option.isSome_some, Option.isSome_none, Option.getD_some, Option.getD_none, proofmarkkit_Image, zqa_0, zqa_1, zqa_2, zqa_3, zqa_4, zqa_5, zqa_6, zqa_7, zqa_8, zqa_9, zqa_10, zqa_11, zqa_12, lsV, inC, V.cells, List.length_map, false_implies, true_implies, true_and, and_true, not_true_eq_false, not_false_eq_true, Int.reduceBEq, Int.reduceBNe, Bool.not_true, Bool.not_false, List.cons_append, List.nil_append, ge_iff_le, gt_iff_lt, imH, h0', hrl]))
    refine ⟨⟨hrl.symm, by omega, by omega⟩, _, _, Shift.refl _ _ _ _, t + 1, ws, t, C ++ [w], hCn, ?_⟩
    simp -implicitDefEqProofs (disch := omega) only [go_sem, ↓reduceIte, reduceCtorEq, Nat.reduceEqDiff, lsV, and_true, e2, imH, hsn, hln]
    try simp
  · have h0' : (er == 0) = false := by simp [h0]
    rw [if_neg h0, List.append_nil] at hen
    rw [← hen] at hC
    refine W_round [(0, lsV ls), (4, .ptr 0 v0 0), (5, .ptr 1 v1 0), (6, .int .i64 ((i : Nat) : Int)), (7, .int .i64 ((k : Nat) : Int))] ⟨f0, f4, f5, f6, f7, trivial⟩  60 ?_
    simp -implicitDefEqProofs (disch := omega) only [go_sem, need_of, ↓reduceIte, reduceCtorEq, Nat.reduceAdd, Nat.reduceEqDiff, Nat.zero_add, decide_true, Nat.le_refl, zqa_6, zqa_7, zqa_8, zqa_9, zqa_10, lsV, V.cells, List.length_map, false_implies, true_implies, and_true, hil, hlt, hDi, hDk]
    refine callPS hT t_rv_Encode hE rfl 60 ?_
    simp -implicitDefEqProofs (disch := omega) only [go_sem, ↓reduceIte, reduceCtorEq, Nat.reduceAdd, Nat.reduceEqDiff, Nat.reduceLT, Nat.zero_add, imH, h0']
    iterate 4 (try (refine run_sem 9 ?_; simp -implicitDefEqProofs (disch := omega) only [go_sem, need_of, ↓reduceIte, reduceCtorEq, Nat.reduceAdd, Nat.reduceEqDiff, Nat.reduceLeDiff, Nat.reduceLT, Nat.reduceSub, Nat.reduceMul, Int.reduceToNat, Int.reduceLE, Int.reduceLT, Int.reduceEq, Int.reduceNe, Nat.succ_ne_zero, Nat.zero_add, Nat.add_zero, Nat.mul_one, Nat.one_mul, Nat.zero_mul, decide_true, decide_false, Bool.not_true, Bool.not_false, Nat.le_refl, Nat.zero_le, ge_iff_le, gt_iff_lt, Nat.reduceBEq, Nat.reduceBNe, beq_self_eq_true, bne_self_eq_false, Option.isSome_some, Option.isSome_none, Option.getD_some, Option.getD_none, proofmarkkit_Image, zqa_0, zqa_1, zqa_2, zqa_3, zqa_4, zqa_5, zqa_6, zqa_7, zqa_8, zqa_9, zqa_10, zqa_11, zqa_12, lsV, inC, V.cells, List.length_map, false_implies, true_implies, true_and, and_true, not_true_eq_false, not_false_eq_true, Int.reduceBEq, Int.reduceBNe, Bool.not_true, Bool.not_false, List.cons_append, List.nil_append, ge_iff_le, gt_iff_lt, imH, h0']))
    refine ⟨_, _, Shift.refl _ _ _ _, t, ws, wc, C, hC, ?_⟩
    simp -implicitDefEqProofs (disch := omega) only [go_sem, ↓reduceIte, reduceCtorEq, Nat.reduceEqDiff, lsV, and_true, e2, imH]
    try simp
theorem imgS_next {ls : List (List In)} {d : Int} {i : Nat} {l : List In} (h : ls[i]? = some l) : imgS (ls.take (i + 1)) d = imgOn (imgS (ls.take i) d) l := by
  unfold imgS
  rw [List.take_add_one, h]
  simp
theorem imgS_len {ls : List (List In)} {d : Int} : ∀ {i : Nat}, i ≤ ls.length → (imgS (ls.take i) d).syms.length = i ∧ (imgS (ls.take i) d).data = d
  | 0, _ => ⟨rfl, rfl⟩
  | i + 1, h => by
    obtain ⟨l, hl⟩ : ∃ l, ls[i]? = some l := ⟨_, List.getElem?_eq_getElem (by omega)⟩
    rw [imgS_next hl]
    have := imgS_len (ls := ls) (d := d) (i := i) (by omega)
    simp [imgOn, this.1, this.2]
abbrev ioJ (ls : List (List In)) (v0 v1 : Nat) (d : Int) : Nat → Fr → H → Prop := fun i fr σ => ∃ t ws wc S C, S = (imgS (ls.take i) d).syms ∧ C = (imgS (ls.take i) d).code ∧ C.length ≤ i * 1000 ∧ fget fr 0 = lsV ls ∧ fget fr 4 = .ptr 0 v0 0 ∧ fget fr 5 = .ptr 1 v1 0 ∧ fget fr 6 = .int .i64 ((i : Nat) : Int) ∧ σ = ⟨t, imH v0 v1 ws wc d S C⟩
abbrev ioE (ls : List (List In)) (v0 v1 : Nat) (d : Int) : AE → Fr → H → Prop := fun e fr σ => ∃ t ws wc, e = .ex 0 ∧ fget fr 4 = .ptr 0 v0 0 ∧ fget fr 5 = .ptr 1 v1 0 ∧ σ = ⟨t, imH v0 v1 ws wc d (imgS ls d).syms (imgS ls d).code⟩
theorem io_round (hT : TabOk Tryz.prog tab) {ls : List (List In)} {v0 v1 : Nat} {d : Int} (hln : ls.length ≤ 100) {i : Nat} {l : List In} (hi : ls[i]? = some l) (hl : l.length ≤ 1000) (hok : ∀ x ∈ l, InOk x) {fr : Fr} {σ : H} (hJ : ioJ ls v0 v1 d i fr σ) :
    W Tryz.prog G0 69 0 (AC.seq (AC.seq (AC.reg zqa_3 [12, 13, 14])   (AC.cond (Arg.t 15)   AC.skip   (AC.exit 0)))   (AC.seq (AC.block 1 (AC.seq (AC.reg zqa_4 [18, 19, 20, 21, 22, 23, 24, 25, 26, 27, 28, 29, 30, 31, 32, 33, 34, 35, 36, 37, 38, 39])   (AC.seq (AC.reg zqa_5 [])   (AC.block 2 (AC.loop (AC.seq (AC.seq (AC.reg zqa_6 [40, 41, 42, 43, 44, 45])   (AC.cond (Arg.t 46)   AC.skip   (AC.exit 2)))   (AC.seq (AC.block 3 (AC.seq (AC.reg zqa_7 [50, 51, 52, 53, 54, 55, 56, 57, 49, 58, 59])   (AC.seq (AC.reg zqa_8 [60])   (AC.cond (Arg.t 61)   (AC.reg zqa_9 [62, 63, 64, 65, 66, 67])   AC.skip))))   (AC.reg zqa_10 [47, 48]))))))))   (AC.reg zqa_11 [16, 17]))) fr σ (seqQ (fun fr σ => ∃ fr' σ', Shift G0 69 0 fr σ fr' σ' ∧ ioJ ls v0 v1 d (i + 1) fr' σ') (ioE ls v0 v1 d)) := by
  obtain ⟨t, ws, wc, S, C, hS, hC, hCl, f0, f4, f5, f6, rfl⟩ := hJ
  have hlt := (List.getElem?_eq_some_iff.1 hi).1
  have hSl : S.length = i := by rw [hS]; exact (imgS_len (by omega)).1
  have e2 := wnext hlt (by omega)
  have hDi : (ls.map insV).getD i V.any = .lst 5 (l.map fun x => V.agg (inC x)) false := by simp [List.getD_eq_getElem?_getD, hi, insV]
  have hnx := imgS_next (d := d) hi
  have hrl := rowS_len S
  have w1 : IntKind.i64.wrap (97 + (i : Int).tmod 26) = ((97 + i % 26 : Nat) : Int) := by
    rw [show (i : Int).tmod 26 = ((i % 26 : Nat) : Int) by rw [Int.tmod_eq_emod_of_nonneg (by omega)]; rfl, wself (by omega)]; rfl
  have w2 : IntKind.i64.wrap ((i : Int).tdiv 26) = ((i / 26 : Nat) : Int) := by
    rw [show (i : Int).tdiv 26 = ((i / 26 : Nat) : Int) by rw [Int.tdiv_eq_ediv_of_nonneg (by omega)]; rfl, wself (by omega)]
  have w3 : IntKind.i64.wrap (97 + ((i / 26 : Nat) : Int)) = ((97 + i / 26 : Nat) : Int) := by rw [wself (by omega)]; rfl
  have w4 : IntKind.i64.wrap (4 * (C.length : Int)) = 4 * (C.length : Int) := wself (by omega)
  have c32 : ∀ n : Nat, n < 128 → IntKind.i32.wrap (n : Int) = (n : Int) := fun n h => by
    rw [wrap_id]
    · simp [IntKind.min, IntKind.signed, IntKind.bits]; try omega
    · simp [IntKind.max, IntKind.signed, IntKind.bits]; try omega
  have w5 := c32 (97 + i % 26) (by omega)
  have w6 := c32 (97 + i / 26) (by omega)
  have b1 : (0 ≤ ((97 + i % 26 : Nat) : Int) ∧ ((97 + i % 26 : Nat) : Int) < 128) = True := eq_true (by omega)
  have b2 : (0 ≤ ((97 + i / 26 : Nat) : Int) ∧ ((97 + i / 26 : Nat) : Int) < 128) = True := eq_true (by omega)
  have hrC : (rowU C).length = C.length := by simp [rowU]
  simp only [inC] at hDi
  generalize ha : 97 + i % 26 = na at *
  generalize hb : 97 + i / 26 = nb at *
  have t1 : ((na : Nat) : Int).toNat = na := rfl
  have t2 : ((nb : Nat) : Int).toNat = nb := rfl
  refine W_round [(0, lsV ls), (4, .ptr 0 v0 0), (5, .ptr 1 v1 0), (6, .int .i64 ((i : Nat) : Int))] ⟨f0, f4, f5, f6, trivial⟩  60 ?_
  simp -implicitDefEqProofs (disch := omega) only [go_sem, need_of, ↓reduceIte, reduceCtorEq, Nat.reduceAdd, Nat.reduceEqDiff, Nat.reduceLeDiff, Int.reduceEq, Nat.zero_add, decide_true, Bool.not_true, Bool.not_false, Nat.le_refl, Nat.zero_le, zqa_3, zqa_4, zqa_5, zqa_6, zqa_7, zqa_8, zqa_9, zqa_10, zqa_11, lsV, V.cells, List.length_map, true_implies, true_and, and_true, not_false_eq_true, Bool.not_true, Bool.not_false, List.cons_append, List.nil_append, hlt, imH, w1, w2, w3, w4, w5, w6, b1, b2, hrl, t1, t2]
  have hnm : nameAt i = [102, UInt8.ofNat na, UInt8.ofNat nb] := by rw [← ha, ← hb]; rfl
  have hsn := rowS_snoc S (nameAt i, 4 * (C.length : Int))
  rw [hnm] at hsn
  simp only [symC] at hsn
  have hSn : S ++ [([102, UInt8.ofNat na, UInt8.ofNat nb], 4 * (C.length : Int))] = (imgS (ls.take (i + 1)) d).syms := by
    rw [hnx, ← hnm]; unfold imgOn; simp only; rw [← hS, ← hC, hSl]
  have hCn : C ++ encs l = (imgS (ls.take (i + 1)) d).code := by rw [hnx]; unfold imgOn; simp only; rw [← hC]
  have hle := encs_le l
  have hln1 : S.length + 1 = (S ++ [(([102, UInt8.ofNat na, UInt8.ofNat nb] : List UInt8), 4 * (C.length : Int))]).length := by simp
  refine sem_for l (ikJ ls i v0 v1 d (S ++ [([102, UInt8.ofNat na, UInt8.ofNat nb], 4 * (C.length : Int))]) C l) (ikE ls i v0 v1 d (S ++ [([102, UInt8.ofNat na, UInt8.ofNat nb], 4 * (C.length : Int))]) C l) ⟨t + 1, t, wc, C, by simp [encs], ?_⟩ (fun k x hx fr σ hJ => ik_round hT hi (by omega) (by omega) hok hx hJ) (fun k hk fr σ hJ => ?_) (fun e fr σ hE => ?_)
  · simp -implicitDefEqProofs (disch := omega) only [go_sem, ↓reduceIte, reduceCtorEq, Nat.reduceEqDiff, lsV, true_and, imH, hsn]
    try simp
  · obtain ⟨t2, ws2, wc2, C2, hC2, f0, f4, f5, f6, f7, rfl⟩ := hJ
    rw [hk, List.take_length] at hC2
    refine W_round [(0, lsV ls), (4, .ptr 0 v0 0), (5, .ptr 1 v1 0), (6, .int .i64 ((i : Nat) : Int)), (7, .int .i64 ((k : Nat) : Int))] ⟨f0, f4, f5, f6, f7, trivial⟩  60 ?_
    simp -implicitDefEqProofs (disch := omega) only [go_sem, need_of, ↓reduceIte, reduceCtorEq, Nat.reduceEqDiff, Nat.zero_add, decide_false, Nat.le_refl, lsV, V.cells, List.length_map, true_implies, and_true, hlt, hDi, hk, Nat.lt_irrefl]
    exact ⟨t2, ws2, wc2, C2, rfl, hC2, rfl, rfl, rfl, rfl, rfl⟩
  · obtain ⟨t2, ws2, wc2, C2, rfl, hC2, f0, f4, f5, f6, rfl⟩ := hE
    refine sem_exit2 [(0, lsV ls), (4, .ptr 0 v0 0), (5, .ptr 1 v1 0), (6, .int .i64 ((i : Nat) : Int))] ⟨f0, f4, f5, f6, trivial⟩ 12 ?_
    simp -implicitDefEqProofs (disch := omega) only [go_sem, ↓reduceIte, reduceCtorEq, Nat.reduceEqDiff, lsV, e2]
    refine ⟨_, _, Shift.refl _ _ _ _, t2, ws2, wc2, _, C2, hSn, by rw [hC2]; exact hCn, by rw [hC2, List.length_append]; omega, ?_⟩
    simp -implicitDefEqProofs (disch := omega) only [go_sem, ↓reduceIte, reduceCtorEq, Nat.reduceEqDiff, lsV, and_true, imH]
    try simp
end Go.Proofs.YtaidbdgndljaeaaGreatDoor
/- Images of rows of instructions: the function. -/
namespace Go.Proofs.YtaidbdgndljaeaaGreatDoor
open Go Go.Am Go.Rv Go.Rg
set_option maxRecDepth 100000
theorem rowU_map {k w : Nat} {cs : List V} (l : List Int) : (rowU l).map (frzV k w cs) = rowU l := by simp [rowU, frzV]
theorem c_ImageR (hT : TabOk Tryz.prog tab) {ls : List (List In)} {d : Int} (hln : ls.length ≤ 100) (hl : ∀ l ∈ ls, l.length ≤ 1000) (hok : ∀ l ∈ ls, ∀ x ∈ l, InOk x) (t : Nat) :
    C Tryz.prog G0 0 n_proofmarkkit_Image [lsV ls, .int .i64 d] ⟨t, []⟩ fun v σ => ∃ t' ws wc A B, v = .agg [.int .i64 d, .sl 2 ws 0 2 (imgS ls d).syms.length none, .sl 3 wc 0 1 (imgS ls d).code.length none] ∧ σ = ⟨t', [A, B, some (.arr ws 60 (rowS (imgS ls d).syms)), some (.arr wc 43 (rowU (imgS ls d).code))]⟩ := by
  refine C_tab hT t_proofmarkkit_Image (by simp [proofmarkkit_Image]) (W_run 11 ?_)
  simp -implicitDefEqProofs (disch := omega) only [go_sem, ↓reduceIte, reduceCtorEq, Nat.reduceAdd, Nat.reduceEqDiff, Nat.reduceLeDiff, Nat.zero_add, Bool.not_false, Nat.le_refl, Nat.zero_le, proofmarkkit_Image, zqa_0, zqa_1, zqa_2, zqa_3, zqa_4, zqa_5, zqa_6, zqa_7, zqa_8, zqa_9, zqa_10, zqa_11, zqa_12, lsV, V.cells, and_true, Bool.not_false, List.cons_append, List.nil_append, H.push]
  refine sem_shift (HShift.shift (HShift.ownAt 2 60 (base := 0) (k := 1) (v := t + 1) (T' := 25) (p := 1) (z := 0) (cs := [.int .i64 d, .lst 0 [] true, .lst 0 [] true]) (Nat.zero_le _) rfl rfl)) ?_
  simp only [List.set_cons_succ, List.set_cons_zero, List.length_cons, List.length_nil, List.cons_append, List.nil_append]
  refine sem_shift (HShift.shift (HShift.ownAt 1 43 (base := 0) (k := 1) (v := t + 1) (T' := 25) (p := 2) (z := 0) (cs := [.int .i64 d, .sl 2 (t + 1 + 1) 0 2 0 none, .lst 0 [] true]) (Nat.zero_le _) rfl rfl)) ?_
  simp only [List.set_cons_succ, List.set_cons_zero, List.length_cons, List.length_nil, List.cons_append, List.nil_append]
  generalize t + 1 = v1
  refine run_sem 12 ?_
  simp -implicitDefEqProofs (disch := omega) only [go_sem, ↓reduceIte, reduceCtorEq, Nat.reduceAdd, Nat.reduceEqDiff, Nat.zero_add]
  refine sem_for ls (ioJ ls t v1 d) (ioE ls t v1 d) ⟨v1 + 1 + 1 + 1, v1 + 1, v1 + 1 + 1, [], [], rfl, rfl, by simp, ?_⟩ (fun i l hi fr σ hJ => io_round hT hln hi (hl l (List.mem_of_getElem? hi)) (hok l (List.mem_of_getElem? hi)) hJ) (fun i hi fr σ hJ => ?_) (fun e fr σ hE => ?_)
  · simp -implicitDefEqProofs (disch := omega) only [go_sem, ↓reduceIte, reduceCtorEq, Nat.reduceEqDiff, lsV, true_and, imH]
    try simp [rowS, rowU]
  · obtain ⟨t2, ws, wc, S, C, hS, hC, hCl, f0, f4, f5, f6, rfl⟩ := hJ
    rw [hi, List.take_length] at hS hC
    subst hS hC
    refine W_round [(0, lsV ls), (4, .ptr 0 t 0), (5, .ptr 1 v1 0), (6, .int .i64 ((i : Nat) : Int))] ⟨f0, f4, f5, f6, trivial⟩  12 ?_
    simp -implicitDefEqProofs (disch := omega) only [go_sem, ↓reduceIte, reduceCtorEq, Nat.reduceEqDiff, decide_false, lsV, List.length_map, hi, Nat.lt_irrefl]
    exact ⟨t2, ws, wc, rfl, rfl, rfl, rfl⟩
  · obtain ⟨t2, ws, wc, rfl, f4, f5, rfl⟩ := hE
    refine sem_exit [(4, .ptr 0 t 0), (5, .ptr 1 v1 0)] ⟨f4, f5, trivial⟩ 20 ?_
    simp -implicitDefEqProofs (disch := omega) only [go_sem, ↓reduceIte, reduceCtorEq, Nat.reduceAdd, Nat.reduceEqDiff, Nat.zero_add, Bool.not_false, Nat.le_refl, V.cells, false_implies, and_true, Bool.not_false, List.cons_append, List.nil_append, imH]
    exact ⟨t2, ws, wc, _, _, rfl, rfl, rfl⟩
theorem c_Image (hT : TabOk Tryz.prog tab) {ls : List (List In)} {d : Int} (hln : ls.length ≤ 100) (hl : ∀ l ∈ ls, l.length ≤ 1000) (hok : ∀ l ∈ ls, ∀ x ∈ l, InOk x) :
    Am.Pure Tryz.prog G0 n_proofmarkkit_Image [lsV ls, .int .i64 d] fun v => v = imgV (imgS ls d) := by
  intro t
  have hdat : (imgS ls d).data = d := by have := (imgS_len (ls := ls) (d := d) (i := ls.length) (Nat.le_refl _)).2; rwa [List.take_length] at this
  refine (C_freezeO (Q := fun v σ => ∃ t' wc A B, v = .agg [.int .i64 d, symsV (imgS ls d).syms, .sl 3 wc 0 1 (imgS ls d).code.length none] ∧ σ = ⟨t', [A, B, none, some (.arr wc 43 (rowU (imgS ls d).code))]⟩) (C_freezeO (c_ImageR hT hln hl hok t) fun v σ hv => ?_) fun v σ hv => ?_).conseq fun v σ hv => hv
  · obtain ⟨t', ws, wc, A, B, rfl, rfl⟩ := hv
    have hle : (imgS ls d).syms.length * 2 ≤ (rowS (imgS ls d).syms).length := by rw [rowS_len]; omega
    refine .inr ⟨2, ws, 60, rowS (imgS ls d).syms, Nat.zero_le _, rfl, rowS_nl _, ?_⟩
    refine ⟨t', wc, _, _, ?_, by simp [mapFrom, Ob.mapV, rowU_map]; exact ⟨rfl, rfl⟩⟩
    simp [frzV, frzL, rowsV, symsV, chunkS, hle]
  · obtain ⟨t', wc, A, B, rfl, rfl⟩ := hv
    have hlu : (rowU (imgS ls d).code).length = (imgS ls d).code.length := by simp [rowU]
    refine .inr ⟨3, wc, 43, rowU (imgS ls d).code, Nat.zero_le _, rfl, rowU_nl _, ?_, ?_⟩
    · simp [frzV, frzL, rowsV, symsV, nameless, namelessL, hlu]
    · have hle : (imgS ls d).code.length ≤ (rowU (imgS ls d).code).length := by rw [hlu]; exact Nat.le_refl _
      have ht : List.take (imgS ls d).code.length (rowU (imgS ls d).code) = rowU (imgS ls d).code := List.take_of_length_le (by rw [hlu]; exact Nat.le_refl _)
      simp [frzV, frzL, rowsV, symsV, imgV, imgC, codeV, hdat, hle, ht]
      rfl
end Go.Proofs.YtaidbdgndljaeaaGreatDoor
/- Small functions of the laws. -/
namespace Go.Proofs.YtaidbdgndljaeaaGreatDoor
open Go Go.Am Go.Rv Go.Rg
set_option maxRecDepth 100000
variable {P : Program} {G : Nat → Option V}
theorem c_addi (hT : TabOk P tab) (rd rs n : Int) : Am.Pure P G n_proofmarklaw22_addi [.int .u8 rd, .int .u8 rs, .int .i64 n] fun v => v = .agg (inC ⟨22, rd, rs, 0, n⟩) := by
  intro t
  refine C_keep 0 (Nat.zero_le _) (C_tab hT t_proofmarklaw22_addi (by simp [proofmarklaw22_addi]) (W_run 20 ?_))
  simp -implicitDefEqProofs (disch := omega) only [go_sem, ↓reduceIte, reduceCtorEq, Nat.reduceAdd, Nat.reduceEqDiff, Nat.reduceLeDiff, Nat.zero_add, Bool.not_false, Nat.le_refl, Nat.zero_le, proofmarklaw22_addi, zqf_0, zqf_1, inC, V.cells, false_implies, and_true, Bool.not_false, List.cons_append, List.nil_append]
theorem c_jr (hT : TabOk P tab) : Am.Pure P G n_proofmarklaw22_back [] fun v => v = .agg (inC jr) := by
  intro t
  refine C_keep 0 (Nat.zero_le _) (C_tab hT t_proofmarklaw22_back (by simp [proofmarklaw22_back]) (W_run 20 ?_))
  simp -implicitDefEqProofs (disch := omega) only [go_sem, ↓reduceIte, reduceCtorEq, Nat.reduceAdd, Nat.reduceEqDiff, Nat.reduceLeDiff, Nat.zero_add, Bool.not_false, Nat.le_refl, Nat.zero_le, proofmarklaw22_back, zqh_0, zqh_1, inC, V.cells, false_implies, and_true, Bool.not_false, List.cons_append, List.nil_append, jr]
def onV : List Rg.Fn ⊕ (Nat × Nat × Int) → V
  | .inl [f] => .tup [.agg (fC f), .agg (flt 0 0 0)]
  | .inl _ => .tup [.agg (fnC [] 0 [] 0 []), .agg (flt 0 0 0)]
  | .inr e => .tup [.agg (fnC [] 0 [] 0 []), .agg (flt e.1 e.2.1 e.2.2)]
theorem onV_nl (r : List Rg.Fn ⊕ (Nat × Nat × Int)) : nameless (onV r) = true := by
  unfold onV; split <;> simp [nameless, namelessL, fC, fn_nl, flt]
theorem enc_u {l : List In} : ∀ w ∈ encs l, ∃ x ∈ l, enc T x = (w, 0) := fun w hw => by
  unfold encs at hw
  obtain ⟨x, hx, he⟩ := List.mem_filterMap.1 hw
  split at he
  · rename_i h0
    simp only [Option.some.injEq] at he
    exact ⟨x, hx, by rw [← he, ← h0]⟩
  · cases he
end Go.Proofs.YtaidbdgndljaeaaGreatDoor
