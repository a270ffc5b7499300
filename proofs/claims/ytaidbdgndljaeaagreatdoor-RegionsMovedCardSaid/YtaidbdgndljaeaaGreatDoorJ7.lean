/- What may be asked of an instruction: where it goes. -/
import Derived.Test.YtaidbdgndljaeaaGreatDoorJ6
import Derived.Test.YtaidbdgndljaeaaGreatDoorJ4
import Derived.Test.YtaidbdgndljaeaaGreatDoorAmD
/- What may be asked of an instruction: where it goes. -/
namespace Go.Proofs.YtaidbdgndljaeaaGreatDoor
open Go Go.Am Go.Rv Go.Rg
set_option maxRecDepth 100000
variable {P : Program} {G : Nat → Option V}
theorem c_targetS1 (hT : TabOk P tab) {base t w T k : Nat} {o : List (Option Ob)} {at_ : Int} (ho : o[k]? = some (some (.arr w T [.int .i64 at_]))) (hb : base ≤ o.length) (s : List UInt8 × Int) :
    C P G base n_regions_reader_target_S1 [symV s, .ptr k w 0] ⟨t, o⟩ fun v σ => v = .bool (decide (s.2 = at_)) ∧ ∃ t', t ≤ t' ∧ σ = ⟨t', o⟩ := by
  have hk := (List.getElem?_eq_some_iff.1 ho).1
  have h1 : ∀ X, (o ++ [X])[k]? = some (some (.arr w T [.int .i64 at_])) := fun X => by rw [List.getElem?_append_left hk]; exact ho
  have h2 : ∀ X, (o ++ [X])[o.length]? = some X := fun X => List.getElem?_concat_length
  have h3 : ∀ X : Option Ob, List.take o.length (o ++ [X]) = o := fun X => by simp
  refine C_keep o.length hb (C_tab hT t_regions_reader_target_S1 (by simp [regions_reader_target_S1]) (W_run 20 ?_))
  simp -implicitDefEqProofs (disch := omega) only [go_sem, ↓reduceIte, reduceCtorEq, Nat.reduceAdd, Nat.reduceEqDiff, Nat.zero_add, Nat.le_refl, regions_reader_target_S1, zq2x_0, zq2x_1, symV, V.cells, h1, h2]
  refine ⟨by simp, by rw [ibeq], t + 1, Nat.le_succ t, by simp [h3]⟩
theorem c_hasSym (hT : TabOk P tab) {base t w T k : Nat} {o : List (Option Ob)} {at_ : Int} (ho : o[k]? = some (some (.arr w T [.int .i64 at_]))) (hb : base ≤ o.length) (l : List (List UInt8 × Int)) (hl : l.length ≤ 1000) :
    C P G base n_slices_ContainsFunc_image_Sym_image_Sym [symsV l, .fn (.func n_regions_reader_target_S1) [] [.ptr k w 0]] ⟨t, o⟩ fun v σ => v = .bool (decide (at_ ∈ l.map (·.2))) ∧ ∃ t', t ≤ t' ∧ σ = ⟨t', o⟩ := by
  have hI := c_IdxSym (P := P) (G := G) hT (base := base) (t := t) (o := o) (f := .fn (.func n_regions_reader_target_S1) [] [.ptr k w 0]) (p := fun i => match l[i]? with | some s => decide (s.2 = at_) | none => false) (l := l) (tg := false)
    (fun _ σ => ∃ t', t ≤ t' ∧ σ = ⟨t', o⟩) (fun σ => ∃ t', t ≤ t' ∧ σ = ⟨t', o⟩) (by omega) (fun i s hs σ hI => ?_) ⟨t, Nat.le_refl _, rfl⟩
  · refine C_tab hT t_slices_ContainsFunc_image_Sym_image_Sym (by simp [slices_ContainsFunc_image_Sym_image_Sym]) (W_run 1000 ?_)
    simp -implicitDefEqProofs (disch := omega) only [go_sem, ↓reduceIte, reduceCtorEq, Nat.reduceEqDiff, Nat.zero_add, slices_ContainsFunc_image_Sym_image_Sym, zq1e_0, zq1e_1, symsV]
    refine call hT t_slices_IndexFunc_image_Sym_image_Sym hI 1000 fun v σ hv => ?_
    rcases hv with ⟨i, hlt, _, hpi, rfl, t', ht, rfl⟩ | ⟨hno, rfl, t', ht, rfl⟩
    · simp -implicitDefEqProofs (disch := omega) only [go_sem, ↓reduceIte, reduceCtorEq, Nat.reduceEqDiff, ge_iff_le]
      refine ⟨?_, t', ht, rfl⟩
      obtain ⟨s, hs⟩ : ∃ s, l[i]? = some s := ⟨_, List.getElem?_eq_getElem hlt⟩
      simp only [hs, decide_eq_true_eq] at hpi
      have hm : at_ ∈ l.map (·.2) := List.mem_map.2 ⟨s, List.mem_of_getElem? hs, hpi⟩
      rw [decide_eq_true hm, decide_eq_true (by omega)]
    · simp -implicitDefEqProofs (disch := omega) only [go_sem, ↓reduceIte, reduceCtorEq, Nat.reduceEqDiff, Int.reduceLE, decide_false, ge_iff_le]
      refine ⟨?_, t', ht, rfl⟩
      have hm : at_ ∉ l.map (·.2) := fun h => by
        obtain ⟨s, hs, e⟩ := List.mem_map.1 h
        obtain ⟨j, hj, e2⟩ := List.mem_iff_getElem.1 hs
        have := hno j hj
        rw [List.getElem?_eq_getElem hj, e2] at this
        simp [e] at this
      rw [decide_eq_false hm]
  · obtain ⟨t1, ht1, rfl⟩ := hI
    refine CV.of hT t_regions_reader_target_S1 ((c_targetS1 (P := P) (G := G) hT ho hb s).conseq fun v σ hv => ?_)
    obtain ⟨rfl, t2, ht2, rfl⟩ := hv
    simp only [hs]
    exact ⟨trivial, fun _ => ⟨t2, by omega, rfl⟩, fun _ => ⟨t2, by omega, rfl⟩⟩
theorem c_target (hT : TabOk P tab) {m : Im} {nm : List UInt8} {pl F : Int} {c : List In} {vr t i : Nat} {X1 X2 X4 X6 X7 : Option Ob} {x : In} (hx : c[i]? = some x) (hl : c.length ≤ 1000000) (hs : m.syms.length ≤ 1000) (hb : -1099511627776 ≤ x.imm ∧ x.imm ≤ 1099511627776) (hpl : 0 ≤ pl ∧ pl ≤ 1099511627776) :
    C P G 0 n_regions_reader_target [.ptr 3 vr 0, .int .i64 (i : Int)] ⟨t, rdH m nm pl c F vr X1 X2 X4 X6 X7⟩ fun v σ => v = .bool (targetOk (ats m) pl c F i x) ∧ ∃ t', t ≤ t' ∧ σ = ⟨t', rdH m nm pl c F vr X1 X2 X4 X6 X7⟩ := by
  have hD := ins_getD hx
  simp only [inC] at hD
  have hlt := (List.getElem?_eq_some_iff.1 hx).1
  have hJm := c_jumps (P := P) (G := G) hT x
  have h4 := tdiv4 (n := x.imm) (by omega)
  have w1 : IntKind.i64.wrap (x.imm.tdiv 4) = x.imm.tdiv 4 := wself (by omega)
  have w2 : IntKind.i64.wrap ((i : Int) + x.imm.tdiv 4) = tgt x i := by rw [wself (by omega)]; rfl
  have w3 : IntKind.i64.wrap (4 * (i : Int)) = 4 * (i : Int) := wself (by omega)
  have w4 : IntKind.i64.wrap (pl + 4 * (i : Int)) = pl + 4 * (i : Int) := wself (by omega)
  have w5 : IntKind.i64.wrap (pl + 4 * (i : Int) + x.imm) = pl + 4 * (i : Int) + x.imm := wself (by omega)
  simp only [inC] at hJm
  have hto : targetOk (ats m) pl c F i x = if jumps x then decide (x.imm.tmod 4 = 0) && (decide (0 < tgt x i) && (decide (tgt x i < c.length) && !(decide (0 < F) && ret c F (tgt x i)))) else if x.op = 3 then decide (x.rd = 1) && decide (pl + 4 * i + x.imm ∈ ats m) else true := rfl
  refine C_keep 8 (Nat.zero_le _) (C_tab hT t_regions_reader_target (by simp [regions_reader_target]) (W_run 22 ?_))
  simp -implicitDefEqProofs (disch := omega) only [go_sem, need_of, ↓reduceIte, reduceCtorEq, Nat.reduceAdd, Nat.reduceEqDiff, Nat.reduceLeDiff, Nat.zero_add, Bool.not_false, Nat.le_refl, Nat.zero_le, regions_reader_target, zq27_0, zq27_1, zq27_2, zq27_3, zq27_4, zq27_5, zq27_6, zq27_7, zq27_8, rdH, rdC, insV, symsV, codeV, inC, V.cells, List.length_map, false_implies, true_implies, and_true, Bool.not_false, List.cons_append, List.nil_append, hlt, hD]
  iterate 1 (try (refine run_sem 4 ?_; simp -implicitDefEqProofs (disch := omega) only [go_sem, ↓reduceIte, reduceCtorEq, Nat.reduceEqDiff]))
  refine callPS hT t_regions_jumps hJm rfl 4 ?_
  cases hj : jumps x with
  | false =>
    simp -implicitDefEqProofs (disch := omega) only [go_sem, ↓reduceIte, reduceCtorEq, Nat.reduceEqDiff]
    by_cases h3 : x.op = 3
    · have h3' : (x.op == 3) = true := by simp [h3]
      by_cases h1 : x.rd = 1
      · have h1' : (x.rd == 1) = true := by simp [h1]
        iterate 9 (try (refine run_sem 4 ?_; simp -implicitDefEqProofs (disch := omega) only [go_sem, ↓reduceIte, reduceCtorEq, Nat.reduceAdd, Nat.reduceEqDiff, Nat.reduceLeDiff, Nat.zero_add, Nat.add_zero, Bool.not_false, Nat.le_refl, Nat.zero_le, V.cells, true_implies, and_true, Bool.not_false, List.cons_append, List.nil_append, h3', h1', w3, w4, w5]))
        have hS := fun T3 => c_hasSym (P := P) (G := G) hT (base := 0) (t := t + 1 + 1) (w := t + 1) (T := 2) (k := 9) (o := [none, X1, X2, some (.arr vr 107 (rdC m nm pl c F)), X4, none, X6, X7, T3, some (.arr (t + 1) 2 [.int .i64 (pl + 4 * (i : Int) + x.imm)])]) (at_ := pl + 4 * (i : Int) + x.imm) rfl (Nat.zero_le _) m.syms hs
        simp only [rdC, insV, symsV, codeV, inC] at hS
        refine call hT t_slices_ContainsFunc_image_Sym_image_Sym (hS _) 4 fun v σ hv => ?_
        obtain ⟨rfl, t2, ht2, rfl⟩ := hv
        simp -implicitDefEqProofs (disch := omega) only [go_sem, ↓reduceIte, reduceCtorEq, Nat.reduceEqDiff]
        iterate 4 (try (refine run_sem 4 ?_; simp -implicitDefEqProofs (disch := omega) only [go_sem, ↓reduceIte, reduceCtorEq, Nat.reduceAdd, Nat.reduceEqDiff, Nat.reduceLeDiff, Nat.zero_add, true_and, and_true]))
        exact ⟨by rw [hto, hj]; simp [h1, h3, ats]; congr, t2, by omega, rfl⟩
      · have h1' : (x.rd == 1) = false := by simp [h1]
        iterate 12 (try (refine run_sem 4 ?_; simp -implicitDefEqProofs (disch := omega) only [go_sem, ↓reduceIte, reduceCtorEq, Nat.reduceAdd, Nat.reduceEqDiff, Nat.reduceLeDiff, Nat.zero_add, Nat.add_zero, Bool.not_false, Nat.le_refl, Nat.zero_le, V.cells, true_implies, true_and, and_true, Bool.not_false, List.cons_append, List.nil_append, h3', h1', w3, w4, w5]))
        exact ⟨by rw [hto, hj]; simp [h1, h3], t + 1 + 1, by omega, rfl⟩
    · have h3' : (x.op == 3) = false := by simp [h3]
      iterate 6 (try (refine run_sem 4 ?_; simp -implicitDefEqProofs (disch := omega) only [go_sem, ↓reduceIte, reduceCtorEq, Nat.reduceAdd, Nat.reduceEqDiff, Nat.reduceLeDiff, Nat.zero_add, Nat.add_zero, true_implies, true_and, and_true, h3']))
      exact ⟨by rw [hto, hj]; simp [h3], t + 1, by omega, rfl⟩
  | true =>
    simp -implicitDefEqProofs (disch := omega) only [go_sem, ↓reduceIte, reduceCtorEq, Nat.reduceEqDiff]
    have hR := fun h => k_Return (P := P) (G := G) hT nm pl F c (tgt x i) hl h
    have hn := fnN_nl (nm := nm) (pl := pl) (c := c) (F := F) (i := tgt x i)
    simp only [fnN, insV, inC] at hR hn
    by_cases g1 : x.imm.tmod 4 = 0
    · have g1' : (x.imm.tmod 4 == 0) = true := by simp [g1]
      by_cases g2 : 0 < tgt x i
      · have g2' : decide (0 < tgt x i) = true := decide_eq_true g2
        by_cases g3 : tgt x i < c.length
        · have g3' : decide (tgt x i < (c.length : Int)) = true := decide_eq_true g3
          by_cases g4 : 0 < F
          · have g4' : decide (0 < F) = true := decide_eq_true g4
            iterate 12 (try (refine run_sem 4 ?_; simp -implicitDefEqProofs (disch := omega) only [go_sem, ↓reduceIte, reduceCtorEq, Nat.reduceAdd, Nat.reduceEqDiff, Nat.reduceLeDiff, Int.reduceEq, Nat.zero_add, decide_true, Nat.le_refl, gt_iff_lt, List.length_map, false_implies, true_implies, and_true, not_false_eq_true, gt_iff_lt, w1, w2, g1', g2, g3, g4]))
            refine callPS hT t_regions_Func_Return (hR (by omega)) hn 4 ?_
            simp -implicitDefEqProofs (disch := omega) only [go_sem, ↓reduceIte, reduceCtorEq, Nat.reduceAdd, Nat.reduceEqDiff]
            iterate 4 (try (refine run_sem 4 ?_; simp -implicitDefEqProofs (disch := omega) only [go_sem, ↓reduceIte, reduceCtorEq, Nat.reduceAdd, Nat.reduceEqDiff, Nat.reduceLeDiff, Nat.zero_add, true_and, and_true]))
            exact ⟨by rw [hto, hj]; simp [g1, g2, g3, g4], t + 1, by omega, rfl⟩
          · have g4' : decide (0 < F) = false := decide_eq_false g4
            iterate 14 (try (refine run_sem 4 ?_; simp -implicitDefEqProofs (disch := omega) only [go_sem, ↓reduceIte, reduceCtorEq, Nat.reduceAdd, Nat.reduceEqDiff, Nat.reduceLeDiff, Int.reduceEq, Nat.zero_add, decide_true, decide_false, Bool.not_false, Nat.le_refl, gt_iff_lt, List.length_map, true_implies, true_and, and_true, not_false_eq_true, Bool.not_false, gt_iff_lt, w1, w2, g1', g2, g3, g4]))
            exact ⟨by rw [hto, hj]; simp [g1, g2, g3, g4], t + 1, by omega, rfl⟩
        · have g3' : decide (tgt x i < (c.length : Int)) = false := decide_eq_false g3
          iterate 14 (try (refine run_sem 4 ?_; simp -implicitDefEqProofs (disch := omega) only [go_sem, ↓reduceIte, reduceCtorEq, Nat.reduceAdd, Nat.reduceEqDiff, Nat.reduceLeDiff, Int.reduceEq, Nat.zero_add, decide_true, decide_false, Nat.le_refl, gt_iff_lt, List.length_map, true_implies, true_and, and_true, not_false_eq_true, gt_iff_lt, w1, w2, g1', g2, g3]))
          exact ⟨by rw [hto, hj]; simp [g1, g2, g3], t + 1, by omega, rfl⟩
      · have g2' : decide (0 < tgt x i) = false := decide_eq_false g2
        iterate 14 (try (refine run_sem 4 ?_; simp -implicitDefEqProofs (disch := omega) only [go_sem, ↓reduceIte, reduceCtorEq, Nat.reduceAdd, Nat.reduceEqDiff, Nat.reduceLeDiff, Int.reduceEq, Nat.zero_add, decide_false, Nat.le_refl, gt_iff_lt, true_implies, true_and, and_true, not_false_eq_true, gt_iff_lt, w1, w2, g1', g2]))
        exact ⟨by rw [hto, hj]; simp [g1, g2], t + 1, by omega, rfl⟩
    · have g1' : (x.imm.tmod 4 == 0) = false := by simp [g1]
      iterate 14 (try (refine run_sem 4 ?_; simp -implicitDefEqProofs (disch := omega) only [go_sem, ↓reduceIte, reduceCtorEq, Nat.reduceAdd, Nat.reduceEqDiff, Nat.reduceLeDiff, Int.reduceEq, Nat.zero_add, Nat.le_refl, true_implies, true_and, and_true, not_false_eq_true, w1, w2, g1']))
      exact ⟨by rw [hto, hj]; simp [g1], t + 1, by omega, rfl⟩
end Go.Proofs.YtaidbdgndljaeaaGreatDoor
/- What is wrong with an instruction. -/
namespace Go.Proofs.YtaidbdgndljaeaaGreatDoor
open Go Go.Am Go.Rv Go.Rg
set_option maxRecDepth 100000
def rd6 (m : Im) (nm : List UInt8) (pl : Int) (c : List In) (F : Int) (vr : Nat) (X1 X2 X4 : Option Ob) : List (Option Ob) := [none, X1, X2, some (.arr vr 107 (rdC m nm pl c F)), X4, none]
def mB (n vr : Nat) : V := .fn (.func n) [.ptr 3 vr 0] []
def asks (vr : Nat) : List V := [mB n_regions_reader_op vr, .int .i64 220, mB n_regions_reader_stack vr, .int .i64 221, mB n_regions_reader_target vr, .int .i64 222, mB n_regions_reader_back vr, .int .i64 223]
structure Ask (m : Im) (pl : Int) (c : List In) (i : Nat) (x : In) : Prop where
  hx : c[i]? = some x
  hl : c.length ≤ 1000000
  hs : m.syms.length ≤ 1000
  hxo : InOk x
  hb : -1099511627776 ≤ x.imm ∧ x.imm ≤ 1099511627776
  hpl : 0 ≤ pl ∧ pl ≤ 1099511627776
def bitAt (m : Im) (pl : Int) (c : List In) (F : Int) (i : Nat) (x : In) (k : Nat) : Bool := if k = 0 then opOk x else if k = 1 then stackOk c F i x else if k = 2 then targetOk (ats m) pl c F i x else backOk c F i x
def errAt (k : Nat) : Int := if k = 0 then 220 else if k = 1 then 221 else if k = 2 then 222 else 223
theorem ask_k (hT : TabOk Tryz.prog tab) {m : Im} {nm : List UInt8} {pl F : Int} {c : List In} {vr i : Nat} {X1 X2 X4 : Option Ob} {x : In} (h : Ask m pl c i x) {k : Nat} (hk : k < 4) (t : Nat) (X6 X7 : Option Ob) :
    CV Tryz.prog G0 0 ((asks vr).getD (2 * k) .any) [.int .i64 (i : Int)] ⟨t, rd6 m nm pl c F vr X1 X2 X4 ++ [X6, X7]⟩ fun v σ => v = .bool (bitAt m pl c F i x k) ∧ ∃ t', t ≤ t' ∧ σ = ⟨t', rd6 m nm pl c F vr X1 X2 X4 ++ [X6, X7]⟩ := by
  match k, hk with
  | 0, _ => exact CV_tab (first := [.ptr 3 vr 0]) (cap := []) hT t_regions_reader_op (c_op hT h.hx h.hl)
  | 1, _ => exact CV_tab (first := [.ptr 3 vr 0]) (cap := []) hT t_regions_reader_stack (c_stack hT h.hx h.hl h.hxo)
  | 2, _ => exact CV_tab (first := [.ptr 3 vr 0]) (cap := []) hT t_regions_reader_target (c_target hT h.hx h.hl h.hs h.hb h.hpl)
  | 3, _ => exact CV_tab (first := [.ptr 3 vr 0]) (cap := []) hT t_regions_reader_back (c_back hT h.hx h.hl)
theorem fault_k {m : Im} {pl F : Int} {c : List In} {i : Nat} {x : In} {k : Nat} (hk : k < 4) (h0 : ∀ j, j < k → bitAt m pl c F i x j = true) (h1 : bitAt m pl c F i x k = false) : faultOf (ats m) pl c F i x = errAt k := by
  unfold faultOf
  match k, hk with
  | 0, _ => have h1 : opOk x = false := h1; rw [if_pos h1]; rfl
  | 1, _ =>
    have e0 : opOk x = true := h0 0 (by omega)
    have h1 : stackOk c F i x = false := h1
    rw [e0, if_neg (by simp), if_pos h1]; rfl
  | 2, _ =>
    have e0 : opOk x = true := h0 0 (by omega)
    have e1 : stackOk c F i x = true := h0 1 (by omega)
    have h1 : targetOk (ats m) pl c F i x = false := h1
    rw [e0, e1, if_neg (by simp), if_neg (by simp), if_pos h1]; rfl
  | 3, _ =>
    have e0 : opOk x = true := h0 0 (by omega)
    have e1 : stackOk c F i x = true := h0 1 (by omega)
    have e2 : targetOk (ats m) pl c F i x = true := h0 2 (by omega)
    have h1 : backOk c F i x = false := h1
    rw [e0, e1, e2, if_neg (by simp), if_neg (by simp), if_neg (by simp), if_pos h1]; rfl
theorem fault_no {m : Im} {pl F : Int} {c : List In} {i : Nat} {x : In} (h0 : ∀ j, j < 4 → bitAt m pl c F i x j = true) : faultOf (ats m) pl c F i x = 0 := by
  unfold faultOf
  have e0 : opOk x = true := h0 0 (by omega)
  have e1 : stackOk c F i x = true := h0 1 (by omega)
  have e2 : targetOk (ats m) pl c F i x = true := h0 2 (by omega)
  have e3 : backOk c F i x = true := h0 3 (by omega)
  simp [e0, e1, e2, e3]
abbrev fkJ (m : Im) (nm : List UInt8) (pl : Int) (c : List In) (F : Int) (vr : Nat) (X1 X2 X4 : Option Ob) (i ta t0 : Nat) (x : In) : Nat → Fr → H → Prop := fun k fr σ => ∃ t, t0 ≤ t ∧ (∀ j, j < k → bitAt m pl c F i x j = true) ∧ fget fr 0 = .ptr 3 vr 0 ∧ fget fr 1 = .int .i64 (i : Int) ∧ fget fr 21 = .sl 6 ta 0 2 4 none ∧ fget fr 22 = .int .i64 4 ∧ fget fr 23 = .int .i64 ((k : Nat) : Int) ∧ σ = ⟨t, rd6 m nm pl c F vr X1 X2 X4 ++ [some (.arr ta 138 (asks vr))]⟩
abbrev fkE (m : Im) (nm : List UInt8) (pl : Int) (c : List In) (F : Int) (vr : Nat) (X1 X2 X4 : Option Ob) (i t0 : Nat) (x : In) : AE → Fr → H → Prop := fun e fr σ => (∃ t ex, t0 ≤ t ∧ σ = ⟨t, rd6 m nm pl c F vr X1 X2 X4 ++ ex⟩) ∧ ((e = .ret ∧ fget fr 4 = .int .i64 (faultOf (ats m) pl c F i x)) ∨ (e = .ex 0 ∧ faultOf (ats m) pl c F i x = 0))
theorem fk_round (hT : TabOk Tryz.prog tab) {m : Im} {nm : List UInt8} {pl F : Int} {c : List In} {vr i : Nat} {X1 X2 X4 : Option Ob} {x : In} (h : Ask m pl c i x) {ta t0 k : Nat} (hk : k < 4) {fr : Fr} {σ : H} (hJ : fkJ m nm pl c F vr X1 X2 X4 i ta t0 x k fr σ) :
    W Tryz.prog G0 35 0 (AC.seq (AC.reg zq1k_3 [])   (AC.seq (AC.cond (Arg.t 24)   AC.skip   (AC.exit 0))   (AC.seq (AC.block 1 (AC.seq (AC.reg zq1k_4 [25, 26])   (AC.seq (AC.reg zq1k_5 [27, 28, 29, 30])   (AC.cond (Arg.t 31)   (AC.seq (AC.reg zq1k_6 [32, 33])   AC.ret)   AC.skip))))   (AC.reg zq1k_7 [34])))) fr σ (seqQ (fun fr σ => ∃ fr' σ', Shift G0 35 0 fr σ fr' σ' ∧ fkJ m nm pl c F vr X1 X2 X4 i ta t0 x (k + 1) fr' σ') (fkE m nm pl c F vr X1 X2 X4 i t0 x)) := by
  obtain ⟨t, ht, hno, f0, f1, f21, f22, f23, rfl⟩ := hJ
  have hq := ask_k hT h hk (nm := nm) (F := F) (vr := vr) (X1 := X1) (X2 := X2) (X4 := X4)
  have hlt : ((k : Int) < 4) = True := eq_true (by omega)
  have e2 : IntKind.i64.wrap ((k : Int) + 1) = ((k + 1 : Nat) : Int) := by rw [wself (by omega)]; rfl
  have hload : List.take 2 (List.drop (k * 2) (asks vr)) = [(asks vr).getD (2 * k) .any, .int .i64 (errAt k)] := by
    match k, hk with
    | 0, _ => rfl
    | 1, _ => rfl
    | 2, _ => rfl
    | 3, _ => rfl
  have hsol : solid ((asks vr).getD (2 * k) .any) = true := by
    match k, hk with
    | 0, _ => rfl
    | 1, _ => rfl
    | 2, _ => rfl
    | 3, _ => rfl
  have hone : oneV ((asks vr).getD (2 * k) .any) = true := by
    match k, hk with
    | 0, _ => rfl
    | 1, _ => rfl
    | 2, _ => rfl
    | 3, _ => rfl
  have hal : (asks vr).length = 8 := rfl
  have hk2 : (k * 2 + 2 ≤ 8) = True := eq_true (by omega)
  generalize (asks vr).getD (2 * k) .any = fv at *
  refine W_round [(0, .ptr 3 vr 0), (1, .int .i64 (i : Int)), (21, .sl 6 ta 0 2 4 none), (22, .int .i64 4), (23, .int .i64 ((k : Nat) : Int))] ⟨f0, f1, f21, f22, f23, trivial⟩  12 ?_
  simp -implicitDefEqProofs (disch := omega) only [go_sem, need_of, ↓reduceIte, reduceCtorEq, Nat.reduceEqDiff, Nat.zero_add, decide_true, zq1k_3, zq1k_4, zq1k_5, zq1k_6, zq1k_7, rdC, insV, symsV, codeV, inC, and_true, List.cons_append, List.nil_append, rd6, hlt]
  have hso1 : ones [fv, V.int .i64 (errAt k)] := by
    intro u hu
    simp only [List.mem_cons, List.not_mem_nil, or_false] at hu
    rcases hu with rfl | rfl
    · exact hone
    · rfl
  refine run_sem 12 ?_
  simp -implicitDefEqProofs (disch := omega) only [go_sem, ↓reduceIte, reduceCtorEq, Nat.reduceAdd, Nat.reduceEqDiff, Nat.reduceLeDiff, Nat.zero_add, Nat.add_zero, Bool.not_false, Nat.le_refl, Nat.zero_le, V.cells, false_implies, true_implies, and_true, Bool.not_false, List.cons_append, List.nil_append, hload, hal, hk2, hso1, vo2]
  have hsb : ∀ Y, subObs (rd6 m nm pl c F vr X1 X2 X4 ++ [some (.arr ta 138 (asks vr))]) (rd6 m nm pl c F vr X1 X2 X4 ++ [some (.arr ta 138 (asks vr)), Y]) := fun Y => subObs_take 7 (rd6 m nm pl c F vr X1 X2 X4 ++ [some (.arr ta 138 (asks vr)), Y])
  simp only [rd6, rdC, insV, symsV, codeV, inC, List.cons_append, List.nil_append] at hq
  refine CV.use 12 (hq _ _ _) fun v σ hv => ?_
  obtain ⟨rfl, t2, ht2, rfl⟩ := hv
  cases hb : bitAt m pl c F i x k with
  | false =>
    simp -implicitDefEqProofs (disch := omega) only [go_sem, ↓reduceIte, reduceCtorEq, Nat.reduceAdd, Nat.reduceEqDiff, Nat.zero_add, Bool.not_false, Nat.le_refl, true_implies, and_true, Bool.not_false]
    iterate 4 (try (refine run_sem 4 ?_; simp -implicitDefEqProofs (disch := omega) only [go_sem]))
    refine ⟨⟨t2, _, by omega, rfl⟩, ?_⟩
    rw [fault_k hk hno hb]
    exact .inl ⟨rfl, rfl⟩
  | true =>
    simp -implicitDefEqProofs (disch := omega) only [go_sem, ↓reduceIte, reduceCtorEq, Nat.reduceEqDiff, Bool.not_true, Bool.not_true]
    iterate 4 (try (refine run_sem 4 ?_; simp -implicitDefEqProofs (disch := omega) only [go_sem, need_of, ↓reduceIte, reduceCtorEq, Nat.reduceAdd, Nat.reduceEqDiff, Nat.reduceLeDiff, Nat.reduceLT, Nat.reduceSub, Nat.reduceMul, Int.reduceToNat, Int.reduceLE, Int.reduceLT, Int.reduceEq, Int.reduceNe, Nat.succ_ne_zero, Nat.zero_add, Nat.add_zero, Nat.mul_one, Nat.one_mul, Nat.zero_mul, decide_true, decide_false, Bool.not_true, Bool.not_false, Nat.le_refl, Nat.zero_le, ge_iff_le, gt_iff_lt, Nat.reduceBEq, Nat.reduceBNe, beq_self_eq_true, bne_self_eq_false, Option.isSome_some, Option.isSome_none, Option.getD_some, Option.getD_none, regions_reader_fault, zq1k_0, zq1k_1, zq1k_2, zq1k_3, zq1k_4, zq1k_5, zq1k_6, zq1k_7, zq1k_8, rdC, insV, symsV, codeV, inC, V.cells, List.length_map, false_implies, true_implies, true_and, and_true, not_true_eq_false, not_false_eq_true, Int.reduceBEq, Int.reduceBNe, Bool.not_true, Bool.not_false, List.cons_append, List.nil_append, ge_iff_le, gt_iff_lt, rd6]))
    refine ⟨_, _, Shift.drop (o' := rd6 m nm pl c F vr X1 X2 X4 ++ [some (.arr ta 138 (asks vr))]) (t' := t2) (hsb _) (Nat.le_refl _) (Nat.zero_le _), t2, by omega, fun j hj => ?_, ?_⟩
    · rcases Nat.lt_or_ge j k with h | h
      · exact hno j h
      · rw [show j = k by omega]; exact hb
    · simp -implicitDefEqProofs (disch := omega) only [go_sem, ↓reduceIte, reduceCtorEq, Nat.reduceEqDiff, rdC, insV, symsV, codeV, inC, and_true, List.cons_append, List.nil_append, rd6, e2]
theorem c_fault (hT : TabOk Tryz.prog tab) {m : Im} {nm : List UInt8} {pl F : Int} {c : List In} {vr t i : Nat} {X1 X2 X4 : Option Ob} {x : In} (h : Ask m pl c i x) :
    C Tryz.prog G0 0 n_regions_reader_fault [.ptr 3 vr 0, .int .i64 (i : Int)] ⟨t, rd6 m nm pl c F vr X1 X2 X4⟩ fun v σ => v = .int .i64 (faultOf (ats m) pl c F i x) ∧ ∃ t', t ≤ t' ∧ σ = ⟨t', rd6 m nm pl c F vr X1 X2 X4⟩ := by
  have ho : ones (asks vr) := by
    intro u hu
    simp only [asks, mB, List.mem_cons, List.not_mem_nil, or_false] at hu
    rcases hu with rfl | rfl | rfl | rfl | rfl | rfl | rfl | rfl <;> rfl
  refine C_keep 6 (Nat.zero_le _) (C_tab hT t_regions_reader_fault (by simp [regions_reader_fault]) (W_run 60 ?_))
  simp -implicitDefEqProofs (disch := omega) only [go_sem, ↓reduceIte, reduceCtorEq, Nat.reduceAdd, Nat.reduceEqDiff, Nat.reduceLeDiff, Nat.zero_add, Nat.le_refl, regions_reader_fault, zq1k_0, zq1k_1, zq1k_2, zq1k_3, zq1k_4, zq1k_5, zq1k_6, zq1k_7, zq1k_8, rdC, insV, symsV, codeV, inC, V.cells, and_true, List.cons_append, List.nil_append, rd6, H.push]
  refine sem_for [(0 : Nat), 1, 2, 3] (fkJ m nm pl c F vr X1 X2 X4 i t t x) (fkE m nm pl c F vr X1 X2 X4 i t x) ⟨t + 1, by omega, fun j hj => absurd hj (Nat.not_lt_zero j), ?_⟩ (fun k a ha fr σ hJ => ?_) (fun k hk fr σ hJ => ?_) (fun e fr σ hE => ?_)
  · simp -implicitDefEqProofs (disch := omega) only [go_sem, ↓reduceIte, reduceCtorEq, Nat.reduceEqDiff, rdC, insV, symsV, codeV, inC, true_and, List.cons_append, List.nil_append, rd6]
    exact ⟨rfl, rfl, rfl⟩
  · have hk := (List.getElem?_eq_some_iff.1 ha).1
    exact fk_round hT h hk hJ
  · obtain ⟨t2, ht2, hno, f0, f1, f21, f22, f23, rfl⟩ := hJ
    obtain rfl : k = 4 := hk
    have h44 : (((4 : Nat) : Int) < 4) = False := eq_false (by decide)
    refine W_round [(0, .ptr 3 vr 0), (1, .int .i64 (i : Int)), (21, .sl 6 t 0 2 4 none), (22, .int .i64 4), (23, .int .i64 ((4 : Nat) : Int))] ⟨f0, f1, f21, f22, f23, trivial⟩  12 ?_
    simp -implicitDefEqProofs (disch := omega) only [go_sem, ↓reduceIte, reduceCtorEq, Nat.reduceEqDiff, decide_false, rdC, insV, symsV, codeV, inC, List.cons_append, List.nil_append, rd6, h44]
    exact ⟨⟨t2, _, ht2, rfl⟩, .inr ⟨rfl, fault_no hno⟩⟩
  · obtain ⟨⟨t2, ex, ht2, rfl⟩, hE⟩ := hE
    rcases hE with ⟨rfl, f4⟩ | ⟨rfl, h0⟩
    · refine run_sem 12 ?_
      simp -implicitDefEqProofs (disch := omega) only [go_sem, Nat.reduceLeDiff, rdC, insV, symsV, codeV, inC, true_and, and_true, List.cons_append, List.nil_append, rd6, f4]
      exact ⟨t2, ht2, rfl⟩
    · refine run_sem 12 ?_
      simp -implicitDefEqProofs (disch := omega) only [go_sem, ↓reduceIte, Nat.reduceLeDiff, rdC, insV, symsV, codeV, inC, true_and, and_true, List.cons_append, List.nil_append, rd6, h0]
      exact ⟨t2, ht2, rfl⟩
end Go.Proofs.YtaidbdgndljaeaaGreatDoor
/- Plain: what is decoded can be. -/
namespace Go.Rg
open Go Go.Am Go.Rv
set_option maxRecDepth 100000
theorem fld_ge {w : Int} (h : 0 ≤ w) (a m : Nat) : 0 ≤ fld w a m ∧ fld w a m < 2 ^ m := by
  unfold fld
  have hp : (0 : Int) < 2 ^ m := Int.pow_pos (by decide)
  exact ⟨Int.emod_nonneg _ (by omega), Int.emod_lt_of_pos _ hp⟩
theorem sgn_le {n : Int} {b : Nat} {B : Int} (h0 : 0 ≤ n) (h1 : n < B) (hb : (2 : Int) ^ b ≤ B) : -B ≤ sgn n b ∧ sgn n b ≤ B := by
  have hp : (0 : Int) < 2 ^ b := Int.pow_pos (by decide)
  unfold sgn
  split <;> omega
theorem number_le {w : Int} (h0 : 0 ≤ w) (f : Int) : -8589934592 ≤ number w f ∧ number w f ≤ 8589934592 := by
  unfold number
  have q := fun a m => fld_ge h0 a m
  split
  · have := q 20 12
    have := sgn_le (B := 8589934592) this.1 (by have := this.2; omega) (b := 12) (by decide)
    omega
  split
  · have := q 20 6; omega
  split
  · have := q 20 5; omega
  split
  · have h1 := q 25 7; have h2 := q 7 5
    have := sgn_le (n := fld w 25 7 * 32 + fld w 7 5) (B := 8589934592) (by omega) (by omega) (b := 12) (by decide)
    omega
  split
  · have h1 := q 31 1; have h2 := q 7 1; have h3 := q 25 6; have h4 := q 8 4
    have := sgn_le (n := fld w 31 1 * 4096 + fld w 7 1 * 2048 + fld w 25 6 * 32 + fld w 8 4 * 2) (B := 8589934592) (by omega) (by omega) (b := 13) (by decide)
    omega
  split
  · have h1 := q 12 20
    have := sgn_le (n := fld w 12 20 * 4096) (B := 8589934592) (by omega) (by omega) (b := 32) (by decide)
    omega
  split
  · have h1 := q 31 1; have h2 := q 12 8; have h3 := q 20 1; have h4 := q 21 10
    have := sgn_le (n := fld w 31 1 * 1048576 + fld w 12 8 * 4096 + fld w 20 1 * 2048 + fld w 21 10 * 2) (B := 8589934592) (by omega) (by omega) (b := 21) (by decide)
    omega
  · omega
theorem dec_le {w : Int} (h0 : 0 ≤ w) {x : In} (h : dec w = some x) : ((0 ≤ x.op ∧ x.op ≤ 255) ∧ (0 ≤ x.rd ∧ x.rd ≤ 255) ∧ (0 ≤ x.rs1 ∧ x.rs1 ≤ 255) ∧ (0 ≤ x.rs2 ∧ x.rs2 ≤ 255)) ∧ (-8589934592 ≤ x.imm ∧ x.imm ≤ 8589934592) := by
  obtain ⟨k, r, hk, _, rfl⟩ := first_some h
  have hkl := (List.getElem?_eq_some_iff.1 hk).1
  rw [T_len] at hkl
  have q := fun a => fld_ge h0 a 5
  refine ⟨⟨?_, ?_, ?_, ?_⟩, number_le h0 _⟩
  · simp only [mk]; omega
  · simp only [mk]; split
    · have := q 7; omega
    · omega
  · simp only [mk]; split
    · have := q 15; omega
    · omega
  · simp only [mk]; split
    · have := q 20; omega
    · omega
end Go.Rg
/- Bounds of a region. -/
namespace Go.Proofs.YtaidbdgndljaeaaGreatDoor
open Go Go.Am Go.Rv Go.Rg
set_option maxRecDepth 100000
variable {P : Program} {G : Nat → Option V}
theorem img_nl (m : Im) : namelessL [imgV m] = true := by simp [imgV, imgC, symsV, codeV, namelessL, nameless]
theorem ats_get {m : Im} {n : Nat} {s : List UInt8 × Int} (h : m.syms[n]? = some s) : (m.syms.map symV).getD n V.any = symV s := by simp [List.getD_eq_getElem?_getD, h]
theorem c_Bounds (hT : TabOk P tab) (m : Im) (hm : ImB m) (hr : right m = true) {n : Nat} {s : List UInt8 × Int} (hs : m.syms[n]? = some s) : Am.Pure P G n_image_Bounds [imgV m, .int .i64 (n : Int)] fun v => v = .tup [.int .i64 (from_ m n), .int .i64 (to_ m n)] := by
  intro t
  have hR := c_ImgRight (P := P) (G := G) hT m hm
  rw [hr] at hR
  have hnl := img_nl m
  have hlt := (List.getElem?_eq_some_iff.1 hs).1
  have hsl := hm.s
  have hcl := hm.c
  have hD := ats_get hs
  have w1 : IntKind.i64.wrap ((n : Int) + 1) = ((n + 1 : Nat) : Int) := by rw [wself (by omega)]; rfl
  have w4 : IntKind.i64.wrap (4 * (m.code.length : Int)) = 4 * (m.code.length : Int) := wself (by omega)
  have h0 : ¬ ((n : Int) < 0) := by omega
  have h0' : decide ((n : Int) < 0) = false := decide_eq_false h0
  have h1 : ¬ (m.syms.length ≤ n) := by omega
  have h1' : decide ((m.syms.length : Int) ≤ (n : Int)) = false := decide_eq_false (by omega)
  have hf : from_ m n = s.2 := by unfold from_ ats; simp [List.getD_eq_getElem?_getD, hs]
  simp only [imgV, imgC, symsV, codeV] at hR hnl
  simp only [symV] at hD
  refine C_keep 0 (Nat.zero_le _) (C_tab hT t_image_Bounds (by simp [image_Bounds]) (W_run 12 ?_))
  simp -implicitDefEqProofs (disch := omega) only [go_sem, ↓reduceIte, reduceCtorEq, Nat.reduceAdd, Nat.reduceEqDiff, Nat.zero_add, Nat.le_refl, image_Bounds, zq1h_0, zq1h_1, zq1h_2, zq1h_3, zq1h_4, zq1h_5, zq1h_6, imgV, imgC, symsV, codeV, V.cells, false_implies, and_true, List.nil_append]
  refine callPS hT t_image_Right hR hnl 4 ?_
  simp -implicitDefEqProofs (disch := omega) only [go_sem, ↓reduceIte, reduceCtorEq, Nat.reduceAdd, Nat.reduceEqDiff, Nat.zero_add, Bool.not_true, Bool.not_true]
  iterate 4 (try (refine run_sem 4 ?_; simp -implicitDefEqProofs (disch := omega) only [go_sem, ↓reduceIte, reduceCtorEq, Nat.reduceAdd, Nat.reduceEqDiff, Nat.reduceLeDiff, Nat.zero_add, decide_false, Nat.le_refl, ge_iff_le, List.length_map, true_implies, and_true, ge_iff_le, h0, h1]))
  cases hs2 : m.syms[n + 1]? with
  | some s2 =>
    have hlt2 := (List.getElem?_eq_some_iff.1 hs2).1
    have hD2 := ats_get hs2
    simp only [symV] at hD2
    have h2' : decide (((n + 1 : Nat) : Int) < (m.syms.length : Int)) = true := decide_eq_true (by omega)
    have ht : to_ m n = s2.2 := by unfold to_ ats; rw [if_pos hlt2]; simp [List.getD_eq_getElem?_getD, hs2]
    rw [hf, ht]
    iterate 12 (try (refine run_sem 4 ?_; simp -implicitDefEqProofs (disch := omega) only [go_sem, need_of, ↓reduceIte, reduceCtorEq, Nat.reduceAdd, Nat.reduceEqDiff, Nat.reduceLeDiff, Nat.zero_add, decide_true, Nat.le_refl, Nat.zero_le, V.cells, List.length_map, true_implies, and_true, w1, w4, hlt2, hlt, hD, hD2]))
  | none =>
    have hlt2 : ¬ (n + 1 < m.syms.length) := by have := List.getElem?_eq_none_iff.1 hs2; omega
    have h2' : decide (((n + 1 : Nat) : Int) < (m.syms.length : Int)) = false := decide_eq_false (by omega)
    have ht : to_ m n = 4 * (m.code.length : Int) := by unfold to_; rw [if_neg hlt2]
    rw [hf, ht]
    iterate 12 (try (refine run_sem 4 ?_; simp -implicitDefEqProofs (disch := omega) only [go_sem, need_of, ↓reduceIte, reduceCtorEq, Nat.reduceAdd, Nat.reduceEqDiff, Nat.reduceLeDiff, Nat.zero_add, decide_false, Nat.le_refl, Nat.zero_le, V.cells, List.length_map, true_implies, and_true, w1, w4, hlt2, hlt, hD]))
end Go.Proofs.YtaidbdgndljaeaaGreatDoor
/- Which row a word is of: walked. -/
namespace Go.Proofs.YtaidbdgndljaeaaGreatDoor
open Go Go.Am Go.Rv
set_option maxRecDepth 100000
variable {P : Program} {G : Nat → Option V}
def hD (tb : List V) (b v1 v2 : Nat) (w : Int) : List (Option Ob) := [some (.arr b 43 [.int .u32 w]), some (.arr v1 47 [.int .u8 0, .int .u8 0, .int .u8 0, .int .u8 0, .int .i64 0]), some (.arr v2 117 tb)]
theorem c_S1 (hT : TabOk P tab) {tb : List V} {base b v1 v2 t : Nat} (w : Int) (a0 a1 a2 a5 q : Bool) (y : Nat) (L : List V) (a4 : Int) (a7 : List UInt8) (m k : Int) (hb : base ≤ 3) :
    C P G base n_rv_Decode_S1 [.agg [.bool a0, .bool a1, .bool a2, .lst y L q, .int .i64 a4, .bool a5, .int .u32 m, .str a7, .int .u32 k], .ptr 0 b 0] ⟨t, hD tb b v1 v2 w⟩ fun v σ => v = .bool (decide (m ≠ 0) && (andI .u32 w m == k)) ∧ ∃ t', t ≤ t' ∧ σ = ⟨t', hD tb b v1 v2 w⟩ := by
  refine C_keep 3 hb (C_tab hT t_rv_Decode_S1 (by simp [rv_Decode_S1]) (W_run 12 ?_))
  cases hm : (m != 0) with
  | true =>
    simp -implicitDefEqProofs (disch := omega) only [go_sem, ↓reduceIte, reduceCtorEq, Nat.reduceAdd, Nat.reduceEqDiff, Nat.reduceLeDiff, Nat.zero_add, Nat.add_zero, rv_Decode_S1, zq22_0, zq22_1, hD, hm]
    refine run_sem 2 ?_
    simp -implicitDefEqProofs (disch := omega) only [go_sem, ↓reduceIte, reduceCtorEq, Nat.reduceAdd, Nat.reduceEqDiff, Nat.zero_add, Nat.add_zero, Nat.le_refl]
    refine run_sem 2 ?_
    simp -implicitDefEqProofs (disch := omega) only [go_sem, ↓reduceIte, reduceCtorEq, Nat.reduceAdd, Nat.reduceEqDiff, Nat.reduceLeDiff, Nat.zero_add]
    refine run_sem 2 ?_
    simp -implicitDefEqProofs (disch := omega) only [go_sem, ↓reduceIte, reduceCtorEq, Nat.reduceAdd, Nat.reduceEqDiff, Nat.zero_add]
    refine run_sem 2 ?_
    simp -implicitDefEqProofs (disch := omega) only [go_sem, ↓reduceIte, reduceCtorEq, Nat.reduceAdd, Nat.reduceEqDiff, Nat.zero_add, Nat.le_refl]
    refine run_sem 2 ?_
    simp -implicitDefEqProofs (disch := omega) only [go_sem, ↓reduceIte, reduceCtorEq, Nat.reduceEqDiff]
    refine run_sem 1000 ?_
    simp -implicitDefEqProofs (disch := omega) only [go_sem, ↓reduceIte, reduceCtorEq, Nat.reduceAdd, Nat.reduceEqDiff, Nat.reduceLeDiff, Nat.zero_add]
    refine ⟨?_, _, ?_, rfl⟩
    · have : m ≠ 0 := by simpa using hm
      simp only [this, not_false_eq_true, decide_true, Bool.true_and]
    · omega
  | false =>
    simp -implicitDefEqProofs (disch := omega) only [go_sem, ↓reduceIte, reduceCtorEq, Nat.reduceAdd, Nat.reduceEqDiff, Nat.reduceLeDiff, Nat.zero_add, Nat.add_zero, rv_Decode_S1, zq22_0, zq22_1, hD, hm]
    refine run_sem 2 ?_
    simp -implicitDefEqProofs (disch := omega) only [go_sem, ↓reduceIte, reduceCtorEq, Nat.reduceEqDiff]
    refine run_sem 2 ?_
    simp -implicitDefEqProofs (disch := omega) only [go_sem, ↓reduceIte, reduceCtorEq, Nat.reduceEqDiff]
    refine run_sem 2 ?_
    simp -implicitDefEqProofs (disch := omega) only [go_sem, ↓reduceIte, reduceCtorEq, Nat.reduceEqDiff]
    refine run_sem 2 ?_
    simp -implicitDefEqProofs (disch := omega) only [go_sem, ↓reduceIte, reduceCtorEq, Nat.reduceEqDiff]
    refine run_sem 2 ?_
    simp -implicitDefEqProofs (disch := omega) only [go_sem, ↓reduceIte, reduceCtorEq, Nat.reduceEqDiff]
    refine run_sem 1000 ?_
    simp -implicitDefEqProofs (disch := omega) only [go_sem, ↓reduceIte, reduceCtorEq, Nat.reduceAdd, Nat.reduceEqDiff, Nat.reduceLeDiff, Nat.zero_add]
    refine ⟨?_, _, ?_, rfl⟩
    · have : m = 0 := by simpa using hm
      simp only [this, not_true_eq_false, decide_false, Bool.false_and]
    · omega
structure TbOk (tb : List V) : Prop where
  len : tb.length = 594
  get : ∀ k, k < 66 → (tb.drop (k * 9)).take 9 = if k = 0 then zeroC else rowC (T.getD (k - 1) ⟨0, [], 0, 0, 0⟩)
  ones : ones tb
theorem tbOk : TbOk tabC := ⟨tabC_len, fun k hk => tabC_get ⟨k, hk⟩, tabC_ones⟩
def hitP (w j : Int) : Prop := (j = -1 ∧ first w 0 T = none) ∨ ∃ k r, j = ((k + 1 : Nat) : Int) ∧ T[k]? = some r ∧ is w r = true ∧ first w 0 T = some (mk k r w)
theorem row_hit {w : Int} (h0 : 0 ≤ w) (h1 : w < 4294967296) {i : Nat} (h : 1 ≤ i) (hi : i < 66) {r : RR} (hr : T[i - 1]? = some r) : (decide (maskOf r.form ≠ 0) && (andI .u32 w (maskOf r.form) == matchOf r)) = is w r := by
  have hg := T_good r (List.mem_of_getElem? hr)
  have hm : maskOf r.form ≠ 0 := by
    unfold maskOf
    split
    · decide
    split
    · decide
    split
    · decide
    split <;> decide
  have := mask_is hg h0 h1
  rw [decide_eq_true hm, Bool.true_and]
  rw [Bool.eq_iff_iff, beq_iff_eq]
  exact this
theorem c_IndexFunc (hT : TabOk P tab) {tb : List V} (htb : TbOk tb) {base b v1 v2 t : Nat} (w : Int) (h0 : 0 ≤ w) (h1 : w < 4294967296) (lim : Option Nat) (hb : base ≤ 3) :
    C P G base n_slices_IndexFunc_rv_row_rv_row [.sl 2 v2 0 9 66 lim, .fn (.func 77) [] [.ptr 0 b 0]] ⟨t, hD tb b v1 v2 w⟩ fun v σ => ∃ j, v = .int .i64 j ∧ hitP w j ∧ ∃ t', t ≤ t' ∧ σ = ⟨t', hD tb b v1 v2 w⟩ := by
  have hl := htb.len
  refine C_tab hT t_slices_IndexFunc_rv_row_rv_row (by simp [slices_IndexFunc_rv_row_rv_row]) (W_run 1000 ?_)
  simp -implicitDefEqProofs (disch := omega) only [go_sem, ↓reduceIte, reduceCtorEq, Nat.reduceEqDiff, Nat.zero_add, slices_IndexFunc_rv_row_rv_row, zq21_0, zq21_1, zq21_2, zq21_3, zq21_4, zq21_5, zq21_6, zq21_7, hD]
  refine sem_invE (fun n fr σ => ∃ i t', i ≤ 66 ∧ n = 66 - i ∧ (∀ j r, j + 1 < i → T[j]? = some r → is w r = false) ∧ t ≤ t' ∧ fget fr 0 = .sl 2 v2 0 9 66 lim ∧ fget fr 1 = .fn (.func 77) [] [.ptr 0 b 0] ∧ fget fr 7 = .int .i64 ((66 : Nat) : Int) ∧ fget fr 8 = .int .i64 i ∧ σ = ⟨t', hD tb b v1 v2 w⟩)
    (fun e fr σ => ∃ t', t ≤ t' ∧ σ = ⟨t', hD tb b v1 v2 w⟩ ∧ ((e = .ret ∧ ∃ j, fget fr 4 = .int .i64 j ∧ hitP w j) ∨ (e = .ex 0 ∧ first w 0 T = none)))
    (m0 := 66) ⟨0, t, by omega, rfl, fun j r h => by omega, by omega, ?_⟩ (fun n fr σ hJ => ?_) (fun e fr σ hE => ?_)
  · simp -implicitDefEqProofs (disch := omega) only [go_sem, ↓reduceIte, reduceCtorEq, Nat.reduceEqDiff, hD]
    rfl
  · obtain ⟨i, t', hi, rfl, hno, ht, f0, f1, f7, f8, rfl⟩ := hJ
    refine W_run 1000 ?_
    rcases Nat.lt_or_ge i 66 with hlt | hge
    · have hg := htb.get i hlt
      have e2 := wrap_next hlt (by omega)
      simp -implicitDefEqProofs (disch := omega) only [go_sem, need_of, ↓reduceIte, reduceCtorEq, Nat.reduceEqDiff, Nat.succ_ne_zero, Nat.zero_add, decide_true, hD, f0, f1, f7, f8, hlt]
      rw [hg]
      rcases Nat.eq_zero_or_pos i with hz | hp
      · subst hz
        rw [if_pos rfl, zeroC]
        have hc := c_S1 (P := P) (G := G) hT (tb := tb) (base := base) (b := b) (v1 := v1) (v2 := v2) (t := t') w false false false false true 0 [] 0 [] 0 0 hb
        simp only [hD] at hc
        refine callK hT t_rv_Decode_S1 hc 1000 fun v σ hv => ?_
        obtain ⟨rfl, t2, ht2, rfl⟩ := hv
        simp -implicitDefEqProofs (disch := omega) only [go_sem, ↓reduceIte, Nat.reduceEqDiff, Nat.reduceSub, Nat.zero_mul, decide_false, f8]
        refine ⟨66 - (0 + 1), _, _, by omega, Shift.refl _ _ _ _, 0 + 1, t2, by omega, rfl, fun j r h => by omega, by omega, ?_⟩
        simp -implicitDefEqProofs (disch := omega) only [go_sem, ↓reduceIte, reduceCtorEq, Nat.reduceEqDiff, Nat.succ_ne_zero, Nat.zero_add, f0, f1, f7]
        rfl
      · obtain ⟨r, hr⟩ : ∃ r, T[i - 1]? = some r := ⟨_, List.getElem?_eq_getElem (by rw [T_len]; omega)⟩
        obtain ⟨y, hy, _⟩ := bitsV_len (bitsOf r.form)
        have hgd : T.getD (i - 1) ⟨0, [], 0, 0, 0⟩ = r := by rw [List.getD_eq_getElem?_getD, hr]; rfl
        rw [if_neg (by omega), hgd]
        simp only [rowC, formC, hy, List.cons_append, List.nil_append]
        have hc := c_S1 (P := P) (G := G) hT (tb := tb) (base := base) (b := b) (v1 := v1) (v2 := v2) (t := t') w (hasRd r.form) (hasR1 r.form) (hasR2 r.form) (isSgn r.form) true y ((bitsOf r.form).map fun b => pr b.1 b.2) (nghts r.form) r.name (maskOf r.form) (matchOf r) hb
        rw [row_hit h0 h1 hp hlt hr] at hc
        simp only [hD] at hc
        refine callK hT t_rv_Decode_S1 hc 1000 fun v σ hv => ?_
        obtain ⟨rfl, t2, ht2, rfl⟩ := hv
        cases his : is w r with
        | true =>
          simp -implicitDefEqProofs (disch := omega) only [go_sem, ↓reduceIte, reduceCtorEq, Nat.reduceEqDiff]
          refine ⟨t2, by omega, rfl, i, rfl, .inr ⟨i - 1, r, by congr 1; omega, hr, his, ?_⟩⟩
          have := first_of h0 h1 (i := 0) T_good T_apart hr his
          rwa [Nat.zero_add] at this
        | false =>
          simp -implicitDefEqProofs (disch := omega) only [go_sem, ↓reduceIte, Nat.reduceEqDiff, f8]
          refine ⟨66 - (i + 1), _, _, by omega, Shift.refl _ _ _ _, i + 1, t2, by omega, rfl, fun j s hj hs => ?_, by omega, ?_⟩
          · by_cases hji : j = i - 1
            · subst hji; rw [hr] at hs; cases hs; exact his
            · exact hno j s (by omega) hs
          · simp -implicitDefEqProofs (disch := omega) only [go_sem, ↓reduceIte, reduceCtorEq, Nat.reduceEqDiff, Nat.succ_ne_zero, f0, f1, f7, e2]
    · have hi : i = 66 := by omega
      subst hi
      simp -implicitDefEqProofs (disch := omega) only [go_sem, ↓reduceIte, reduceCtorEq, Nat.reduceEqDiff, Nat.reduceSub, decide_false, f7, f8, Nat.lt_irrefl]
      refine ⟨t', by omega, rfl, first_none fun r hr => ?_⟩
      obtain ⟨j, hj⟩ := List.mem_iff_getElem?.1 hr
      have hjl := (List.getElem?_eq_some_iff.1 hj).1
      rw [T_len] at hjl
      exact hno j r (by omega) hj
  · obtain ⟨t', ht, rfl, hE⟩ := hE
    rcases hE with ⟨rfl, j, f4, hh⟩ | ⟨rfl, hh⟩
    · refine run_sem 1000 ?_
      simp -implicitDefEqProofs (disch := omega) only [go_sem, f4]
      exact ⟨j, rfl, hh, t', ht, rfl, rfl⟩
    · refine run_sem 1000 ?_
      simp -implicitDefEqProofs (disch := omega) only [go_sem, ↓reduceIte]
      exact ⟨-1, rfl, .inl ⟨rfl, hh⟩, t', ht, rfl, rfl⟩
end Go.Proofs.YtaidbdgndljaeaaGreatDoor
/- Decode: walked. -/
namespace Go.Proofs.YtaidbdgndljaeaaGreatDoor
open Go Go.Am Go.Rv
set_option maxRecDepth 100000
theorem c_numF {P : Program} {G : Nat → Option V} (hT : TabOk P tab) {f w : Int} (hf : f = 82 ∨ f = 87 ∨ f = 73 ∨ f = 72 ∨ f = 83 ∨ f = 66 ∨ f = 85 ∨ f = 74 ∨ f = 69) (hw : u32 w) :
    Pure P G n_rv_form_number [.agg (formC f), .int .u32 w] fun v => v = .int .i64 (number w f) := by
  have h := c_number (G := G) hT (hasRd f) (hasR1 f) (hasR2 f) (bitsOf f) (nghts f) (isSgn f) (maskOf f) w
    (by rcases hf with h | h | h | h | h | h | h | h | h <;> rw [h] <;> decide) (by rcases hf with h | h | h | h | h | h | h | h | h <;> rw [h] <;> decide)
    (by rcases hf with h | h | h | h | h | h | h | h | h <;> rw [h] <;> decide) (by rcases hf with h | h | h | h | h | h | h | h | h <;> rw [h] <;> decide)
    (by rcases hf with h | h | h | h | h | h | h | h | h <;> rw [h] <;> decide) (by rcases hf with h | h | h | h | h | h | h | h | h <;> rw [h] <;> decide) hw
  have e := numP_eq w hf
  unfold numP at e
  simp only at e
  rw [e] at h
  exact h
def errT (o : Option In) : List V := match o with
  | some x => [.agg (inC x), .int .i64 0]
  | none => [.agg (inC ⟨0, 0, 0, 0, 0⟩), .int .i64 100]
def dH (tb rc : List V) (t t2 : Nat) (a b c : Bool) (w op rd r1 r2 im : Int) : List (Option Ob) :=
  [some (.arr t 43 [.int .u32 w]), some (.arr (t + 1) 47 [.int .u8 0, .int .u8 0, .int .u8 0, .int .u8 0, .int .i64 0]), some (.arr (t + 1 + 1) 117 tb), some (.arr t2 74 rc),
   some (.arr (t2 + 1) 47 [.int .u8 op, .int .u8 rd, .int .u8 r1, .int .u8 r2, .int .i64 im]),
   some (.arr (t2 + 1 + 1) 135 [.bool a, .ptr 4 (t2 + 1) 1, .int .i64 7, .int .i64 5, .bool b, .ptr 4 (t2 + 1) 2, .int .i64 15, .int .i64 5, .bool c, .ptr 4 (t2 + 1) 3, .int .i64 20, .int .i64 5])]
theorem wrap_fld5 (w : Int) (a : Nat) : IntKind.u8.wrap (fld w a 5) = fld w a 5 := by
  have := fld_lt w a 5
  exact wrap_id _ (by simp [IntKind.min, IntKind.signed]; omega) (by simp [IntKind.max, IntKind.signed, IntKind.bits]; omega)
theorem c_Decode (hT : TabOk Tryz.prog tab) (w : Int) (h0 : 0 ≤ w) (h1 : w < 4294967296) : Pure Tryz.prog G0 n_rv_Decode [.int .u32 w] fun v => v = .tup (errT (first w 0 T)) := by
  intro t
  obtain ⟨tb, htb⟩ : ∃ tb, tb = tabC := ⟨_, rfl⟩
  have ct := c_table hT
  rw [← htb] at ct
  have ok : TbOk tb := by rw [htb]; exact tbOk
  have hnl : namelessL tb = true := by rw [htb]; exact tabC_nameless
  clear htb
  have hl := ok.len
  have ho := ok.ones
  refine C_keep 0 (Nat.zero_le _) (C_tab hT t_rv_Decode (by simp [rv_Decode]) (W_run 1000 ?_))
  simp -implicitDefEqProofs (disch := omega) only [go_sem, ↓reduceIte, reduceCtorEq, Nat.reduceEqDiff, Nat.zero_add, rv_Decode, zq1i_0, zq1i_1, zq1i_2, zq1i_3, zq1i_4, zq1i_5, zq1i_6, zq1i_7, zq1i_8, zq1i_9, zq1i_10, zq1i_11, zq1i_12, zq1i_13]
  refine callP hT t_rv_table ct (by simp [namelessL]) 1000 fun v hv => ?_
  subst hv
  simp -implicitDefEqProofs (disch := omega) only [go_sem, ↓reduceIte, reduceCtorEq, Nat.reduceAdd, Nat.reduceEqDiff, Nat.reduceSub, Nat.reduceMul, Nat.zero_add, Nat.add_zero, Nat.zero_mul, Bool.not_false, Nat.le_refl, Nat.zero_le, hl, ho]
  have hx := c_IndexFunc (G := G0) hT ok (base := 0) (b := t) (v1 := t + 1) (v2 := t + 1 + 1) (t := t + 1 + 1 + 1) w h0 h1 (some 66) (Nat.zero_le _)
  simp only [hD] at hx
  refine call hT t_slices_IndexFunc_rv_row_rv_row hx 1000 fun v σ hv => ?_
  obtain ⟨j, rfl, hj, t2, ht2, rfl⟩ := hv
  rcases hj with ⟨rfl, hno⟩ | ⟨k, r, rfl, hk, his, hfi⟩
  · simp -implicitDefEqProofs (disch := omega) only [go_sem, ↓reduceIte, reduceCtorEq, Nat.reduceAdd, Nat.reduceEqDiff, Int.reduceLT, Nat.zero_add, decide_true, Bool.not_false, Nat.le_refl, Nat.zero_le]
    rw [hno]
    rfl
  · have hkl : k < 65 := by have := (List.getElem?_eq_some_iff.1 hk).1; rw [T_len] at this; exact this
    have hg := ok.get (k + 1) (by omega)
    have hgd : T.getD (k + 1 - 1) ⟨0, [], 0, 0, 0⟩ = r := by rw [Nat.add_sub_cancel, List.getD_eq_getElem?_getD, hk]; rfl
    rw [if_neg (by omega), hgd] at hg
    have hf := forms (T_good r (List.mem_of_getElem? hk))
    obtain ⟨y, hy, _⟩ := bitsV_len (bitsOf r.form)
    have hrc : rowC r = [.bool (hasRd r.form), .bool (hasR1 r.form), .bool (hasR2 r.form), .lst y ((bitsOf r.form).map fun b => pr b.1 b.2) true, .int .i64 (nghts r.form), .bool (isSgn r.form), .int .u32 (maskOf r.form), .str r.name, .int .u32 (matchOf r)] := by
      simp only [rowC, formC, hy, List.cons_append, List.nil_append]
    rw [hrc] at hg
    have cn := c_numF (G := G0) hT hf (w := w) ⟨h0, h1⟩
    simp only [formC, hy] at cn
    have n1 : ¬ (((k + 1 : Nat) : Int) < 0) := by omega
    have n2 : (((k + 1 : Nat) : Int)).toNat = k + 1 := by omega
    have n3 : IntKind.u8.wrap ((k + 1 : Nat) : Int) = (k : Int) + 1 := by rw [wrap_id _ (by simp [IntKind.min, IntKind.signed]; omega) (by simp [IntKind.max, IntKind.signed, IntKind.bits]; omega)]; push_cast; rfl
    simp -implicitDefEqProofs (disch := omega) only [go_sem, need_of, ↓reduceIte, reduceCtorEq, Nat.reduceAdd, Nat.reduceEqDiff, Nat.reduceLeDiff, Nat.zero_add, Nat.add_zero, decide_false, Bool.not_false, Nat.le_refl, Nat.zero_le, n1, n2, n3, hl, hg, show (k + 1) * 9 ≤ 585 by omega, show k + 1 < 66 by omega]
    refine callP hT t_rv_form_number cn (by simp [namelessL, nameless]) 3 fun v hv => ?_
    subst hv
    simp -implicitDefEqProofs (disch := omega) only [go_sem, ↓reduceIte, reduceCtorEq, Nat.reduceAdd, Nat.reduceEqDiff, Nat.reduceLeDiff, Nat.zero_add, Bool.not_false, Nat.le_refl, Nat.zero_le]
    iterate 14 (try (refine run_sem 3 ?_; simp -implicitDefEqProofs (disch := omega) only [go_sem, ↓reduceIte, reduceCtorEq, Nat.reduceAdd, Nat.reduceEqDiff, Nat.reduceLeDiff, Nat.zero_add, Nat.add_zero, Nat.le_refl, g0a, g0b, g0c]))
    have oc : (Value.pointer none).oneCell' = true := rfl
    have co : ∀ a : Nat, a ≤ 31 → Pure Tryz.prog G0 n_rv_bits_of [.agg [.int .i64 a, .int .i64 5], .int .u32 w] fun v => v = .int .u32 (fld w a 5) := fun a ha => c_of (G := G0) hT w a 5 ⟨h0, h1⟩ ha (by omega)
    have wz : ∀ i : Nat, i < 3 → IntKind.i64.wrap ((i : Int) + 1) = ((i + 1 : Nat) : Int) := fun i hi => wrap_next hi (by omega)
    refine sem_inv (fun n fr σ => ∃ i t3, i ≤ 3 ∧ n = 3 - i ∧ fget fr 1 = .ptr 0 t 0 ∧ fget fr 2 = .ptr 1 (t + 1) 0 ∧ fget fr 3 = .int .i64 0 ∧ fget fr 7 = .ptr 4 (t2 + 1) 0 ∧ fget fr 45 = .sl 5 (t2 + 1 + 1) 0 4 3 none ∧ fget fr 46 = .int .i64 ((3 : Nat) : Int) ∧ fget fr 47 = .int .i64 i ∧
       σ = ⟨t3, dH tb (rowC r) t t2 (hasRd r.form) (hasR1 r.form) (hasR2 r.form) w ((k : Int) + 1) (if 1 ≤ i then (if hasRd r.form then fld w 7 5 else 0) else 0) (if 2 ≤ i then (if hasR1 r.form then fld w 15 5 else 0) else 0) (if 3 ≤ i then (if hasR2 r.form then fld w 20 5 else 0) else 0) (number w r.form)⟩)
      (fun n fr σ hJ => ?_) (m0 := 3) ⟨0, t2 + 1 + 1 + 1, by omega, rfl, ?_⟩
    · obtain ⟨i, t3, hi, rfl, f1, f2, f3, f7, f45, f46, f47, rfl⟩ := hJ
      refine W_run 3 ?_
      have hcase : i = 0 ∨ i = 1 ∨ i = 2 ∨ i = 3 := by omega
      rcases hcase with rfl | rfl | rfl | rfl
      · -- round 0
        cases hA : hasRd r.form with
        | true =>
          simp -implicitDefEqProofs (disch := omega) only [go_sem, ↓reduceIte, Nat.reduceLeDiff, Nat.reduceSub, decide_true, dH, f46, f47]
          iterate 12 (try (refine run_sem 3 ?_; simp -implicitDefEqProofs (disch := omega) only [go_sem, need_of, ↓reduceIte, reduceCtorEq, Nat.reduceAdd, Nat.reduceEqDiff, Nat.reduceLeDiff, Nat.zero_add, Nat.add_zero, Nat.zero_mul, Bool.not_false, Nat.le_refl, Nat.zero_le, oc, f1, f45, f47]))
          refine callP hT t_rv_bits_of (co 7 (by omega)) rfl 3 fun v hv => ?_
          subst hv
          simp -implicitDefEqProofs (disch := omega) only [go_sem, ↓reduceIte, Nat.reduceAdd, Nat.reduceEqDiff, Nat.reduceLeDiff, Nat.zero_add, Bool.not_false, Nat.zero_le, wrap_fld5]
          iterate 12 (try (refine run_sem 3 ?_; simp -implicitDefEqProofs (disch := omega) only [go_sem, ↓reduceIte, Nat.reduceEqDiff, f47]))
          refine ⟨3 - 1, _, _, by omega, Shift.drop (o' := dH tb (rowC r) t t2 (hasRd r.form) (hasR1 r.form) (hasR2 r.form) w ((k : Int) + 1) (if hasRd r.form then fld w 7 5 else 0) 0 0 (number w r.form)) (t' := t3 + 1) (by simp [subObs, dH, hA]) (Nat.le_refl _) (Nat.zero_le _), 1, t3 + 1, by omega, rfl, ?_⟩
          simp -implicitDefEqProofs (disch := omega) only [go_sem, ↓reduceIte, Nat.reduceEqDiff, Nat.reduceLeDiff, Nat.zero_add, Nat.le_refl, f1, f2, f3, f7, f45, f46, wz]
          simp [hA, dH]
        | false =>
          simp -implicitDefEqProofs (disch := omega) only [go_sem, ↓reduceIte, Nat.reduceLeDiff, Nat.reduceSub, decide_true, dH, f46, f47]
          iterate 12 (try (refine run_sem 3 ?_; simp -implicitDefEqProofs (disch := omega) only [go_sem, need_of, ↓reduceIte, reduceCtorEq, Nat.reduceAdd, Nat.reduceEqDiff, Nat.reduceLeDiff, Nat.zero_add, Nat.add_zero, Nat.zero_mul, Bool.not_false, Nat.le_refl, Nat.zero_le, oc, f45, f47]))
          refine ⟨3 - 1, _, _, by omega, Shift.drop (o' := dH tb (rowC r) t t2 (hasRd r.form) (hasR1 r.form) (hasR2 r.form) w ((k : Int) + 1) (if hasRd r.form then fld w 7 5 else 0) 0 0 (number w r.form)) (t' := t3 + 1) (by simp [subObs, dH, hA]) (Nat.le_refl _) (Nat.zero_le _), 1, t3 + 1, by omega, rfl, ?_⟩
          simp -implicitDefEqProofs (disch := omega) only [go_sem, ↓reduceIte, Nat.reduceEqDiff, Nat.reduceLeDiff, Nat.zero_add, Nat.le_refl, f1, f2, f3, f7, f45, f46, wz]
          simp [hA, dH]
      · -- round 1
        cases hA : hasR1 r.form with
        | true =>
          simp -implicitDefEqProofs (disch := omega) only [go_sem, ↓reduceIte, Nat.reduceLeDiff, Nat.reduceSub, decide_true, Nat.le_refl, dH, f46, f47]
          iterate 12 (try (refine run_sem 3 ?_; simp -implicitDefEqProofs (disch := omega) only [go_sem, need_of, ↓reduceIte, reduceCtorEq, Nat.reduceAdd, Nat.reduceEqDiff, Nat.reduceLeDiff, Nat.zero_add, Nat.add_zero, Nat.one_mul, Bool.not_false, Nat.le_refl, Nat.zero_le, oc, f1, f45, f47]))
          refine callP hT t_rv_bits_of (co 15 (by omega)) rfl 3 fun v hv => ?_
          subst hv
          simp -implicitDefEqProofs (disch := omega) only [go_sem, ↓reduceIte, Nat.reduceAdd, Nat.reduceEqDiff, Nat.reduceLeDiff, Nat.zero_add, Bool.not_false, Nat.zero_le, wrap_fld5]
          iterate 12 (try (refine run_sem 3 ?_; simp -implicitDefEqProofs (disch := omega) only [go_sem, ↓reduceIte, Nat.reduceEqDiff, f47]))
          refine ⟨3 - 2, _, _, by omega, Shift.drop (o' := dH tb (rowC r) t t2 (hasRd r.form) (hasR1 r.form) (hasR2 r.form) w ((k : Int) + 1) (if hasRd r.form then fld w 7 5 else 0) (if hasR1 r.form then fld w 15 5 else 0) 0 (number w r.form)) (t' := t3 + 1) (by simp [subObs, dH, hA]) (Nat.le_refl _) (Nat.zero_le _), 2, t3 + 1, by omega, rfl, ?_⟩
          simp -implicitDefEqProofs (disch := omega) only [go_sem, ↓reduceIte, Nat.reduceAdd, Nat.reduceEqDiff, Nat.reduceLeDiff, Nat.le_refl, f1, f2, f3, f7, f45, f46, wz]
          simp [hA, dH]
        | false =>
          simp -implicitDefEqProofs (disch := omega) only [go_sem, ↓reduceIte, Nat.reduceLeDiff, Nat.reduceSub, decide_true, Nat.le_refl, dH, f46, f47]
          iterate 12 (try (refine run_sem 3 ?_; simp -implicitDefEqProofs (disch := omega) only [go_sem, need_of, ↓reduceIte, reduceCtorEq, Nat.reduceAdd, Nat.reduceEqDiff, Nat.reduceLeDiff, Nat.zero_add, Nat.add_zero, Nat.one_mul, Bool.not_false, Nat.le_refl, Nat.zero_le, oc, f45, f47]))
          refine ⟨3 - 2, _, _, by omega, Shift.drop (o' := dH tb (rowC r) t t2 (hasRd r.form) (hasR1 r.form) (hasR2 r.form) w ((k : Int) + 1) (if hasRd r.form then fld w 7 5 else 0) (if hasR1 r.form then fld w 15 5 else 0) 0 (number w r.form)) (t' := t3 + 1) (by simp [subObs, dH, hA]) (Nat.le_refl _) (Nat.zero_le _), 2, t3 + 1, by omega, rfl, ?_⟩
          simp -implicitDefEqProofs (disch := omega) only [go_sem, ↓reduceIte, Nat.reduceAdd, Nat.reduceEqDiff, Nat.reduceLeDiff, Nat.le_refl, f1, f2, f3, f7, f45, f46, wz]
          simp [hA, dH]
      · -- round 2
        cases hA : hasR2 r.form with
        | true =>
          simp -implicitDefEqProofs (disch := omega) only [go_sem, ↓reduceIte, Nat.reduceLeDiff, Nat.reduceLT, Nat.reduceSub, decide_true, Nat.le_refl, dH, f46, f47]
          iterate 12 (try (refine run_sem 3 ?_; simp -implicitDefEqProofs (disch := omega) only [go_sem, need_of, ↓reduceIte, reduceCtorEq, Nat.reduceAdd, Nat.reduceEqDiff, Nat.reduceLeDiff, Nat.reduceLT, Nat.reduceMul, Nat.zero_add, Nat.add_zero, Bool.not_false, Nat.le_refl, Nat.zero_le, oc, f1, f45, f47]))
          refine callP hT t_rv_bits_of (co 20 (by omega)) rfl 3 fun v hv => ?_
          subst hv
          simp -implicitDefEqProofs (disch := omega) only [go_sem, ↓reduceIte, Nat.reduceAdd, Nat.reduceEqDiff, Nat.reduceLeDiff, Nat.zero_add, Bool.not_false, Nat.zero_le, wrap_fld5]
          iterate 12 (try (refine run_sem 3 ?_; simp -implicitDefEqProofs (disch := omega) only [go_sem, ↓reduceIte, Nat.reduceEqDiff, f47]))
          refine ⟨3 - 3, _, _, by omega, Shift.drop (o' := dH tb (rowC r) t t2 (hasRd r.form) (hasR1 r.form) (hasR2 r.form) w ((k : Int) + 1) (if hasRd r.form then fld w 7 5 else 0) (if hasR1 r.form then fld w 15 5 else 0) (if hasR2 r.form then fld w 20 5 else 0) (number w r.form)) (t' := t3 + 1) (by simp [subObs, dH, hA]) (Nat.le_refl _) (Nat.zero_le _), 3, t3 + 1, by omega, rfl, ?_⟩
          simp -implicitDefEqProofs (disch := omega) only [go_sem, ↓reduceIte, Nat.reduceAdd, Nat.reduceEqDiff, Nat.reduceLeDiff, Nat.le_refl, f1, f2, f3, f7, f45, f46, wz]
          simp [hA, dH]
        | false =>
          simp -implicitDefEqProofs (disch := omega) only [go_sem, ↓reduceIte, Nat.reduceLeDiff, Nat.reduceLT, Nat.reduceSub, decide_true, Nat.le_refl, dH, f46, f47]
          iterate 12 (try (refine run_sem 3 ?_; simp -implicitDefEqProofs (disch := omega) only [go_sem, need_of, ↓reduceIte, reduceCtorEq, Nat.reduceAdd, Nat.reduceEqDiff, Nat.reduceLeDiff, Nat.reduceLT, Nat.reduceMul, Nat.zero_add, Nat.add_zero, Bool.not_false, Nat.le_refl, Nat.zero_le, oc, f45, f47]))
          refine ⟨3 - 3, _, _, by omega, Shift.drop (o' := dH tb (rowC r) t t2 (hasRd r.form) (hasR1 r.form) (hasR2 r.form) w ((k : Int) + 1) (if hasRd r.form then fld w 7 5 else 0) (if hasR1 r.form then fld w 15 5 else 0) (if hasR2 r.form then fld w 20 5 else 0) (number w r.form)) (t' := t3 + 1) (by simp [subObs, dH, hA]) (Nat.le_refl _) (Nat.zero_le _), 3, t3 + 1, by omega, rfl, ?_⟩
          simp -implicitDefEqProofs (disch := omega) only [go_sem, ↓reduceIte, Nat.reduceAdd, Nat.reduceEqDiff, Nat.reduceLeDiff, Nat.le_refl, f1, f2, f3, f7, f45, f46, wz]
          simp [hA, dH]
      · simp -implicitDefEqProofs (disch := omega) only [go_sem, ↓reduceIte, Nat.reduceLeDiff, Nat.reduceSub, decide_false, Nat.le_refl, f47, f46, Nat.lt_irrefl]
        iterate 6 (try (refine run_sem 3 ?_; simp -implicitDefEqProofs (disch := omega) only [go_sem, ↓reduceIte, reduceCtorEq, Nat.reduceAdd, Nat.reduceEqDiff, Nat.zero_add, Bool.not_false, Nat.le_refl, Nat.zero_le, dH, f2, f7]))
        rw [hfi]; rfl
    · rw [hrc]
      simp -implicitDefEqProofs (disch := omega) only [go_sem, ↓reduceIte, reduceCtorEq, Nat.reduceEqDiff, Nat.reduceLeDiff, dH]
      rfl
end Go.Proofs.YtaidbdgndljaeaaGreatDoor
/- Reading a region: the instructions. -/
namespace Go.Proofs.YtaidbdgndljaeaaGreatDoor
open Go Go.Am Go.Rv Go.Rg
set_option maxRecDepth 100000
theorem take6 (a b c d e f g : Option Ob) : subObs [a, b, c, d, e, f] [a, b, c, d, e, f, g] := subObs_take 6 [a, b, c, d, e, f, g]
def oneI : Int → V := fun _ => .int .i64 1
def badS (ws : List Int) (i : Nat) : List Int := ((List.range i).filter fun j => (ws[j]?.bind dec).isNone).map fun j : Nat => (j : Int)
theorem badS_nodup (ws : List Int) (i : Nat) : (badS ws i).Nodup := by
  unfold badS List.Nodup
  rw [List.pairwise_map]
  exact (List.nodup_range.filter _).imp fun h e => h (by omega)
theorem badS_new (ws : List Int) (i : Nat) : (i : Int) ∉ badS ws i := fun h => by
  unfold badS at h
  obtain ⟨j, hj, e⟩ := List.mem_map.1 h
  have := (List.mem_filter.1 hj).1
  rw [List.mem_range] at this
  omega
theorem badS_next {ws : List Int} {i : Nat} {w : Int} (h : ws[i]? = some w) : badS ws (i + 1) = badS ws i ++ if (dec w).isNone then [(i : Int)] else [] := by
  unfold badS
  rw [List.range_succ, List.filter_append, List.map_append]
  congr 1
  simp only [List.filter_cons, List.filter_nil, h, Option.bind_some]
  split <;> rfl
theorem mem_badS {ws : List Int} {i j : Nat} : (j : Int) ∈ badS ws i ↔ j < i ∧ (ws[j]?.bind dec).isNone := by
  unfold badS
  simp only [List.mem_map, List.mem_filter, List.mem_range]
  constructor
  · rintro ⟨k, hk, e⟩
    rw [show j = k by omega]; exact hk
  · exact fun h => ⟨j, h, rfl⟩
def rowC5 (c : List In) : List V := (c.map inC).flatten
theorem rowC5_snoc (c : List In) (x : In) : rowC5 (c ++ [x]) = rowC5 c ++ inC x := by simp [rowC5]
theorem rowC5_len (c : List In) : (rowC5 c).length = 5 * c.length := by
  induction c with
  | nil => rfl
  | cons x c ih =>
    show (inC x ++ rowC5 c).length = _
    rw [List.length_append, ih, List.length_cons]
    simp [inC]; omega
def rcC (m : Im) (nm : List UInt8) (pl : Int) (w i : Nat) : List V := [.int .i64 m.data, symsV m.syms, codeV m.code, .str nm, .int .i64 pl, .sl 5 w 0 5 i none, .int .i64 0, .lst 0 [] true]
abbrev rwJ (m : Im) (nm : List UInt8) (pl : Int) (ws : List Int) (n v1 v2 vr vm : Nat) (X1 X2 : Option Ob) : Nat → Fr → H → Prop := fun i fr σ => ∃ t w, fget fr 1 = .int .i64 ((n : Nat) : Int) ∧ fget fr 4 = .ptr 1 v1 0 ∧ fget fr 5 = .ptr 2 v2 0 ∧ fget fr 8 = .ptr 3 vr 0 ∧ fget fr 9 = .mp 4 vm ∧ fget fr 40 = codeV ws ∧ fget fr 41 = .int .i64 ws.length ∧ fget fr 42 = .int .i64 ((i : Nat) : Int) ∧ σ = ⟨t, [none, X1, X2, some (.arr vr 107 (rcC m nm pl w i)), some (.map vm (km kI oneI (badS ws i))), some (.arr w 47 (rowC5 ((codeOf ws).take i)))]⟩
abbrev rwE (m : Im) (nm : List UInt8) (pl : Int) (ws : List Int) (n v1 v2 vr vm : Nat) (X1 X2 : Option Ob) : AE → Fr → H → Prop := fun e fr σ => ∃ t w, e = .ex 0 ∧ fget fr 1 = .int .i64 ((n : Nat) : Int) ∧ fget fr 4 = .ptr 1 v1 0 ∧ fget fr 5 = .ptr 2 v2 0 ∧ fget fr 8 = .ptr 3 vr 0 ∧ fget fr 9 = .mp 4 vm ∧ σ = ⟨t, [none, X1, X2, some (.arr vr 107 (rcC m nm pl w ws.length)), some (.map vm (km kI oneI (badS ws ws.length))), some (.arr w 47 (rowC5 (codeOf ws)))]⟩
theorem rw_round (hT : TabOk Tryz.prog tab) {m : Im} {nm : List UInt8} {pl : Int} {ws : List Int} {n v1 v2 vr vm : Nat} {X1 X2 : Option Ob} (hw : ∀ w ∈ ws, 0 ≤ w ∧ w < 4294967296) (hl : ws.length ≤ 1000000) {i : Nat} {w : Int} (hx : ws[i]? = some w) {fr : Fr} {σ : H} (hJ : rwJ m nm pl ws n v1 v2 vr vm X1 X2 i fr σ) :
    W Tryz.prog G0 124 0 (AC.seq (AC.reg zqk_5 [])   (AC.seq (AC.cond (Arg.t 43)   AC.skip   (AC.exit 0))   (AC.seq (AC.block 1 (AC.seq (AC.reg zqk_6 [44, 45, 46])   (AC.seq (AC.reg zqk_7 [48, 49, 47, 50, 51])   (AC.seq (AC.seq (AC.reg zqk_8 [52])   (AC.cond (Arg.t 53)   (AC.reg zqk_9 [54, 55, 56])   AC.skip))   (AC.reg zqk_10 [57, 58, 59, 60, 61, 62, 63, 64, 65, 66, 67, 68])))))   (AC.reg zqk_11 [69])))) fr σ (seqQ (fun fr σ => ∃ fr' σ', Shift G0 124 0 fr σ fr' σ' ∧ rwJ m nm pl ws n v1 v2 vr vm X1 X2 (i + 1) fr' σ') (rwE m nm pl ws n v1 v2 vr vm X1 X2)) := by
  obtain ⟨t, wv, f1, f4, f5, f8, f9, f40, f41, f42, rfl⟩ := hJ
  have hlt := (List.getElem?_eq_some_iff.1 hx).1
  have hD : (ws.map (V.int .u32)).getD i V.any = .int .u32 w := by simp [List.getD_eq_getElem?_getD, hx]
  have e2 := wnext hlt (by omega)
  have hwb := hw w (List.mem_of_getElem? hx)
  have hDec := c_Decode hT w hwb.1 hwb.2
  have hbs := badS_next hx
  have hct : (codeOf ws).take (i + 1) = (codeOf ws).take i ++ [(dec w).getD zeroI] := by
    rw [List.take_add_one]; congr 1; unfold codeOf; simp [hx]
  have hrl : (rowC5 ((codeOf ws).take i)).length = 5 * i := by
    rw [rowC5_len, List.length_take]; unfold codeOf; rw [List.length_map]; omega
  have hk : ∀ f S, keysOk false [Kd.i] (V.int .i64 (i : Int)) (km kI f S) = True := fun f S => eq_true (keysOk_I (i : Int) f S)
  have hnl : nameless (V.int .i64 (i : Int)) = true := rfl
  have hp := mput_km (ks := [Kd.i]) (key := kI) kI_eq oneI (i : Int) (.int .i64 1) (badS ws i) (badS_nodup ws i)
  rw [show kupd oneI (i : Int) (.int .i64 1) = oneI from funext fun b => by simp [kupd, oneI], kadd, if_neg (badS_new ws i)] at hp
  simp only [kI] at hp
  have hsnoc := rowC5_snoc ((codeOf ws).take i) ((dec w).getD zeroI)
  rw [← hct] at hsnoc
  have hcl : i + 1 ≤ 9223372036854775807 := by omega
  unfold dec at hbs hsnoc
  generalize first w 0 T = d at *
  generalize badS ws i = B0 at *
  generalize rowC5 ((codeOf ws).take i) = R0 at *
  cases d with
  | some x =>
    simp only [errT, inC] at hDec
    simp only [Option.isNone_some, Bool.false_eq_true, if_false, List.append_nil, Option.getD_some, inC] at hbs hsnoc
    refine W_round [(1, .int .i64 ((n : Nat) : Int)), (4, .ptr 1 v1 0), (5, .ptr 2 v2 0), (8, .ptr 3 vr 0), (9, .mp 4 vm), (40, codeV ws), (41, .int .i64 ws.length), (42, .int .i64 ((i : Nat) : Int))] ⟨f1, f4, f5, f8, f9, f40, f41, f42, trivial⟩  12 ?_
    simp -implicitDefEqProofs (disch := omega) only [go_sem, ↓reduceIte, Nat.reduceEqDiff, decide_true, zqk_5, zqk_6, zqk_7, zqk_8, zqk_9, zqk_10, zqk_11, symsV, codeV, rcC, hlt]
    iterate 3 (try (refine run_sem 4 ?_; simp -implicitDefEqProofs (disch := omega) only [go_sem, need_of, ↓reduceIte, Nat.reduceEqDiff, Nat.zero_add, Nat.le_refl, V.cells, List.length_map, true_implies, and_true, hlt, hD]))
    refine callPS hT t_rv_Decode hDec rfl 12 ?_
    simp -implicitDefEqProofs (disch := omega) only [go_sem, ↓reduceIte, Nat.reduceAdd, Nat.reduceEqDiff, Nat.reduceLT, Nat.zero_add, Bool.not_false, Nat.le_refl, Nat.zero_le, bne_self_eq_false, V.cells, and_true, Bool.not_false, List.cons_append, List.nil_append]
    iterate 9 (try (refine run_sem 9 ?_; simp -implicitDefEqProofs (disch := omega) only [go_sem, need_of, ↓reduceIte, reduceCtorEq, Nat.reduceAdd, Nat.reduceEqDiff, Nat.reduceLeDiff, Nat.zero_add, Bool.not_true, Bool.not_false, Nat.le_refl, Nat.zero_le, V.cells, false_implies, true_implies, true_and, and_true, Bool.not_true, Bool.not_false, List.cons_append, List.nil_append, hrl]))
    refine ⟨_, _, Shift.drop (o' := [none, X1, X2, some (.arr vr 107 (rcC m nm pl (t + 1) (i + 1))), some (.map vm (km kI oneI (badS ws (i + 1)))), some (.arr (t + 1) 47 (rowC5 ((codeOf ws).take (i + 1))))]) (t' := t + 1 + 1) (by rw [hbs, hsnoc]; exact take6 _ _ _ _ _ _ _) (Nat.le_refl _) (Nat.zero_le _), t + 1 + 1, t + 1, ?_⟩
    simp -implicitDefEqProofs (disch := omega) only [go_sem, ↓reduceIte, Nat.reduceEqDiff, symsV, codeV, and_true, rcC, e2]
    try simp
  | none =>
    simp only [errT, inC] at hDec
    simp only [Option.isNone_none, if_true, Option.getD_none, inC, zeroI] at hbs hsnoc
    refine W_round [(1, .int .i64 ((n : Nat) : Int)), (4, .ptr 1 v1 0), (5, .ptr 2 v2 0), (8, .ptr 3 vr 0), (9, .mp 4 vm), (40, codeV ws), (41, .int .i64 ws.length), (42, .int .i64 ((i : Nat) : Int))] ⟨f1, f4, f5, f8, f9, f40, f41, f42, trivial⟩  12 ?_
    simp -implicitDefEqProofs (disch := omega) only [go_sem, ↓reduceIte, Nat.reduceEqDiff, decide_true, zqk_5, zqk_6, zqk_7, zqk_8, zqk_9, zqk_10, zqk_11, symsV, codeV, rcC, hlt]
    iterate 3 (try (refine run_sem 4 ?_; simp -implicitDefEqProofs (disch := omega) only [go_sem, need_of, ↓reduceIte, Nat.reduceEqDiff, Nat.zero_add, Nat.le_refl, V.cells, List.length_map, true_implies, and_true, hlt, hD]))
    refine callPS hT t_rv_Decode hDec rfl 12 ?_
    simp -implicitDefEqProofs (disch := omega) only [go_sem, ↓reduceIte, Nat.reduceAdd, Nat.reduceEqDiff, Nat.reduceLT, Nat.zero_add, Bool.not_false, Nat.le_refl, Nat.zero_le, V.cells, and_true, Int.reduceBNe, Bool.not_false, List.cons_append, List.nil_append]
    iterate 9 (try (refine run_sem 9 ?_; simp -implicitDefEqProofs (disch := omega) only [go_sem, need_of, ↓reduceIte, reduceCtorEq, Nat.reduceAdd, Nat.reduceEqDiff, Nat.reduceLeDiff, Nat.zero_add, Bool.not_true, Bool.not_false, Nat.le_refl, Nat.zero_le, V.cells, false_implies, true_implies, true_and, and_true, Bool.not_true, Bool.not_false, List.cons_append, List.nil_append, hrl, hk, hp, hnl]))
    refine ⟨_, _, Shift.drop (o' := [none, X1, X2, some (.arr vr 107 (rcC m nm pl (t + 1) (i + 1))), some (.map vm (km kI oneI (badS ws (i + 1)))), some (.arr (t + 1) 47 (rowC5 ((codeOf ws).take (i + 1))))]) (t' := t + 1 + 1) (by rw [hbs, hsnoc]; exact take6 _ _ _ _ _ _ _) (Nat.le_refl _) (Nat.zero_le _), t + 1 + 1, t + 1, ?_⟩
    simp -implicitDefEqProofs (disch := omega) only [go_sem, ↓reduceIte, Nat.reduceEqDiff, symsV, codeV, and_true, rcC, e2]
    try simp
end Go.Proofs.YtaidbdgndljaeaaGreatDoor
