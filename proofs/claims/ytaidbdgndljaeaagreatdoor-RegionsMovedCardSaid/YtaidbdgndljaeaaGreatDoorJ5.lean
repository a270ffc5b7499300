/- The library's Sort and Compact at rows of numbers. -/
import Derived.Test.YtaidbdgndljaeaaGreatDoorJ2
import Derived.Test.YtaidbdgndljaeaaGreatDoorShS
import Derived.Test.YtaidbdgndljaeaaGreatDoorShC
import Derived.Lib.SlicesCompact
import Derived.Test.YtaidbdgndljaeaaGreatDoorJ3
import Derived.Test.YtaidbdgndljaeaaGreatDoorJ4
import Derived.Test.YtaidbdgndljaeaaGreatDoorJ1
/- The library's Sort and Compact at rows of numbers. -/
namespace Go.Proofs.YtaidbdgndljaeaaGreatDoor
open Go Go.Am Go.Sort Go.Lib
set_option maxRecDepth 100000
variable {P : Program} {G : Nat → Option V}
theorem _root_.List.set_getElem?_self {α : Type} {l : List α} {k : Nat} {x : α} (h : l[k]? = some x) : l.set k x = l := by
  obtain ⟨h1, h2⟩ := List.getElem?_eq_some_iff.1 h
  rw [← h2, List.set_getElem_self]
def cmpct : List Int → List Int
  | [] => []
  | [a] => [a]
  | a :: b :: l => if a = b then cmpct (b :: l) else a :: cmpct (b :: l)
theorem compactUpTo_succ (d : Array Int) (m : Nat) : compactUpTo d (m + 1) = compactUpTo d m ++ if keeps d m then [d[m]!] else [] := by
  unfold compactUpTo
  rw [List.range_succ, List.filter_append, List.map_append]
  congr 1
  simp only [List.filter_cons, List.filter_nil]
  split <;> rfl
theorem cmpct_snoc (x : Int) : ∀ (l : List Int), cmpct (l ++ [x]) = cmpct l ++ if l.getLast? = some x then [] else [x]
  | [] => rfl
  | [a] => by
    simp only [List.cons_append, List.nil_append, cmpct, List.getLast?_singleton, Option.some.injEq]
    split
    · rename_i h; simp [h]
    · rename_i h; simp []
  | a :: b :: l => by
    have ih := cmpct_snoc x (b :: l)
    simp only [List.cons_append] at ih ⊢
    have hlast : (a :: b :: l).getLast? = (b :: l).getLast? := by simp
    rw [hlast]
    conv => lhs; unfold cmpct
    conv => rhs; unfold cmpct
    split
    · exact ih
    · rw [ih]; rfl
theorem compact_take (zs : List Int) : ∀ m, m ≤ zs.length → compactUpTo zs.toArray m = cmpct (zs.take m)
  | 0, _ => rfl
  | m + 1, h => by
    have hm : m < zs.length := h
    rw [compactUpTo_succ, compact_take zs m (by omega), take_snoc (List.getElem?_eq_getElem hm), cmpct_snoc]
    congr 1
    have e : zs.toArray[m]! = zs[m] := by rw [getElem!_pos _ _ (by simpa using hm)]; simp
    unfold keeps
    by_cases h0 : m = 0
    · subst h0; simp [e]
    · have hp : m - 1 < zs.length := by omega
      have e2 : zs.toArray[m - 1]! = zs[m - 1] := by rw [getElem!_pos _ _ (by simpa using hp)]; simp
      have e3 : (zs.take m).getLast? = some zs[m - 1] := by
        rw [List.getLast?_eq_getElem?, List.length_take, Nat.min_eq_left (by omega), List.getElem?_take, if_pos (by omega), List.getElem?_eq_getElem hp]
      rw [e3, e, e2]
      simp only [h0, false_or, ne_eq, Option.some.injEq]
      by_cases hh : zs[m] = zs[m - 1]
      · simp [hh]
      · have hh' : ¬ zs[m - 1] = zs[m] := fun x => hh x.symm
        simp [hh, hh']
theorem compact_is (zs : List Int) : compact zs = cmpct zs := by
  unfold compact
  rw [compact_take zs _ (Nat.le_refl _), List.take_length]
theorem cmpct_le : ∀ zs : List Int, (cmpct zs).length ≤ zs.length
  | [] => Nat.le_refl _
  | [a] => Nat.le_refl _
  | a :: b :: l => by
    have := cmpct_le (b :: l)
    unfold cmpct
    split
    · simp at this ⊢; omega
    · simp at this ⊢; omega
theorem c_Compact {G : Nat → Option V} {base k v T t : Nat} {o : List (Option Ob)} {zs : List Int} (hk : base ≤ k) (ho : o[k]? = some (some (.arr v T (ints zs)))) (hl : zs.length ≤ 1000000) :
    C Tryz.prog G base n_slices_Compact_int_int [.sl k v 0 1 zs.length none] ⟨t, o⟩ fun r σ' => r = .sl k v 0 1 (cmpct zs).length none ∧ ∃ cells, namelessL cells = true ∧ σ' = ⟨t, o.set k (some (.arr v T (ints (cmpct zs) ++ cells)))⟩ := by
  by_cases hz : zs = []
  · subst hz
    refine (C_cut0 (fun p cap w => Tryz.slices_Compact_int_empty p cap w)).conseq fun r σ' ⟨h1, h2⟩ => ⟨h1, [], rfl, ?_⟩
    rw [h2, show ints (cmpct []) ++ [] = ints [] from rfl, List.set_getElem?_self ho]
  · refine (C_cut (zs' := cmpct zs ++ List.replicate (zs.length - (cmpct zs).length) 0) (m := (cmpct zs).length) hk ho hz (by have := cmpct_le zs; simp; omega) (cmpct_le zs) fun blk off cap w hH hcap => ?_).conseq fun r σ' ⟨h1, h2⟩ => ⟨h1, ints (List.replicate (zs.length - (cmpct zs).length) 0), ints_nameless _, ?_⟩
    · have h := Tryz.slices_Compact_int blk off cap zs w hH (by omega) hcap
      rw [compact_is] at h
      exact h
    · rw [h2]; simp [ints]
structure SortF (P : Program) (f : FuncId) : Prop where
  some : ∀ (blk off cap : Nat) (zs : List Int) (w : World), Go.Sort.Holds (Value.int .i64) w blk off zs.toArray → blk < w.heap.size → zs.length < 4611686018427387904 →
    Calls P f #[.slice (some ⟨blk, off, none⟩) zs.length cap] w fun e w' => e = .returned (.tuple #[]) ∧ ∃ n os, w' = Go.Sort.grow (Go.Sort.putRow (Value.int .i64) (Go.Sort.ahead w n) blk off (zs.mergeSort fun x y => decide (x ≤ y)).toArray) os
  none : ∀ (p : Option Addr) (cap : Nat) (w : World), Calls P f #[.slice p 0 cap] w fun e w' => e = .returned (.tuple #[]) ∧ w' = w
theorem c_SortF {f : FuncId} (S : SortF P f) {base k v T t : Nat} {o : List (Option Ob)} {zs : List Int} {n : Nat} {lim : Option Nat} (hk : base ≤ k) (ho : o[k]? = some (some (.arr v T (zs.map (V.int .i64))))) (hn : n = zs.length) (hl : zs.length < 4611686018427387904) :
    C P G base f [.sl k v 0 1 n lim] ⟨t, o⟩ fun r σ' => r = .tup [] ∧ σ' = ⟨t, o.set k (some (.arr v T ((zs.mergeSort fun x y => decide (x ≤ y)).map (V.int .i64))))⟩ := by
  subst hn
  cases zs with
  | nil =>
    refine (C_sort0 (fun p cap w => S.none p cap w)).conseq fun r σ' ⟨h1, h2⟩ => ⟨h1, ?_⟩
    rw [h2]
    congr 1
    have hk' := (List.getElem?_eq_some_iff.1 ho).1
    apply List.ext_getElem?
    intro m
    by_cases hm : m = k
    · subst hm; rw [ho]; simp [hk']
    · simp [List.getElem?_set_ne (Ne.symm hm)]
  | cons z zs => exact C_sort hk ho (by simp) (by simp) fun blk off cap w hH hb => S.some blk off cap _ w hH hb hl
theorem sortI {P : Program} (hp : P = Tryz.prog) : SortF P n_slices_Sort_int_int := by
  subst hp
  exact ⟨fun blk off cap zs w hH hb hl => Tryz.slices_Sort_int blk off cap zs w hH hb hl, fun p cap w => Tryz.slices_Sort_int_none p cap w⟩
end Go.Proofs.YtaidbdgndljaeaaGreatDoor
/- Functions: what is told of an instruction. -/
namespace Go.Proofs.YtaidbdgndljaeaaGreatDoor
open Go Go.Am Go.Rv Go.Rg
set_option maxRecDepth 100000
variable {P : Program} {G : Nat → Option V}
def insV (c : List In) : V := .lst 5 (c.map fun x => V.agg (inC x)) false
def cutsV (l : List Int) : V := .lst 1 (ints l) false
def fnC (nm : List UInt8) (pl : Int) (c : List In) (F : Int) (K : List Int) : List V := [.str nm, .int .i64 pl, insV c, .int .i64 F, cutsV K]
theorem eqIn (x y : In) : ((x.op == y.op) && ((x.rd == y.rd) && ((x.rs1 == y.rs1) && ((x.rs2 == y.rs2) && ((x.imm == y.imm) && true))))) = decide (x = y) := by
  obtain ⟨a, b, c, d, e⟩ := x
  obtain ⟨a', b', c', d', e'⟩ := y
  simp only [In.mk.injEq]
  rw [Bool.eq_iff_iff]
  simp
theorem ins_getD {c : List In} {i : Nat} {x : In} (h : c[i]? = some x) : (c.map fun x => V.agg (inC x)).getD i V.any = .agg (inC x) := by simp [List.getD_eq_getElem?_getD, h]
theorem c_is (hT : TabOk P tab) (nm : List UInt8) (pl F : Int) (c : List In) (K : List Int) (i : Int) (x : In) (hl : c.length ≤ 1000000) : Am.Pure P G n_regions_Func_is [.agg (fnC nm pl c F K), .int .i64 i, .agg (inC x)] fun v => v = .bool (isI c i x) := by
  intro t
  refine C_keep 0 (Nat.zero_le _) (C_tab hT t_regions_Func_is (by simp [regions_Func_is]) (W_run 12 ?_))
  by_cases h0 : 0 ≤ i
  · have h0' : decide (0 ≤ i) = true := decide_eq_true h0
    obtain ⟨k, rfl⟩ : ∃ k : Nat, i = k := ⟨i.toNat, by omega⟩
    by_cases h1 : k < c.length
    · have h1' : decide ((k : Int) < (c.length : Int)) = true := decide_eq_true (by omega)
      have h1'' : (k : Int) < (c.length : Int) := by omega
      obtain ⟨y, hy⟩ : ∃ y, c[k]? = some y := ⟨_, List.getElem?_eq_getElem h1⟩
      have hD := ins_getD hy
      simp only [inC] at hD
      have hr : isI c k x = decide (y = x) := by unfold isI; rw [nth_nat, hy]; simp
      rw [hr, ← eqIn]
      simp -implicitDefEqProofs (disch := omega) only [go_sem, ↓reduceIte, reduceCtorEq, Nat.reduceAdd, Nat.reduceEqDiff, Nat.zero_add, decide_true, ge_iff_le, regions_Func_is, zqx_0, zqx_1, fnC, insV, cutsV, inC, V.cells, and_true, List.cons_append, List.nil_append, ge_iff_le, h0]
      iterate 9 (try (refine run_sem 4 ?_; simp -implicitDefEqProofs (disch := omega) only [go_sem, ↓reduceIte, reduceCtorEq, Nat.reduceAdd, Nat.reduceEqDiff, Nat.reduceLeDiff, Nat.zero_add, decide_true, Nat.le_refl, Nat.zero_le, V.cells, List.length_map, false_implies, true_implies, and_true, h0, h1'', hD, h1]))
    · have h1' : decide ((k : Int) < (c.length : Int)) = false := decide_eq_false (by omega)
      have h1'' : ¬ (k : Int) < (c.length : Int) := by omega
      have hr : isI c k x = false := by unfold isI; rw [nth_nat, List.getElem?_eq_none (by omega)]; simp
      rw [hr]
      simp -implicitDefEqProofs (disch := omega) only [go_sem, ↓reduceIte, reduceCtorEq, Nat.reduceAdd, Nat.reduceEqDiff, Nat.zero_add, decide_true, ge_iff_le, regions_Func_is, zqx_0, zqx_1, fnC, insV, cutsV, inC, V.cells, and_true, List.cons_append, List.nil_append, ge_iff_le, h0]
      iterate 9 (try (refine run_sem 4 ?_; simp -implicitDefEqProofs (disch := omega) only [go_sem, ↓reduceIte, reduceCtorEq, Nat.reduceAdd, Nat.reduceEqDiff, Nat.reduceLeDiff, Nat.zero_add, decide_false, Nat.zero_le, List.length_map, true_implies, and_true, h1'']))
  · have h0' : decide (0 ≤ i) = false := decide_eq_false h0
    have hr : isI c i x = false := by unfold isI nth; rw [if_pos (by omega)]; simp
    rw [hr]
    simp -implicitDefEqProofs (disch := omega) only [go_sem, ↓reduceIte, reduceCtorEq, Nat.reduceAdd, Nat.reduceEqDiff, Nat.zero_add, decide_false, ge_iff_le, regions_Func_is, zqx_0, zqx_1, fnC, insV, cutsV, inC, V.cells, and_true, List.cons_append, List.nil_append, ge_iff_le, h0]
    iterate 9 (try (refine run_sem 4 ?_; simp -implicitDefEqProofs (disch := omega) only [go_sem, ↓reduceIte, reduceCtorEq, Nat.reduceAdd, Nat.reduceEqDiff, Nat.zero_add, Nat.zero_le, and_true]))
theorem c_branches (hT : TabOk P tab) (x : In) : Am.Pure P G n_regions_branches [.agg (inC x)] fun v => v = .bool (branches x) := by
  intro t
  refine C_keep 0 (Nat.zero_le _) (C_tab hT t_regions_branches (by simp [regions_branches]) (W_run 12 ?_))
  unfold branches
  by_cases h0 : 5 ≤ x.op
  · have h0' : decide (5 ≤ x.op) = true := decide_eq_true h0
    simp -implicitDefEqProofs (disch := omega) only [go_sem, ↓reduceIte, reduceCtorEq, Nat.reduceAdd, Nat.reduceEqDiff, Nat.reduceLeDiff, Nat.zero_add, Nat.add_zero, decide_true, ge_iff_le, regions_branches, zqm_0, zqm_1, inC, V.cells, true_implies, and_true, List.nil_append, ge_iff_le, h0]
    iterate 4 (try (refine run_sem 4 ?_; simp -implicitDefEqProofs (disch := omega) only [go_sem, ↓reduceIte, reduceCtorEq, Nat.reduceAdd, Nat.reduceEqDiff, Nat.reduceLeDiff, Nat.zero_add, Nat.zero_le, true_implies, and_true]))
    try simp
  · have h0' : decide (5 ≤ x.op) = false := decide_eq_false h0
    simp -implicitDefEqProofs (disch := omega) only [go_sem, ↓reduceIte, reduceCtorEq, Nat.reduceAdd, Nat.reduceEqDiff, Nat.reduceLeDiff, Nat.zero_add, Nat.add_zero, decide_false, ge_iff_le, regions_branches, zqm_0, zqm_1, inC, V.cells, true_implies, and_true, List.nil_append, ge_iff_le, h0]
    iterate 4 (try (refine run_sem 4 ?_; simp -implicitDefEqProofs (disch := omega) only [go_sem, ↓reduceIte, reduceCtorEq, Nat.reduceEqDiff, Nat.zero_add, Nat.zero_le, and_true]))
    try simp
theorem c_jumps (hT : TabOk P tab) (x : In) : Am.Pure P G n_regions_jumps [.agg (inC x)] fun v => v = .bool (jumps x) := by
  intro t
  have hB := c_branches (P := P) (G := G) hT x
  unfold jumps
  simp only [inC] at hB
  refine C_keep 0 (Nat.zero_le _) (C_tab hT t_regions_jumps (by simp [regions_jumps]) (W_run 12 ?_))
  cases hb : branches x with
  | true =>
    rw [hb] at hB
    simp -implicitDefEqProofs (disch := omega) only [go_sem, ↓reduceIte, reduceCtorEq, Nat.reduceAdd, Nat.reduceEqDiff, Nat.zero_add, Nat.le_refl, regions_jumps, zql_0, zql_1, inC, V.cells, false_implies, and_true, List.nil_append]
    refine callPS hT t_regions_branches hB rfl 4 ?_
    simp -implicitDefEqProofs (disch := omega) only [go_sem, ↓reduceIte, reduceCtorEq, Nat.reduceEqDiff]
    iterate 6 (try (refine run_sem 4 ?_; simp -implicitDefEqProofs (disch := omega) only [go_sem, ↓reduceIte, reduceCtorEq, Nat.reduceEqDiff, Nat.zero_add, Nat.zero_le, true_and]))
    try simp
  | false =>
    rw [hb] at hB
    simp -implicitDefEqProofs (disch := omega) only [go_sem, ↓reduceIte, reduceCtorEq, Nat.reduceAdd, Nat.reduceEqDiff, Nat.zero_add, Nat.le_refl, regions_jumps, zql_0, zql_1, inC, V.cells, false_implies, and_true, List.nil_append]
    refine callPS hT t_regions_branches hB rfl 4 ?_
    simp -implicitDefEqProofs (disch := omega) only [go_sem, ↓reduceIte, reduceCtorEq, Nat.reduceAdd, Nat.reduceEqDiff, Nat.reduceLeDiff, Nat.zero_add, Nat.add_zero, true_implies, and_true]
    by_cases h3 : x.op = 3
    · have h3' : (x.op == 3) = true := by simp [h3]
      iterate 6 (try (refine run_sem 4 ?_; simp -implicitDefEqProofs (disch := omega) only [go_sem, ↓reduceIte, reduceCtorEq, Nat.reduceAdd, Nat.reduceEqDiff, Nat.reduceLeDiff, Nat.zero_add, Nat.zero_le, true_implies, true_and, and_true, h3']))
      try simp [h3, ibeq]
    · have h3' : (x.op == 3) = false := by simp [h3]
      iterate 6 (try (refine run_sem 4 ?_; simp -implicitDefEqProofs (disch := omega) only [go_sem, ↓reduceIte, reduceCtorEq, Nat.reduceAdd, Nat.reduceEqDiff, Nat.zero_add, Nat.zero_le, true_and, h3']))
      try simp [h3]
end Go.Proofs.YtaidbdgndljaeaaGreatDoor
/- Functions: restores, returns, ends. -/
namespace Go.Proofs.YtaidbdgndljaeaaGreatDoor
open Go Go.Am Go.Rv Go.Rg
set_option maxRecDepth 100000
variable {P : Program} {G : Nat → Option V}
theorem fn_nl {nm : List UInt8} {pl F : Int} {c : List In} {K : List Int} : namelessL (fnC nm pl c F K) = true := by simp [fnC, insV, cutsV, namelessL, nameless]
theorem c_restores (hT : TabOk P tab) (nm : List UInt8) (pl F : Int) (c : List In) (K : List Int) (i : Int) (hl : c.length ≤ 1000000) (hi : -10 ≤ i ∧ i ≤ 2000000) : Am.Pure P G n_regions_Func_restores [.agg (fnC nm pl c F K), .int .i64 i] fun v => v = .bool (restores c F i) := by
  intro t
  have hA := c_is (P := P) (G := G) hT nm pl F c K i (addiI 2 2 F) hl
  have hB := c_is (P := P) (G := G) hT nm pl F c K (i + 1) jr hl
  have w1 : IntKind.i64.wrap (i + 1) = i + 1 := wself (by omega)
  have hn : ∀ (n : Int) (x : In), namelessL [.agg (fnC nm pl c F K), .int .i64 n, .agg (inC x)] = true := fun n x => by
    have := fn_nl (nm := nm) (pl := pl) (F := F) (c := c) (K := K)
    simp [namelessL, nameless, this, inC]
  simp only [fnC, insV, cutsV, inC, addiI, jr] at hA hB hn
  unfold restores
  simp only [addiI, jr]
  refine C_keep 0 (Nat.zero_le _) (C_tab hT t_regions_Func_restores (by simp [regions_Func_restores]) (W_run 12 ?_))
  by_cases h0 : 0 < F
  · have h0' : decide (0 < F) = true := decide_eq_true h0
    simp -implicitDefEqProofs (disch := omega) only [go_sem, ↓reduceIte, reduceCtorEq, Nat.reduceAdd, Nat.reduceEqDiff, Nat.reduceLeDiff, Nat.zero_add, decide_true, Nat.le_refl, gt_iff_lt, regions_Func_restores, zqy_0, zqy_1, fnC, insV, cutsV, inC, V.cells, false_implies, true_implies, and_true, List.nil_append, gt_iff_lt, h0]
    iterate 3 (try (refine run_sem 4 ?_; simp -implicitDefEqProofs (disch := omega) only [go_sem, ↓reduceIte, reduceCtorEq, Nat.reduceAdd, Nat.reduceEqDiff, Nat.reduceLeDiff, Nat.zero_add, Nat.le_refl, V.cells, true_implies, and_true, List.cons_append, List.nil_append]))
    refine callPS hT t_regions_Func_is hA (hn _ ⟨22, 2, 2, 0, F⟩) 4 ?_
    simp -implicitDefEqProofs (disch := omega) only [go_sem, ↓reduceIte, reduceCtorEq, Nat.reduceAdd, Nat.reduceEqDiff, Nat.zero_add, Nat.le_refl, false_implies, and_true]
    cases hb : isI c i ⟨22, 2, 2, 0, F⟩ with
    | true =>
      simp -implicitDefEqProofs (disch := omega) only [go_sem, reduceCtorEq, false_implies, true_implies, and_true]
      iterate 4 (try (refine run_sem 4 ?_; simp -implicitDefEqProofs (disch := omega) only [go_sem, ↓reduceIte, reduceCtorEq, Nat.reduceAdd, Nat.reduceEqDiff, Nat.reduceLeDiff, Nat.zero_add, V.cells, and_true, List.cons_append, List.nil_append, w1]))
      refine callPS hT t_regions_Func_is hB (hn _ ⟨4, 0, 1, 0, 0⟩) 4 ?_
      simp -implicitDefEqProofs (disch := omega) only [go_sem, ↓reduceIte, reduceCtorEq, Nat.reduceEqDiff]
      iterate 4 (try (refine run_sem 4 ?_; simp -implicitDefEqProofs (disch := omega) only [go_sem, ↓reduceIte, reduceCtorEq, Nat.reduceEqDiff, Nat.zero_add, Nat.zero_le, and_true]))
    | false =>
      simp -implicitDefEqProofs (disch := omega) only [go_sem, false_implies, true_implies, true_and, Bool.false_eq_true]
      iterate 4 (try (refine run_sem 4 ?_; simp -implicitDefEqProofs (disch := omega) only [go_sem, ↓reduceIte, reduceCtorEq, Nat.reduceEqDiff, Nat.zero_add, Nat.zero_le, and_true]))
  · have h0' : decide (0 < F) = false := decide_eq_false h0
    simp -implicitDefEqProofs (disch := omega) only [go_sem, ↓reduceIte, reduceCtorEq, Nat.reduceAdd, Nat.reduceEqDiff, Nat.reduceLeDiff, Nat.zero_add, decide_false, gt_iff_lt, regions_Func_restores, zqy_0, zqy_1, fnC, insV, cutsV, inC, V.cells, true_implies, and_true, List.nil_append, gt_iff_lt, h0]
    iterate 6 (try (refine run_sem 4 ?_; simp -implicitDefEqProofs (disch := omega) only [go_sem, ↓reduceIte, reduceCtorEq, Nat.reduceEqDiff, Nat.zero_add, Nat.zero_le, and_true]))
theorem c_Return (hT : TabOk P tab) (nm : List UInt8) (pl F : Int) (c : List In) (K : List Int) (i : Int) (hl : c.length ≤ 1000000) (hi : -9 ≤ i ∧ i ≤ 2000000) : Am.Pure P G n_regions_Func_Return [.agg (fnC nm pl c F K), .int .i64 i] fun v => v = .bool (ret c F i) := by
  intro t
  have hA := c_is (P := P) (G := G) hT nm pl F c K i jr hl
  have hB := c_restores (P := P) (G := G) hT nm pl F c K (i - 1) hl (by omega)
  have w1 : IntKind.i64.wrap (i - 1) = i - 1 := wself (by omega)
  have hn : ∀ (n : Int) (x : In), namelessL [.agg (fnC nm pl c F K), .int .i64 n, .agg (inC x)] = true := fun n x => by
    have := fn_nl (nm := nm) (pl := pl) (F := F) (c := c) (K := K)
    simp [namelessL, nameless, this, inC]
  have hn2 : namelessL [.agg (fnC nm pl c F K), .int .i64 (i - 1)] = true := by
    have := fn_nl (nm := nm) (pl := pl) (F := F) (c := c) (K := K)
    simp [namelessL, nameless, this]
  simp only [fnC, insV, cutsV, inC, jr] at hA hB hn hn2
  unfold ret
  simp only [jr]
  refine C_keep 0 (Nat.zero_le _) (C_tab hT t_regions_Func_Return (by simp [regions_Func_Return]) (W_run 12 ?_))
  simp -implicitDefEqProofs (disch := omega) only [go_sem, ↓reduceIte, reduceCtorEq, Nat.reduceAdd, Nat.reduceEqDiff, Nat.reduceLeDiff, Nat.zero_add, Nat.le_refl, regions_Func_Return, zqc_0, zqc_1, fnC, insV, cutsV, inC, V.cells, false_implies, and_true, List.cons_append, List.nil_append]
  refine callPS hT t_regions_Func_is hA (hn _ ⟨4, 0, 1, 0, 0⟩) 4 ?_
  simp -implicitDefEqProofs (disch := omega) only [go_sem, ↓reduceIte, reduceCtorEq, Nat.reduceAdd, Nat.reduceEqDiff, Nat.reduceLeDiff, Nat.zero_add, true_implies, and_true]
  cases hb : isI c i ⟨4, 0, 1, 0, 0⟩ with
  | false =>
    simp -implicitDefEqProofs (disch := omega) only [go_sem, false_implies, true_implies, true_and, Bool.false_eq_true]
    iterate 6 (try (refine run_sem 4 ?_; simp -implicitDefEqProofs (disch := omega) only [go_sem, ↓reduceIte, reduceCtorEq, Nat.reduceEqDiff, Nat.zero_add, Nat.zero_le, and_true]))
  | true =>
    by_cases h0 : F = 0
    · have h0' : (F == 0) = true := by simp [h0]
      simp -implicitDefEqProofs (disch := omega) only [go_sem, reduceCtorEq, false_implies, true_implies, and_true, h0']
      iterate 6 (try (refine run_sem 4 ?_; simp -implicitDefEqProofs (disch := omega) only [go_sem, ↓reduceIte, reduceCtorEq, Nat.reduceAdd, Nat.reduceEqDiff, Nat.zero_add, Nat.zero_le, true_and]))
      try simp [h0]
    · have h0' : (F == 0) = false := by simp [h0]
      simp -implicitDefEqProofs (disch := omega) only [go_sem, reduceCtorEq, false_implies, true_implies, and_true, h0']
      iterate 3 (try (refine run_sem 4 ?_; simp -implicitDefEqProofs (disch := omega) only [go_sem, ↓reduceIte, reduceCtorEq, Nat.reduceAdd, Nat.reduceEqDiff, Nat.zero_add, Nat.le_refl, false_implies, and_true, w1]))
      refine callPS hT t_regions_Func_restores hB hn2 4 ?_
      simp -implicitDefEqProofs (disch := omega) only [go_sem, ↓reduceIte, reduceCtorEq, Nat.reduceAdd, Nat.reduceEqDiff]
      iterate 4 (try (refine run_sem 4 ?_; simp -implicitDefEqProofs (disch := omega) only [go_sem, ↓reduceIte, reduceCtorEq, Nat.reduceEqDiff, Nat.zero_add, Nat.zero_le, true_and]))
      try simp [h0]
theorem c_NextS1 (hT : TabOk P tab) (nm : List UInt8) (pl F : Int) (c : List In) (K : List Int) (k : Int) {base t : Nat} {o : List (Option Ob)} : C P G base n_regions_Func_Next_S1 [.int .i64 k, .ref (.agg (fnC nm pl c F K)) 0] ⟨t, o⟩ fun v σ => v = .bool (!decide (0 ≤ k ∧ k < c.length)) ∧ σ = ⟨t, o⟩ := by
  refine C_tab hT t_regions_Func_Next_S1 (by simp [regions_Func_Next_S1]) (W_run 12 ?_)
  by_cases h0 : k < 0
  · have h0' : decide (k < 0) = true := decide_eq_true h0
    simp -implicitDefEqProofs (disch := omega) only [go_sem, ↓reduceIte, reduceCtorEq, Nat.reduceEqDiff, Nat.zero_add, decide_true, regions_Func_Next_S1, zqq_0, zqq_1, fnC, insV, cutsV, inC, h0]
    iterate 4 (try (refine run_sem 4 ?_; simp -implicitDefEqProofs (disch := omega) only [go_sem, ↓reduceIte, reduceCtorEq, Nat.reduceEqDiff, and_true]))
    try simp; omega
  · have h0' : decide (k < 0) = false := decide_eq_false h0
    simp -implicitDefEqProofs (disch := omega) only [go_sem, ↓reduceIte, reduceCtorEq, Nat.reduceAdd, Nat.reduceEqDiff, Nat.reduceLeDiff, Nat.zero_add, decide_false, regions_Func_Next_S1, zqq_0, zqq_1, fnC, insV, cutsV, inC, V.cells, true_implies, and_true, h0]
    iterate 4 (try (refine run_sem 4 ?_; simp -implicitDefEqProofs (disch := omega) only [go_sem, ↓reduceIte, reduceCtorEq, Nat.reduceAdd, Nat.reduceEqDiff, ge_iff_le, List.length_map, and_true, ge_iff_le]))
    congr 1
    rw [Bool.eq_iff_iff]
    simp
    omega
end Go.Proofs.YtaidbdgndljaeaaGreatDoor
/- Functions: ends. -/
namespace Go.Proofs.YtaidbdgndljaeaaGreatDoor
open Go Go.Am Go.Rv Go.Rg
set_option maxRecDepth 100000
variable {P : Program} {G : Nat → Option V}
def fnR (nm : List UInt8) (pl : Int) (c : List In) (F : Int) (K : List Int) : V := .ref (.agg (fnC nm pl c F K)) 0
theorem tdiv4 {n : Int} (h : -9223372036854775808 ≤ n ∧ n ≤ 9223372036854775807) : -2305843009213693952 ≤ n.tdiv 4 ∧ n.tdiv 4 ≤ 2305843009213693951 := by
  rcases Int.le_total 0 n with h0 | h0
  · rw [Int.tdiv_eq_ediv_of_nonneg h0]; omega
  · obtain ⟨m, rfl⟩ : ∃ m, n = -m := ⟨-n, by omega⟩
    rw [Int.neg_tdiv, Int.tdiv_eq_ediv_of_nonneg (by omega)]; omega
theorem hits_next {i : Int} {c : List In} {k : Nat} {x : In} (h : c[k]? = some x) : hits i k (c.drop k) = ((jumps x && decide (tgt x (k : Int) = i)) || hits i (k + 1) (c.drop (k + 1))) := by
  have hl := (List.getElem?_eq_some_iff.1 h).1
  rw [List.drop_eq_getElem_cons hl, (List.getElem?_eq_some_iff.1 h).2]
  rfl
abbrev enJ (nm : List UInt8) (pl : Int) (c : List In) (F : Int) (K : List Int) (i : Int) : Nat → Fr → H → Prop := fun k fr σ => ∃ t, hits i 0 c = hits i k (c.drop k) ∧ fget fr 1 = .int .i64 i ∧ fget fr 2 = .ref (.agg (fnC nm pl c F K)) 0 ∧ fget fr 30 = insV c ∧ fget fr 31 = .int .i64 c.length ∧ fget fr 32 = .int .i64 ((k : Nat) : Int) ∧ σ = ⟨t, [none]⟩
abbrev enE (c : List In) (i : Int) : AE → Fr → H → Prop := fun e fr σ => (e = .ret ∧ hits i 0 c = true ∧ fget fr 4 = .bool false) ∨ (e = .ex 0 ∧ hits i 0 c = false)
theorem en_round (hT : TabOk P tab) {nm : List UInt8} {pl F : Int} {c : List In} {K : List Int} {i : Int} (hl : c.length ≤ 1000000) (hc : ∀ x ∈ c, InOk x) {k : Nat} {x : In} (hx : c[k]? = some x) {fr : Fr} {σ : H} (hJ : enJ nm pl c F K i k fr σ) :
    W P G 49 0 (AC.seq (AC.reg zqd_5 [])   (AC.seq (AC.cond (Arg.t 33)   AC.skip   (AC.exit 0))   (AC.seq (AC.block 1 (AC.seq (AC.reg zqd_6 [34, 35, 36])   (AC.seq (AC.reg zqd_7 [37, 38, 39, 40, 41, 42, 43, 44, 45, 46])   (AC.cond (Arg.t 47)   (AC.seq (AC.reg zqd_8 [])   AC.ret)   AC.skip))))   (AC.reg zqd_9 [48])))) fr σ (seqQ (fun fr σ => ∃ fr' σ', Shift G 49 0 fr σ fr' σ' ∧ enJ nm pl c F K i (k + 1) fr' σ') (enE c i)) := by
  obtain ⟨t, hh, f1, f2, f30, f31, f32, rfl⟩ := hJ
  have hlt := (List.getElem?_eq_some_iff.1 hx).1
  have hn := hits_next (i := i) hx
  rw [← hh] at hn
  have hD := ins_getD hx
  have hJm := c_jumps (P := P) (G := G) hT x
  have hxo := hc x (List.mem_of_getElem? hx)
  have hi64 : -9223372036854775808 ≤ x.imm ∧ x.imm ≤ 9223372036854775807 := by have := hxo.2.2.2.2; unfold i64 at this; omega
  have h4 := tdiv4 hi64
  have w1 : IntKind.i64.wrap (x.imm.tdiv 4) = x.imm.tdiv 4 := wself (by omega)
  have w2 : IntKind.i64.wrap ((k : Int) + x.imm.tdiv 4) = tgt x k := by rw [wself (by omega)]; rfl
  have e2 := wnext hlt (by omega)
  simp only [inC] at hD hJm
  refine W_round [(1, .int .i64 i), (2, .ref (.agg (fnC nm pl c F K)) 0), (30, insV c), (31, .int .i64 c.length), (32, .int .i64 ((k : Nat) : Int))] ⟨f1, f2, f30, f31, f32, trivial⟩  12 ?_
  simp -implicitDefEqProofs (disch := omega) only [go_sem, ↓reduceIte, Nat.reduceEqDiff, decide_true, zqd_5, zqd_6, zqd_7, zqd_8, zqd_9, fnC, insV, cutsV, inC, hlt]
  iterate 6 (try (refine run_sem 4 ?_; simp -implicitDefEqProofs (disch := omega) only [go_sem, need_of, ↓reduceIte, reduceCtorEq, Nat.reduceAdd, Nat.reduceEqDiff, Nat.zero_add, Bool.not_false, Nat.le_refl, Nat.zero_le, V.cells, List.length_map, false_implies, and_true, Bool.not_false, List.cons_append, List.nil_append, hlt, hD]))
  cases hj : jumps x with
  | false =>
    rw [hj] at hJm hn
    rw [Bool.false_and, Bool.false_or] at hn
    refine callPS hT t_regions_jumps hJm rfl 4 ?_
    simp -implicitDefEqProofs (disch := omega) only [go_sem, ↓reduceIte, Nat.reduceEqDiff]
    iterate 6 (try (refine run_sem 4 ?_; simp -implicitDefEqProofs (disch := omega) only [go_sem, ↓reduceIte, Nat.reduceEqDiff]))
    refine ⟨_, _, Shift.drop (o' := [none]) (t' := t + 1) (by simp [subObs]) (Nat.le_refl _) (Nat.zero_le _), t + 1, hn, ?_⟩
    simp -implicitDefEqProofs (disch := omega) only [go_sem, ↓reduceIte, Nat.reduceEqDiff, fnC, insV, cutsV, inC, and_true, e2]
  | true =>
    rw [hj] at hJm hn
    rw [Bool.true_and] at hn
    refine callPS hT t_regions_jumps hJm rfl 4 ?_
    simp -implicitDefEqProofs (disch := omega) only [go_sem, ↓reduceIte, Nat.reduceAdd, Nat.reduceEqDiff, Nat.zero_add, Nat.le_refl, true_implies, and_true]
    by_cases he : tgt x k = i
    · have he' : (tgt x k == i) = true := by simp [he]
      rw [decide_eq_true he, Bool.true_or] at hn
      iterate 9 (try (refine run_sem 4 ?_; simp -implicitDefEqProofs (disch := omega) only [go_sem, ↓reduceIte, Nat.reduceAdd, Nat.reduceEqDiff, Int.reduceEq, Nat.zero_add, and_true, not_false_eq_true, w1, w2, he']))
      exact .inl ⟨rfl, hn, rfl⟩
    · have he' : (tgt x k == i) = false := by simp [he]
      rw [decide_eq_false he, Bool.false_or] at hn
      iterate 9 (try (refine run_sem 4 ?_; simp -implicitDefEqProofs (disch := omega) only [go_sem, ↓reduceIte, Nat.reduceAdd, Nat.reduceEqDiff, Int.reduceEq, Nat.zero_add, and_true, not_false_eq_true, w1, w2, he']))
      refine ⟨_, _, Shift.drop (o' := [none]) (t' := t + 1) (by simp [subObs]) (Nat.le_refl _) (Nat.zero_le _), t + 1, hn, ?_⟩
      simp -implicitDefEqProofs (disch := omega) only [go_sem, ↓reduceIte, Nat.reduceEqDiff, fnC, insV, cutsV, inC, and_true, e2]
theorem c_Ends (hT : TabOk P tab) (nm : List UInt8) (pl F : Int) (c : List In) (K : List Int) (i : Int) (hl : c.length ≤ 1000000) (hc : ∀ x ∈ c, InOk x) (hi : -9 ≤ i ∧ i ≤ 2000000) : Am.Pure P G n_regions_Func_Ends [.agg (fnC nm pl c F K), .int .i64 i] fun v => v = .bool (ends c i) := by
  intro t
  have h3 := c_is (P := P) (G := G) hT nm pl F c K (i - 1) (addiI 17 0 3) hl
  have h4 := c_is (P := P) (G := G) hT nm pl F c K (i - 1) (addiI 17 0 4) hl
  have h5 := c_is (P := P) (G := G) hT nm pl F c K i ecallI hl
  have w1 : IntKind.i64.wrap (i - 1) = i - 1 := wself (by omega)
  have hn : ∀ (n : Int) (x : In), namelessL [.agg (fnC nm pl c F K), .int .i64 n, .agg (inC x)] = true := fun n x => by
    have := fn_nl (nm := nm) (pl := pl) (F := F) (c := c) (K := K)
    simp [namelessL, nameless, this, inC]
  have hnl := fn_nl (nm := nm) (pl := pl) (F := F) (c := c) (K := K)
  simp only [fnC, insV, cutsV, inC, addiI, ecallI] at h3 h4 h5 hn
  unfold ends asksI
  simp only [addiI, ecallI]
  refine C_keep 0 (Nat.zero_le _) (C_tab hT t_regions_Func_Ends (by simp [regions_Func_Ends]) (W_run 5 ?_))
  simp -implicitDefEqProofs (disch := omega) only [go_sem, ↓reduceIte, reduceCtorEq, Nat.reduceEqDiff, Nat.zero_add, regions_Func_Ends, zqd_0, zqd_1, zqd_2, zqd_3, zqd_4, zqd_5, zqd_6, zqd_7, zqd_8, zqd_9, zqd_10, fnC, insV, cutsV, inC, V.cells, and_true, List.nil_append]
  refine sem_shift (Shift.freeze (k := 0) (v := t) (T := 37) (cs := fnC nm pl c F K) (Nat.zero_le _) rfl hnl) ?_
  simp only [fnC, insV, cutsV, inC, frzFr_cons, frzFr_nil, frzL, frzV, mapFrom, List.set_cons_zero, Option.map_none]
  generalize isI c (i - 1) ⟨22, 17, 0, 0, 3⟩ = b3 at *
  generalize isI c (i - 1) ⟨22, 17, 0, 0, 4⟩ = b4 at *
  generalize isI c i ⟨64, 0, 0, 0, 0⟩ = b5 at *
  refine run_sem 1 ?_
  simp -implicitDefEqProofs (disch := omega) only [go_sem, ↓reduceIte, reduceCtorEq, and_true]
  refine sem_cut (fun fr σ => fget fr 1 = .int .i64 i ∧ fget fr 2 = .ref (.agg (fnC nm pl c F K)) 0 ∧ fget fr 5 = .bool (b3 || b4) ∧ σ = ⟨t + 1, [none]⟩) ?_ fun fr σ hJ => ?_
  · refine W_run 12 ?_
    simp -implicitDefEqProofs (disch := omega) only [go_sem, ↓reduceIte, reduceCtorEq, Nat.reduceAdd, Nat.reduceEqDiff, Nat.reduceLeDiff, Nat.zero_add, Nat.le_refl, fnC, insV, cutsV, inC, V.cells, false_implies, and_true, List.cons_append, List.nil_append, w1]
    refine callPS hT t_regions_Func_is h3 (hn _ ⟨22, 17, 0, 0, 3⟩) 4 ?_
    simp -implicitDefEqProofs (disch := omega) only [go_sem, ↓reduceIte, reduceCtorEq, Nat.reduceAdd, Nat.reduceEqDiff, Nat.zero_add, Nat.le_refl, V.cells, false_implies, and_true]
    cases b3 with
    | true =>
      simp -implicitDefEqProofs (disch := omega) only [go_sem, reduceCtorEq, false_implies, true_implies, and_true]
      iterate 6 (try (refine run_sem 4 ?_; simp -implicitDefEqProofs (disch := omega) only [go_sem, ↓reduceIte, reduceCtorEq, Nat.reduceEqDiff, true_and, and_true]))
      try simp
    | false =>
      simp -implicitDefEqProofs (disch := omega) only [go_sem, false_implies, true_implies, true_and, Bool.false_eq_true]
      iterate 2 (try (refine run_sem 4 ?_; simp -implicitDefEqProofs (disch := omega) only [go_sem, ↓reduceIte, reduceCtorEq, Nat.reduceAdd, Nat.reduceEqDiff, Nat.reduceLeDiff, Nat.zero_add, Nat.le_refl, V.cells, and_true, List.cons_append, List.nil_append, w1]))
      refine callPS hT t_regions_Func_is h4 (hn _ ⟨22, 17, 0, 0, 4⟩) 4 ?_
      simp -implicitDefEqProofs (disch := omega) only [go_sem, ↓reduceIte, reduceCtorEq, Nat.reduceEqDiff, true_and, and_true]
      iterate 6 (try (refine run_sem 4 ?_; simp -implicitDefEqProofs (disch := omega) only [go_sem, need_of, ↓reduceIte, reduceCtorEq, Nat.reduceAdd, Nat.reduceEqDiff, Nat.reduceLeDiff, Nat.reduceLT, Nat.reduceSub, Nat.reduceMul, Int.reduceToNat, Int.reduceLE, Int.reduceLT, Int.reduceEq, Int.reduceNe, Nat.succ_ne_zero, Nat.zero_add, Nat.add_zero, Nat.mul_one, Nat.one_mul, Nat.zero_mul, decide_true, decide_false, Bool.not_true, Bool.not_false, Nat.le_refl, Nat.zero_le, ge_iff_le, gt_iff_lt, Nat.reduceBEq, Nat.reduceBNe, beq_self_eq_true, bne_self_eq_false, Option.isSome_some, Option.isSome_none, Option.getD_some, Option.getD_none, regions_Func_Ends, zqd_0, zqd_1, zqd_2, zqd_3, zqd_4, zqd_5, zqd_6, zqd_7, zqd_8, zqd_9, zqd_10, fnC, insV, cutsV, inC, V.cells, List.length_map, false_implies, true_implies, true_and, and_true, not_true_eq_false, not_false_eq_true, Int.reduceBEq, Int.reduceBNe, Bool.not_true, Bool.not_false, List.cons_append, List.nil_append, ge_iff_le, gt_iff_lt, fnR]))
      try simp
  obtain ⟨f1, f2, f5, rfl⟩ := hJ
  refine sem_slots [(1, .int .i64 i), (2, .ref (.agg (fnC nm pl c F K)) 0), (5, .bool (b3 || b4))] ⟨f1, f2, f5, trivial⟩ ?_
  refine run_sem 12 ?_
  cases hb : b3 || b4 with
  | false =>
    simp -implicitDefEqProofs (disch := omega) only [go_sem, ↓reduceIte, Nat.reduceEqDiff, Bool.not_false, fnC, insV, cutsV, inC, Bool.not_false]
    iterate 9 (try (refine run_sem 4 ?_; simp -implicitDefEqProofs (disch := omega) only [go_sem, ↓reduceIte, Nat.reduceEqDiff, Nat.zero_add, Nat.zero_le, and_true]))
  | true =>
    simp -implicitDefEqProofs (disch := omega) only [go_sem, ↓reduceIte, reduceCtorEq, Nat.reduceAdd, Nat.reduceEqDiff, Nat.reduceLeDiff, Nat.zero_add, Bool.not_true, Nat.le_refl, fnC, insV, cutsV, inC, V.cells, false_implies, and_true, Bool.not_true, List.cons_append, List.nil_append]
    iterate 2 (try (refine run_sem 4 ?_; simp -implicitDefEqProofs (disch := omega) only [go_sem, need_of, ↓reduceIte, reduceCtorEq, Nat.reduceAdd, Nat.reduceEqDiff, Nat.reduceLeDiff, Nat.reduceLT, Nat.reduceSub, Nat.reduceMul, Int.reduceToNat, Int.reduceLE, Int.reduceLT, Int.reduceEq, Int.reduceNe, Nat.succ_ne_zero, Nat.zero_add, Nat.add_zero, Nat.mul_one, Nat.one_mul, Nat.zero_mul, decide_true, decide_false, Bool.not_true, Bool.not_false, Nat.le_refl, Nat.zero_le, ge_iff_le, gt_iff_lt, Nat.reduceBEq, Nat.reduceBNe, beq_self_eq_true, bne_self_eq_false, Option.isSome_some, Option.isSome_none, Option.getD_some, Option.getD_none, regions_Func_Ends, zqd_0, zqd_1, zqd_2, zqd_3, zqd_4, zqd_5, zqd_6, zqd_7, zqd_8, zqd_9, zqd_10, fnC, insV, cutsV, inC, V.cells, List.length_map, false_implies, true_implies, true_and, and_true, not_true_eq_false, not_false_eq_true, Int.reduceBEq, Int.reduceBNe, Bool.not_true, Bool.not_false, List.cons_append, List.nil_append, ge_iff_le, gt_iff_lt, fnR]))
    refine callPS hT t_regions_Func_is h5 (hn _ ⟨64, 0, 0, 0, 0⟩) 4 ?_
    simp -implicitDefEqProofs (disch := omega) only [go_sem, ↓reduceIte, Nat.reduceAdd, Nat.reduceEqDiff]
    cases b5 with
    | false =>
      simp -implicitDefEqProofs (disch := omega) only [go_sem, Bool.not_false, false_implies, true_implies, and_true, Bool.not_false]
      iterate 9 (try (refine run_sem 4 ?_; simp -implicitDefEqProofs (disch := omega) only [go_sem, ↓reduceIte, Nat.reduceEqDiff, Nat.zero_add, Nat.zero_le, and_true]))
    | true =>
      simp -implicitDefEqProofs (disch := omega) only [go_sem, reduceCtorEq, Bool.not_true, false_implies, true_implies, true_and, Bool.not_true]
      iterate 5 (try (refine run_sem 4 ?_; simp -implicitDefEqProofs (disch := omega) only [go_sem, ↓reduceIte, Nat.reduceAdd, Nat.reduceEqDiff, Nat.reduceLeDiff, Nat.zero_add, V.cells, List.length_map, true_implies, and_true]))
      refine sem_for c (enJ nm pl c F K i) (enE c i) ⟨t + 1, by simp, ?_⟩ (fun k x hx fr σ hJ => en_round hT hl hc hx hJ) (fun k hk fr σ hJ => ?_) (fun e fr σ hE => ?_)
      · simp -implicitDefEqProofs (disch := omega) only [go_sem, ↓reduceIte, Nat.reduceEqDiff, fnC, insV, cutsV, inC, true_and, and_true]
        try simp
      · obtain ⟨t2, hh, f1, f2, f30, f31, f32, rfl⟩ := hJ
        rw [hk, List.drop_length] at hh
        refine W_round [(1, .int .i64 i), (2, .ref (.agg (fnC nm pl c F K)) 0), (30, insV c), (31, .int .i64 c.length), (32, .int .i64 ((k : Nat) : Int))] ⟨f1, f2, f30, f31, f32, trivial⟩  12 ?_
        simp -implicitDefEqProofs (disch := omega) only [go_sem, ↓reduceIte, Nat.reduceEqDiff, decide_false, fnC, insV, cutsV, inC, hk, Nat.lt_irrefl]
        exact .inr ⟨rfl, hh⟩
      · rcases hE with ⟨rfl, hh, f4⟩ | ⟨rfl, hh⟩
        · refine run_sem 12 ?_
          simp -implicitDefEqProofs (disch := omega) only [go_sem, Bool.not_true, Nat.zero_le, and_true, Bool.not_true, f4, hh]
        · refine run_sem 12 ?_
          simp -implicitDefEqProofs (disch := omega) only [go_sem, ↓reduceIte, Bool.not_false, Nat.zero_le, and_true, Bool.not_false, hh]
end Go.Proofs.YtaidbdgndljaeaaGreatDoor
/- Functions: the ways out of an instruction. -/
namespace Go.Proofs.YtaidbdgndljaeaaGreatDoor
open Go Go.Am Go.Rv Go.Rg
set_option maxRecDepth 100000
variable {G : Nat → Option V}
theorem cmpct_two (a b : Int) : cmpct ([a, b].mergeSort fun x y => decide (x ≤ y)) = two a b := by
  have h1 : ([a, b].mergeSort fun x y => decide (x ≤ y)) = if a ≤ b then [a, b] else [b, a] := by
    simp [List.mergeSort, List.MergeSort.Internal.splitInTwo, List.merge]
  rw [h1]
  unfold two
  by_cases h : a ≤ b
  · rw [if_pos h]
    by_cases h2 : a < b
    · rw [if_pos h2, cmpct, if_neg (by omega), cmpct]
    · have : a = b := by omega
      subst this
      rw [if_neg h2, if_neg h2, cmpct, if_pos rfl, cmpct]
  · rw [if_neg h, if_neg (by omega), if_pos (by omega), cmpct, if_neg (by omega), cmpct]
theorem cmpct_one (a : Int) : cmpct ([a].mergeSort fun x y => decide (x ≤ y)) = [a] := by simp [cmpct]
def cutN (n : Nat) (l : List Int) : List Int := l.filter fun k : Int => !(decide (k < 0) || decide ((n : Int) ≤ k))
theorem nx_tail (hT : TabOk Tryz.prog tab) {nm : List UInt8} {pl F : Int} {c : List In} {K : List Int} {out : List Int} {t w : Nat} {X : Option Ob} (ho : out.length ≤ 2) {fr : Fr} {Q : V → H → Prop}
    (hk : ∀ t' cs, namelessL cs = true → Q (.sl 2 w 0 1 (cutN c.length (cmpct (out.mergeSort fun x y => decide (x ≤ y)))).length none) ⟨t', [none, X, some (.arr w 3 (ints (cutN c.length (cmpct (out.mergeSort fun x y => decide (x ≤ y)))) ++ cs))]⟩)
    (f2 : fget fr 2 = .ref (.agg (fnC nm pl c F K)) 0) (f6 : fget fr 6 = .sl 2 w 0 1 out.length none) :
    W Tryz.prog G 59 0 (AC.seq (AC.reg zq7_9 [53, 54])   (AC.seq (AC.reg zq7_10 [55, 56, 57, 58])   AC.ret)) fr ⟨t, [none, X, some (.arr w 3 (ints out))]⟩ (endK G [RV.tmp 4] Q) := by
  have hS := c_SortF (P := Tryz.prog) (G := G) (sortI rfl) (base := 0) (k := 2) (v := w) (T := 3) (t := t) (o := [none, X, some (.arr w 3 (ints out))]) (zs := out) (n := out.length) (lim := none) (Nat.zero_le _) rfl rfl (by omega)
  have hml : (out.mergeSort fun x y => decide (x ≤ y)).length = out.length := by simp
  generalize hq : (out.mergeSort fun x y => decide (x ≤ y)) = q at *
  have hC := c_Compact (G := G) (base := 0) (k := 2) (v := w) (T := 3) (t := t) (o := [none, X, some (.arr w 3 (ints q))]) (zs := q) (Nat.zero_le _) rfl (by omega)
  rw [hml] at hC
  have hcl := cmpct_le q
  refine W_round [(2, .ref (.agg (fnC nm pl c F K)) 0), (6, .sl 2 w 0 1 out.length none)] ⟨f2, f6, trivial⟩  12 ?_
  simp -implicitDefEqProofs (disch := omega) only [go_sem, ↓reduceIte, Nat.reduceEqDiff, zq7_9, zq7_10, fnC, insV, cutsV, inC]
  refine call hT t_slices_Sort_int_int hS 12 fun v σ hv => ?_
  obtain ⟨rfl, rfl⟩ := hv
  simp -implicitDefEqProofs (disch := omega) only [go_sem, ↓reduceIte, Nat.reduceEqDiff]
  refine call hT t_slices_Compact_int_int hC 12 fun v σ hv => ?_
  obtain ⟨rfl, cells, hcn, rfl⟩ := hv
  have hD := c_DeleteFunc (P := Tryz.prog) (G := G) hT (base := 0) (t := t) (g := n_regions_Func_Next_S1) (w := w) (o := [none, X]) (cap := [fnR nm pl c F K]) (cs := cells) hcn (p := fun k => decide (k < 0) || decide ((c.length : Int) ≤ k)) (c := cmpct q) (by simp) (fun w' cs t n hn => CV.of hT t_regions_Func_Next_S1 ((c_NextS1 (P := Tryz.prog) (G := G) hT nm pl F c K n).conseq fun v σ hv => ⟨by
    rw [hv.1]; congr 1; rw [Bool.eq_iff_iff]; simp, t, Nat.le_refl _, hv.2⟩)) (by omega)
  simp only [fnR, fnC, insV, cutsV, inC, List.length_cons, List.length_nil, List.cons_append, List.nil_append] at hD
  simp -implicitDefEqProofs (disch := omega) only [go_sem, ↓reduceIte, Nat.reduceEqDiff]
  refine call hT t_slices_DeleteFunc_int_int hD 12 fun v σ hv => ?_
  obtain ⟨t', cs, _, hcs, rfl, rfl⟩ := hv
  simp -implicitDefEqProofs (disch := omega) only [go_sem, ↓reduceIte, Nat.reduceAdd, Nat.reduceEqDiff, Nat.zero_add]
  exact hk t' cs hcs
theorem next_nth {c : List In} {F i : Int} {x : In} (h : nth c i = some x) : next c F i = if ret c F i || ends c i then [] else cutN c.length (Rg.ways x i) := by unfold next; rw [h]; rfl
theorem c_Next (hT : TabOk Tryz.prog tab) (nm : List UInt8) (pl F : Int) (c : List In) (K : List Int) (i : Int) (hl : c.length ≤ 1000000) (hc : ∀ x ∈ c, InOk x) (hi : -9 ≤ i ∧ i ≤ 2000000) : Am.Pure Tryz.prog G n_regions_Func_Next [.agg (fnC nm pl c F K), .int .i64 i] fun v => v = cutsV (next c F i) := by
  have hR := c_Return (P := Tryz.prog) (G := G) hT nm pl F c K i hl hi
  have hE := c_Ends (P := Tryz.prog) (G := G) hT nm pl F c K i hl hc hi
  have hnl := fn_nl (nm := nm) (pl := pl) (F := F) (c := c) (K := K)
  have hn2 : namelessL [.agg (fnC nm pl c F K), .int .i64 i] = true := by
    simp [namelessL, nameless, hnl]
  simp only [fnC, insV, cutsV, inC] at hR hE hn2
  refine Pure_frz (fun t => ?_) (by simp [cutsV, nameless])
  refine C_tab hT t_regions_Func_Next (by simp [regions_Func_Next]) (W_run 5 ?_)
  simp -implicitDefEqProofs (disch := omega) only [go_sem, ↓reduceIte, reduceCtorEq, Nat.reduceEqDiff, Nat.zero_add, regions_Func_Next, zq7_0, zq7_1, zq7_2, zq7_3, zq7_4, zq7_5, zq7_6, zq7_7, zq7_8, zq7_9, zq7_10, fnC, insV, cutsV, inC, V.cells, and_true, List.nil_append]
  refine sem_shift (Shift.freeze (k := 0) (v := t) (T := 37) (cs := fnC nm pl c F K) (Nat.zero_le _) rfl hnl) ?_
  simp only [fnC, insV, cutsV, inC, frzFr_cons, frzFr_nil, frzL, frzV, mapFrom, List.set_cons_zero, Option.map_none]
  refine run_sem 12 ?_
  by_cases h0 : i < 0
  · have h0' : decide (i < 0) = true := decide_eq_true h0
    have hr : next c F i = [] := by unfold next nth; rw [if_pos h0]
    simp -implicitDefEqProofs (disch := omega) only [go_sem, ↓reduceIte, reduceCtorEq, Nat.reduceEqDiff, decide_true, and_true, h0]
    iterate 9 (try (refine run_sem 4 ?_; simp -implicitDefEqProofs (disch := omega) only [go_sem, ↓reduceIte, reduceCtorEq, Nat.reduceEqDiff, true_and]))
    rw [hr]
    exact .inl (.lst 0 1 [] [] true .nil (.inl rfl))
  have h0' : decide (i < 0) = false := decide_eq_false h0
  obtain ⟨k, rfl⟩ : ∃ k : Nat, i = k := ⟨i.toNat, by omega⟩
  by_cases h1 : c.length ≤ k
  · have h1' : decide ((c.length : Int) ≤ (k : Int)) = true := decide_eq_true (by omega)
    have hr : next c F k = [] := by unfold next; rw [nth_nat, List.getElem?_eq_none h1]
    simp -implicitDefEqProofs (disch := omega) only [go_sem, ↓reduceIte, reduceCtorEq, Nat.reduceAdd, Nat.reduceEqDiff, Nat.reduceLeDiff, Nat.zero_add, decide_false, ge_iff_le, V.cells, List.length_map, true_implies, and_true, ge_iff_le, h0]
    iterate 9 (try (refine run_sem 4 ?_; simp -implicitDefEqProofs (disch := omega) only [go_sem, ↓reduceIte, reduceCtorEq, Nat.reduceEqDiff, decide_true, true_and, h1]))
    rw [hr]
    exact .inl (.lst 0 1 [] [] true .nil (.inl rfl))
  have h1' : decide ((c.length : Int) ≤ (k : Int)) = false := decide_eq_false (by omega)
  have h1'' : ¬ (c.length : Int) ≤ (k : Int) := by omega
  have hlt : k < c.length := by omega
  obtain ⟨x, hx⟩ : ∃ x, c[k]? = some x := ⟨_, List.getElem?_eq_getElem hlt⟩
  have hr := next_nth (F := F) (show nth c (k : Int) = some x by rw [nth_nat]; exact hx)
  simp -implicitDefEqProofs (disch := omega) only [go_sem, ↓reduceIte, reduceCtorEq, Nat.reduceAdd, Nat.reduceEqDiff, Nat.reduceLeDiff, Nat.zero_add, decide_false, ge_iff_le, V.cells, List.length_map, true_implies, and_true, ge_iff_le, h0]
  iterate 3 (try (refine run_sem 4 ?_; simp -implicitDefEqProofs (disch := omega) only [go_sem, ↓reduceIte, reduceCtorEq, Nat.reduceAdd, Nat.reduceEqDiff, Nat.zero_add, decide_false, Nat.le_refl, V.cells, false_implies, and_true, h1]))
  refine callPS hT t_regions_Func_Return hR hn2 4 ?_
  cases hrt : ret c F k with
  | true =>
    rw [hrt] at hr
    simp -implicitDefEqProofs (disch := omega) only [go_sem, ↓reduceIte, reduceCtorEq, Nat.reduceEqDiff]
    iterate 6 (try (refine run_sem 4 ?_; simp -implicitDefEqProofs (disch := omega) only [go_sem, ↓reduceIte, reduceCtorEq, Nat.reduceEqDiff, true_and]))
    rw [hr]
    exact .inl (.lst 0 1 [] [] true .nil (.inl rfl))
  | false =>
    simp -implicitDefEqProofs (disch := omega) only [go_sem, ↓reduceIte, reduceCtorEq, Nat.reduceAdd, Nat.reduceEqDiff, Nat.zero_add, Nat.le_refl, V.cells, false_implies, and_true]
    iterate 1 (try (refine run_sem 4 ?_; simp -implicitDefEqProofs (disch := omega) only [go_sem, ↓reduceIte, reduceCtorEq, Nat.reduceAdd, Nat.reduceEqDiff]))
    refine callPS hT t_regions_Func_Ends hE hn2 2 ?_
    cases hen : ends c k with
    | true =>
      rw [hrt, hen] at hr
      simp -implicitDefEqProofs (disch := omega) only [go_sem, ↓reduceIte, reduceCtorEq, Nat.reduceEqDiff]
      iterate 6 (try (refine run_sem 4 ?_; simp -implicitDefEqProofs (disch := omega) only [go_sem, ↓reduceIte, reduceCtorEq, Nat.reduceEqDiff, true_and]))
      rw [hr]
      exact .inl (.lst 0 1 [] [] true .nil (.inl rfl))
    | false =>
      rw [hrt, hen] at hr
      simp -implicitDefEqProofs (disch := omega) only [go_sem, ↓reduceIte, reduceCtorEq, Nat.reduceEqDiff]
      have hD := ins_getD hx
      simp only [inC] at hD
      refine run_sem 16 ?_
      simp -implicitDefEqProofs (disch := omega) only [go_sem, need_of, ↓reduceIte, reduceCtorEq, Nat.reduceAdd, Nat.reduceEqDiff, Nat.reduceLeDiff, Nat.zero_add, Bool.not_false, Nat.le_refl, Nat.zero_le, V.cells, List.length_map, false_implies, true_implies, and_true, Bool.not_false, List.cons_append, List.nil_append, hD, hlt]
      have hJm := c_jumps (P := Tryz.prog) (G := G) hT x
      have hBr := c_branches (P := Tryz.prog) (G := G) hT x
      have hxo := hc x (List.mem_of_getElem? hx)
      have hi64 : -9223372036854775808 ≤ x.imm ∧ x.imm ≤ 9223372036854775807 := by have := hxo.2.2.2.2; unfold i64 at this; omega
      have h4 := tdiv4 hi64
      have w1 : IntKind.i64.wrap (x.imm.tdiv 4) = x.imm.tdiv 4 := wself (by omega)
      have w2 : IntKind.i64.wrap ((k : Int) + x.imm.tdiv 4) = tgt x k := by rw [wself (by omega)]; rfl
      have w3 : IntKind.i64.wrap ((k : Int) + 1) = (k : Int) + 1 := wself (by omega)
      have hap : ∀ (l : List Int) (y : Int), ints l ++ [V.int .i64 y] = ints (l ++ [y]) := fun l y => by simp [ints]
      simp only [inC] at hJm hBr
      refine sem_shift (Shift.own (s := 6) (z := 0) (sz := 1) (T := 3) (by simp -implicitDefEqProofs (disch := omega) only [go_sem, ↓reduceIte, reduceCtorEq, Nat.reduceEqDiff]) (by decide)) ?_
      simp -implicitDefEqProofs (disch := omega) only [go_sem, ↓reduceIte, reduceCtorEq, Nat.reduceAdd, Nat.reduceEqDiff, Nat.zero_add, H.push]
      refine run_sem 1 ?_
      simp -implicitDefEqProofs (disch := omega) only [go_sem]
      refine sem_cut (fun fr σ => fget fr 1 = .int .i64 (k : Int) ∧ fget fr 2 = .ref (.agg (fnC nm pl c F K)) 0 ∧ fget fr 5 = .ptr 1 (t + 1) 0 ∧ ∃ t2 w, fget fr 6 = .sl 2 w 0 1 (if jumps x then [tgt x k] else []).length none ∧ σ = ⟨t2, [none, some (.arr (t + 1) 47 (inC x)), some (.arr w 3 (ints (if jumps x then [tgt x k] else [])))]⟩) ?_ fun fr σ hJ => ?_
      · refine W_run 6 ?_
        simp -implicitDefEqProofs (disch := omega) only [go_sem, ↓reduceIte, reduceCtorEq, Nat.reduceAdd, Nat.reduceEqDiff, Nat.zero_add, Nat.le_refl, fnC, insV, cutsV, inC, false_implies, and_true]
        refine callPS hT t_regions_jumps hJm rfl 4 ?_
        cases hj : jumps x with
        | false =>
          simp -implicitDefEqProofs (disch := omega) only [go_sem, ↓reduceIte, reduceCtorEq, Nat.reduceEqDiff, true_and]
          iterate 4 (try (refine run_sem 4 ?_; simp -implicitDefEqProofs (disch := omega) only [go_sem, need_of, ↓reduceIte, reduceCtorEq, Nat.reduceAdd, Nat.reduceEqDiff, Nat.reduceLeDiff, Nat.reduceLT, Nat.reduceSub, Nat.reduceMul, Int.reduceToNat, Int.reduceLE, Int.reduceLT, Int.reduceEq, Int.reduceNe, Nat.succ_ne_zero, Nat.zero_add, Nat.add_zero, Nat.mul_one, Nat.one_mul, Nat.zero_mul, decide_true, decide_false, Bool.not_true, Bool.not_false, Nat.le_refl, Nat.zero_le, ge_iff_le, gt_iff_lt, Nat.reduceBEq, Nat.reduceBNe, beq_self_eq_true, bne_self_eq_false, Option.isSome_some, Option.isSome_none, Option.getD_some, Option.getD_none, regions_Func_Next, zq7_0, zq7_1, zq7_2, zq7_3, zq7_4, zq7_5, zq7_6, zq7_7, zq7_8, zq7_9, zq7_10, fnC, insV, cutsV, inC, V.cells, List.length_map, false_implies, true_implies, true_and, and_true, not_true_eq_false, not_false_eq_true, Int.reduceBEq, Int.reduceBNe, Bool.not_true, Bool.not_false, List.cons_append, List.nil_append, ge_iff_le, gt_iff_lt]))
          try simp [ints]
        | true =>
          simp -implicitDefEqProofs (disch := omega) only [go_sem, ↓reduceIte, reduceCtorEq, Nat.reduceEqDiff, Nat.zero_add]
          iterate 4 (try (refine run_sem 4 ?_; simp -implicitDefEqProofs (disch := omega) only [go_sem, ↓reduceIte, reduceCtorEq, Nat.reduceAdd, Nat.reduceEqDiff, Nat.reduceLeDiff, Int.reduceEq, Nat.zero_add, Nat.add_zero, Nat.mul_one, Nat.one_mul, Bool.not_true, Nat.le_refl, Nat.zero_le, V.cells, true_implies, true_and, and_true, not_false_eq_true, Bool.not_true, List.cons_append, List.nil_append, w1, w2]))
          try simp [ints]
      obtain ⟨f1, f2, f5, t2, w, f6, rfl⟩ := hJ
      refine run_sem 1 ?_
      simp -implicitDefEqProofs (disch := omega) only [go_sem, inC]
      have hbj : branches x = true → jumps x = true := fun h => by unfold jumps; rw [h]; rfl
      have hway : Rg.ways x k = cmpct (((if jumps x then [tgt x k] else []) ++ (if branches x || !jumps x then [(k : Int) + 1] else [])).mergeSort fun a b => decide (a ≤ b)) := by
        unfold Rg.ways
        cases hb : branches x with
        | true => rw [hbj hb]; exact (cmpct_two _ _).symm
        | false =>
          cases hj : jumps x with
          | true => exact (cmpct_one _).symm
          | false => exact (cmpct_one _).symm
      have hlen : ((if jumps x then [tgt x k] else []) ++ (if branches x || !jumps x then [(k : Int) + 1] else [])).length ≤ 2 := by
        rw [List.length_append]; split <;> split <;> simp
      generalize ho1 : (if jumps x then [tgt x k] else []) = o1 at *
      have hl1 : o1.length ≤ 2 := by rw [List.length_append] at hlen; omega
      refine sem_cut (fun fr σ => fget fr 2 = .ref (.agg (fnC nm pl c F K)) 0 ∧ ∃ t3 w, fget fr 6 = .sl 2 w 0 1 (o1 ++ (if branches x || !jumps x then [(k : Int) + 1] else [])).length none ∧ σ = ⟨t3, [none, some (.arr (t + 1) 47 (inC x)), some (.arr w 3 (ints (o1 ++ (if branches x || !jumps x then [(k : Int) + 1] else []))))]⟩) ?_ fun fr σ hJ => ?_
      · have hsn : o1.length + 1 = (o1 ++ [(k : Int) + 1]).length := by simp
        have hb1 : o1.length + 1 ≤ 9223372036854775807 := by omega
        refine W_round [(1, .int .i64 (k : Int)), (2, .ref (.agg (fnC nm pl c F K)) 0), (5, .ptr 1 (t + 1) 0), (6, .sl 2 w 0 1 o1.length none)] ⟨f1, f2, f5, f6, trivial⟩  6 ?_
        simp -implicitDefEqProofs (disch := omega) only [go_sem, ↓reduceIte, reduceCtorEq, Nat.reduceAdd, Nat.reduceEqDiff, Nat.zero_add, Nat.le_refl, fnC, insV, cutsV, inC, false_implies, and_true]
        refine callPS hT t_regions_branches hBr rfl 4 ?_
        cases hb : branches x with
        | true =>
          simp -implicitDefEqProofs (disch := omega) only [go_sem, ↓reduceIte, Nat.reduceEqDiff]
          iterate 6 (try (refine run_sem 4 ?_; simp -implicitDefEqProofs (disch := omega) only [go_sem, need_of, ↓reduceIte, reduceCtorEq, Nat.reduceEqDiff, Nat.reduceLeDiff, Nat.zero_add, Nat.mul_one, Bool.not_true, Nat.le_refl, Nat.zero_le, V.cells, true_and, and_true, Bool.not_true, List.cons_append, List.nil_append, w3, hap, ints_length]))
          try simp []
        | false =>
          simp -implicitDefEqProofs (disch := omega) only [go_sem, ↓reduceIte, reduceCtorEq, Nat.reduceAdd, Nat.reduceEqDiff, Nat.zero_add, Nat.le_refl, false_implies, and_true]
          iterate 1 (try (refine run_sem 4 ?_; simp -implicitDefEqProofs (disch := omega) only [go_sem, need_of, ↓reduceIte, reduceCtorEq, Nat.reduceAdd, Nat.reduceEqDiff, Nat.reduceLeDiff, Nat.reduceLT, Nat.reduceSub, Nat.reduceMul, Int.reduceToNat, Int.reduceLE, Int.reduceLT, Int.reduceEq, Int.reduceNe, Nat.succ_ne_zero, Nat.zero_add, Nat.add_zero, Nat.mul_one, Nat.one_mul, Nat.zero_mul, decide_true, decide_false, Bool.not_true, Bool.not_false, Nat.le_refl, Nat.zero_le, ge_iff_le, gt_iff_lt, Nat.reduceBEq, Nat.reduceBNe, beq_self_eq_true, bne_self_eq_false, Option.isSome_some, Option.isSome_none, Option.getD_some, Option.getD_none, regions_Func_Next, zq7_0, zq7_1, zq7_2, zq7_3, zq7_4, zq7_5, zq7_6, zq7_7, zq7_8, zq7_9, zq7_10, fnC, insV, cutsV, inC, V.cells, List.length_map, false_implies, true_implies, true_and, and_true, not_true_eq_false, not_false_eq_true, Int.reduceBEq, Int.reduceBNe, Bool.not_true, Bool.not_false, List.cons_append, List.nil_append, ge_iff_le, gt_iff_lt]))
          refine callPS hT t_regions_jumps hJm rfl 4 ?_
          cases hj : jumps x with
          | true =>
            simp -implicitDefEqProofs (disch := omega) only [go_sem, ↓reduceIte, reduceCtorEq, Nat.reduceAdd, Nat.reduceEqDiff, Bool.not_true, Bool.not_true]
            iterate 6 (try (refine run_sem 4 ?_; simp -implicitDefEqProofs (disch := omega) only [go_sem, ↓reduceIte, Nat.reduceEqDiff, true_and]))
            try simp []
          | false =>
            simp -implicitDefEqProofs (disch := omega) only [go_sem, ↓reduceIte, Nat.reduceAdd, Nat.reduceEqDiff, Bool.not_false, Bool.not_false]
            iterate 6 (try (refine run_sem 4 ?_; simp -implicitDefEqProofs (disch := omega) only [go_sem, need_of, ↓reduceIte, reduceCtorEq, Nat.reduceEqDiff, Nat.reduceLeDiff, Nat.zero_add, Nat.mul_one, Bool.not_true, Nat.le_refl, Nat.zero_le, V.cells, true_and, and_true, Bool.not_true, List.cons_append, List.nil_append, w3, hap, ints_length]))
            try simp []
      obtain ⟨f2, t3, w, f6, rfl⟩ := hJ
      refine nx_tail hT hlen (fun t' cs hcs => ?_) f2 f6
      rw [← hway]
      rw [if_neg (by simp [])] at hr
      rw [hr]
      have hfz : frzV 2 w (ints (cutN c.length (Rg.ways x k)) ++ cs) (.sl 2 w 0 1 (cutN c.length (Rg.ways x k)).length none) = cutsV (cutN c.length (Rg.ways x k)) := by
        have hle : (cutN c.length (Rg.ways x k)).length ≤ (ints (cutN c.length (Rg.ways x k))).length + cs.length := by rw [ints_length]; omega
        simp [frzV, rowsV, cutsV, List.take_left' (ints_length _), hle]
      refine .inr ⟨2, w, 3, _, rfl, ?_, ?_, ?_⟩
      · rw [namelessL_append, ints_nameless, hcs]; rfl
      · rw [hfz]; simp [cutsV, nameless]
      · rw [hfz]; exact .refl _
end Go.Proofs.YtaidbdgndljaeaaGreatDoor
/- Plain: a function behind another one; who is called. -/
namespace Go.Rg
open Go Go.Am Go.Rv
set_option maxRecDepth 100000
def encs (l : List In) : List Int := l.filterMap fun x => if (enc T x).2 = 0 then some (enc T x).1 else none
def nameAt (i : Nat) : List UInt8 := [102, UInt8.ofNat (97 + i % 26), UInt8.ofNat (97 + i / 26)]
def imgOn (m : Im) (l : List In) : Im := ⟨m.data, m.syms ++ [(nameAt m.syms.length, 4 * (m.code.length : Int))], m.code ++ encs l⟩
def imgS (ls : List (List In)) (d : Int) : Im := ls.foldl imgOn ⟨d, [], []⟩
def noCall (x : In) : Prop := ¬ (x.op = 3 ∧ x.rd = 1)
theorem targetOk_free {ats ats' : List Int} {pl pl' : Int} {c : List In} {F : Int} {i : Nat} {x : In} (h : noCall x) : targetOk ats pl c F i x = targetOk ats' pl' c F i x := by
  unfold targetOk
  by_cases hj : jumps x = true
  · rw [if_pos hj, if_pos hj]
  · rw [if_neg hj, if_neg hj]
    by_cases ho : x.op = 3
    · rw [if_pos ho, if_pos ho]
      have : ¬ x.rd = 1 := fun e => h ⟨ho, e⟩
      simp [this]
    · rw [if_neg ho, if_neg ho]
theorem faultOf_free {ats ats' : List Int} {pl pl' : Int} {c : List In} {F : Int} {i : Nat} {x : In} (h : noCall x) : faultOf ats pl c F i x = faultOf ats' pl' c F i x := by
  unfold faultOf
  rw [targetOk_free (ats := ats) (ats' := ats') (pl := pl) (pl' := pl') h]
theorem faultAt_free {ats ats' : List Int} {pl pl' : Int} {c : List In} {F : Int} : ∀ {i : Nat} {ws : List Int}, (∀ w ∈ ws, ∀ x, dec w = some x → noCall x) → faultAt ats pl c F i ws = faultAt ats' pl' c F i ws
  | _, [], _ => rfl
  | i, w :: l, h => by
    unfold faultAt
    cases hd : dec w with
    | none => rfl
    | some x =>
      have hn := h w (by simp) x hd
      simp only []
      rw [faultOf_free (ats := ats) (ats' := ats') (pl := pl) (pl' := pl') hn, faultAt_free (ats := ats) (ats' := ats') (pl := pl) (pl' := pl') fun w hw => h w (List.mem_cons_of_mem _ hw)]
structure InOk' (x : In) : Prop where
  rd : 0 ≤ x.rd
  rs1 : 0 ≤ x.rs1
  rs2 : 0 ≤ x.rs2
theorem dec_encs {l : List In} (hl : ∀ x ∈ l, InOk' x) : ∀ w ∈ encs l, ∃ x ∈ l, dec w = some x ∧ enc T x = (w, 0) := fun w hw => by
  unfold encs at hw
  obtain ⟨x, hx, he⟩ := List.mem_filterMap.1 hw
  split at he
  · rename_i h0
    injection he with he
    have := hl x hx
    have he' : enc T x = (w, 0) := by rw [← he, ← h0]
    exact ⟨x, hx, (dec_enc he' this.rd this.rs1 this.rs2).2.2, he'⟩
  · cases he
theorem encs_all {l : List In} (h : ∀ x ∈ l, (enc T x).2 = 0) : encs l = l.map fun x => (enc T x).1 := by
  induction l with
  | nil => rfl
  | cons x l ih =>
    unfold encs at ih ⊢
    rw [List.filterMap_cons, if_pos (h x (by simp)), List.map_cons, ih fun y hy => h y (List.mem_cons_of_mem _ hy)]
theorem codeOf_encs {l : List In} (hl : ∀ x ∈ l, InOk' x) (h : ∀ x ∈ l, (enc T x).2 = 0) : codeOf (encs l) = l := by
  rw [encs_all h]
  unfold codeOf
  rw [List.map_map]
  conv => rhs; rw [← List.map_id l]
  refine List.map_congr_left fun x hx => ?_
  have hk := hl x hx
  have he : enc T x = ((enc T x).1, 0) := by rw [← h x hx]
  have := (dec_enc he hk.rd hk.rs1 hk.rs2).2.2
  show ((first (enc T x).1 0 T).getD zeroI) = x
  rw [this]; rfl
theorem imgS_one (l : List In) (d : Int) : imgS [l] d = ⟨d, [(nameAt 0, 0)], encs l⟩ := by simp [imgS, imgOn]
theorem imgS_two (a l : List In) (d : Int) : imgS [a, l] d = ⟨d, [(nameAt 0, 0), (nameAt 1, 4 * (encs a).length)], encs a ++ encs l⟩ := by simp [imgS, imgOn]
theorem encs_le (l : List In) : (encs l).length ≤ l.length := List.length_filterMap_le _ _
theorem words_one {d : Int} {nm : List UInt8} {ws : List Int} : words ⟨d, [(nm, 0)], ws⟩ 0 = ws := by
  unfold words from_ to_ ats
  simp only [List.map_cons, List.map_nil, List.getD_cons_zero, List.length_cons, List.length_nil]
  rw [if_neg (by omega), Int.tdiv_eq_ediv_of_nonneg (by omega), Int.tdiv_eq_ediv_of_nonneg (by omega)]
  have : ((4 * (ws.length : Int)) / 4).toNat = ws.length := by omega
  rw [this]
  simp
theorem words_two0 {d : Int} {n0 n1 : List UInt8} {a b : List Int} : words ⟨d, [(n0, 0), (n1, 4 * a.length)], a ++ b⟩ 0 = a := by
  unfold words from_ to_ ats
  simp only [List.map_cons, List.map_nil, List.getD_cons_zero, List.length_cons, List.length_nil, List.getD_cons_succ]
  rw [if_pos (by omega), Int.tdiv_eq_ediv_of_nonneg (by omega), Int.tdiv_eq_ediv_of_nonneg (by omega)]
  have : ((4 * (a.length : Int)) / 4).toNat = a.length := by omega
  rw [this]
  simp
theorem words_two1 {d : Int} {n0 n1 : List UInt8} {a b : List Int} : words ⟨d, [(n0, 0), (n1, 4 * a.length)], a ++ b⟩ 1 = b := by
  unfold words from_ to_ ats
  simp only [List.map_cons, List.map_nil, List.getD_cons_zero, List.length_cons, List.length_nil, List.getD_cons_succ]
  rw [if_neg (by omega), Int.tdiv_eq_ediv_of_nonneg (by omega), Int.tdiv_eq_ediv_of_nonneg (by omega)]
  have e1 : ((4 * (a.length : Int)) / 4).toNat = a.length := by omega
  have e2 : ((4 * ((a ++ b).length : Int)) / 4).toNat = a.length + b.length := by rw [List.length_append]; omega
  rw [e1, e2]
  simp
theorem moved {l a : List In} (hl : ∀ x ∈ l, InOk' x) (he : ∀ x ∈ l, (enc T x).2 = 0 ∧ noCall x) (h0 : 0 < l.length) (h1 : l.length ≤ 60) (ha : a.length ≤ 60) :
    match ofS (imgS [l] 0), ofS (imgS [a, l] 0) with
    | .inr _, .inr _ => True
    | .inr _, .inl _ => False
    | .inl r, .inr (n, _, e) => r.length = 1 ∧ (n = 0 ∨ e = 2)
    | .inl r, .inl q => ∃ f g h : Fn, r = [f] ∧ q = [g, h] ∧ h = { f with name := h.name, pl := 4 * g.code.length } ∧ f.code = l := by
  have hw : ∀ w ∈ encs l, ∀ x, dec w = some x → noCall x := fun w hw x hx => by
    obtain ⟨y, hy, h1, _⟩ := dec_encs hl w hw
    rw [hx] at h1; injection h1 with h1; subst h1
    exact (he x hy).2
  have hcode := codeOf_encs hl fun x hx => (he x hx).1
  have hlen : (encs l).length = l.length := by rw [encs_all fun x hx => (he x hx).1]; simp
  have hle := encs_le a
  have hlc : (codeOf (encs a)).length = (encs a).length := by simp [codeOf]
  rw [imgS_one, imgS_two]
  have hr1 : right ⟨0, [(nameAt 0, 0)], encs l⟩ = true := by
    have e1 : (decide (1 ≤ (encs l).length)) = true := by simp; omega
    have e2 : (decide ((encs l).length ≤ 262144)) = true := by simp; omega
    have e3 : (decide ((0 : Int) < 4 * ((encs l).length : Int))) = true := by simp; omega
    simp only [right, symsOk, symOk, e1, e2, e3, List.map_cons, List.map_nil, List.length_cons, List.length_nil]
    rfl
  unfold ofS
  rw [if_pos hr1]
  simp only [readAll, words_one]
  have hfree := fun (ats ats' : List Int) (pl pl' : Int) => faultAt_free (ats := ats) (ats' := ats') (pl := pl) (pl' := pl') (c := codeOf (encs l)) (F := frameC (codeOf (encs l))) (i := 0) hw
  cases hr2 : right ⟨0, [(nameAt 0, 0), (nameAt 1, 4 * (encs a).length)], encs a ++ encs l⟩ with
  | false =>
    simp only [Bool.false_eq_true, if_false]
    cases h : readS (ats ⟨0, [(nameAt 0, 0)], encs l⟩) (nameAt 0) 0 (encs l) with
    | inl f => simp
    | inr e => simp
  | true =>
    simp only [if_true, words_two0, words_two1, Nat.zero_add]
    cases hA : readS (ats ⟨0, [(nameAt 0, 0), (nameAt 1, 4 * (encs a).length)], encs a ++ encs l⟩) (nameAt 0) 0 (encs a) with
    | inr e =>
      simp only
      cases h : readS (ats ⟨0, [(nameAt 0, 0)], encs l⟩) (nameAt 0) 0 (encs l) with
      | inl f => simp
      | inr e => simp
    | inl g =>
      have hg := (readS_good hA).1
      simp only
      unfold readS
      rw [hfree (ats ⟨0, [(nameAt 0, 0), (nameAt 1, 4 * (encs a).length)], encs a ++ encs l⟩) (ats ⟨0, [(nameAt 0, 0)], encs l⟩) (4 * (encs a).length) 0]
      cases faultAt (ats ⟨0, [(nameAt 0, 0)], encs l⟩) 0 (codeOf (encs l)) (frameC (codeOf (encs l))) 0 (encs l) with
      | some e => simp
      | none =>
        simp only
        refine ⟨fnOf (nameAt 0) 0 (encs l), g, fnOf (nameAt 1) (4 * (encs a).length) (encs l), rfl, rfl, ?_, hcode⟩
        rw [hg]
        simp only [fnOf, hlc]
end Go.Rg
/- Plain: a way that is gone, and what was seen on it. -/
namespace Go.Rg
open Go Go.Am Go.Rv
structure Tr (c : List In) (F at_ : Int) (l : List Int) : Prop where
  way : Way c F (at_ :: l)
  mid : ∀ x ∈ l.dropLast, x ∉ cuts c F
  start : ∀ s, (at_ :: l).getLast? = some s → s = 0 ∨ s ∈ cuts c F
theorem Tr.first {c : List In} {F : Int} : Tr c F 0 [] := ⟨trivial, fun x hx => by simp at hx, fun s hs => by simp at hs; exact .inl hs.symm⟩
theorem Tr.again {c : List In} {F a : Int} (h : a ∈ cuts c F) : Tr c F a [] := ⟨trivial, fun x hx => by simp at hx, fun s hs => by simp at hs; subst hs; exact .inr h⟩
theorem Tr.fresh {c : List In} {F a : Int} {l : List Int} (h0 : ∀ i, (0 : Int) ∉ next c F i) (h : Tr c F a l) (ha : a ∉ cuts c F) : a ∉ l := by
  rcases List.eq_nil_or_concat l with rfl | ⟨m, s, rfl⟩
  · simp
  · rw [List.concat_eq_append] at *
    have hw := way_once h0 (a :: m) s h.way (fun x hx => ?_) (h.start s (by rw [← List.cons_append]; exact List.getLast?_concat))
    · rw [List.cons_append, List.nodup_cons] at hw; exact hw.1
    · rcases List.mem_cons.1 hx with rfl | hx
      · exact ha
      · exact h.mid x (by simpa using hx)
end Go.Rg
