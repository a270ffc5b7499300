/- The law ValueKnown: its first loop. -/
import Derived.Test.YtfligilbnpcnaaaGreatDoorB11
import Derived.Test.YtfligilbnpcnaaaGreatDoorX3
import Derived.Test.YtfligilbnpcnaaaGreatDoorAmD
import Derived.KernelRfl
/- The law ValueKnown: its first loop. -/
namespace Go.Proofs.YtfligilbnpcnaaaGreatDoor
open Go Go.Am
set_option maxRecDepth 100000
set_option maxHeartbeats 1000000
variable {P : Program} {G : Nat → Option V}

def bin1 (j : Nat) : Nd := ⟨4, 0, 0, 1, j, j⟩
def bins (i : Nat) : List Nd := ⟨2, 0, 0, 0, 0, 0⟩ :: (List.range i).map bin1
theorem bins_len (i : Nat) : (bins i).length = i + 1 := by simp [bins]
theorem bins_snoc (i : Nat) : ndC (bins i) ++ [V.int .u8 4, .int .i64 0, .int .i64 0, .int .u8 1, .int .i64 (i : Int), .int .i64 (i : Int)] = ndC (bins (i + 1)) := by
  simp [bins, List.range_succ, ndC, Nd.cells, bin1]
theorem chunk_ndCz : ∀ ns : List Nd, chunkV 6 ns.length (ndC ns) = ns.map fun d => .agg d.cells
  | [] => rfl
  | d :: ns => by
    have h : ndC (d :: ns) = d.cells ++ ndC ns := by simp [ndC]
    rw [h, List.length_cons, chunkV, List.map_cons, ← chunk_ndCz ns]
    rfl
theorem fz_ndC {k r : Nat} {B : List Nd} : frzV k r (ndC B) (.sl k r 0 6 B.length none) = .lst 6 (B.map fun d => .agg d.cells) false := by
  have h := ndC_length B
  rw [frzV, if_pos ⟨rfl, rfl⟩, if_pos ⟨by omega, by omega⟩, rowsV, if_neg (by omega), List.drop_zero, chunk_ndCz]
theorem vk0 {t : Nat} {Q : AE → Fr → H → Prop} {fr : Fr} (f1 : fget fr 1 = .lst 6 [.agg [.int .u8 2, .int .i64 0, .int .i64 0, .int .u8 0, .int .i64 0, .int .i64 0]] true) (f2 : fget fr 2 = .int .i64 0)
    (hQ : ∀ fr t' r, fget fr 1 = .sl 0 r 0 6 61 none → Q (.ex 0) fr ⟨t', [some (.arr r 50 (ndC (bins 60)))]⟩) :
    W P G 101 0 (.loop (AC.seq (AC.seq (AC.reg zq1_3 [15])   (AC.cond (Arg.t 16)   AC.skip   (AC.exit 0)))   (AC.seq (AC.block 1 (AC.reg zq1_4 [19, 20, 21, 22, 23, 24]))   (AC.reg zq1_5 [17, 18])))) fr ⟨t, []⟩ Q := by
  refine sem_upto (s := []) 60 (fun i fr σ => (i = 0 ∧ fget fr 1 = .lst 6 [.agg [.int .u8 2, .int .i64 0, .int .i64 0, .int .u8 0, .int .i64 0, .int .i64 0]] true ∧ fget fr 2 = .int .i64 0 ∧ σ = ⟨t, []⟩) ∨ (∃ t' r, fget fr 1 = .sl 0 r 0 6 (i + 1) none ∧ fget fr 2 = .int .i64 ((i : Nat) : Int) ∧ σ = ⟨t', [some (.arr r 50 (ndC (bins i)))]⟩))
    (fun e fr σ => e = .ex 0 ∧ ∃ t' r, fget fr 1 = .sl 0 r 0 6 61 none ∧ σ = ⟨t', [some (.arr r 50 (ndC (bins 60)))]⟩)
    (.inl ⟨rfl, f1, f2, rfl⟩) (fun i hi fr σ hJ => ?_) (fun i hi fr σ hJ => ?_) (fun e fr σ hE => ?_)
  · clear f1 f2
    have hki : (i : Int) < 60 := by omega
    have e2 : IntKind.i64.wrap ((i : Int) + 1) = ((i + 1 : Nat) : Int) := w_nx hi (by omega)
    have hs := bins_snoc i
    have hl : (ndC (bins i)).length = (i + 1) * 6 := by rw [ndC_length, bins_len]
    rcases hJ with ⟨rfl, f1, f2, rfl⟩ | ⟨t', r, f1, f2, rfl⟩
    · refine W_round [(1, .lst 6 [.agg [.int .u8 2, .int .i64 0, .int .i64 0, .int .u8 0, .int .i64 0, .int .i64 0]] true), (2, .int .i64 0)] ⟨f1, f2, trivial⟩ 1000 ?_
      simp -implicitDefEqProofs (disch := omega) only [go_sem, ↓reduceIte, reduceCtorEq, Nat.reduceAdd, Nat.reduceEqDiff, Nat.reduceLeDiff, Nat.reduceLT, Nat.reduceMul, Int.reduceLT, Nat.succ_ne_zero, Nat.zero_add, decide_true, Nat.le_refl, zq1_3, zq1_4, zq1_5, List.length_cons, List.length_nil, and_true, List.cons_append, List.nil_append]
      exact ⟨_, _, Shift.refl _ _ _ _, t + 1, t, rfl, rfl, rfl⟩
    · refine W_round [(1, .sl 0 r 0 6 (i + 1) none), (2, .int .i64 ((i : Nat) : Int))] ⟨f1, f2, trivial⟩ 1000 ?_
      simp -implicitDefEqProofs (disch := omega) only [go_sem, need_of, ↓reduceIte, reduceCtorEq, Nat.reduceAdd, Nat.reduceEqDiff, Nat.reduceLeDiff, Nat.succ_ne_zero, Nat.zero_add, decide_true, Bool.not_true, Nat.le_refl, zq1_3, zq1_4, zq1_5, List.length_cons, List.length_nil, true_and, and_true, List.cons_append, List.nil_append, List.set_cons_zero, hki, hl, e2, hs]
      exact ⟨_, _, Shift.refl _ _ _ _, t' + 1, t', rfl, rfl, rfl⟩
  · have hki : ¬ (i : Int) < 60 := by omega
    rcases hJ with ⟨h0, _⟩ | ⟨t', r, f1, f2, rfl⟩
    · omega
    · refine W_round [(1, .sl 0 r 0 6 (i + 1) none), (2, .int .i64 ((i : Nat) : Int))] ⟨f1, f2, trivial⟩ 1000 ?_
      simp -implicitDefEqProofs (disch := omega) only [go_sem, ↓reduceIte, Nat.reduceEqDiff, decide_false, zq1_3, zq1_4, zq1_5, true_and, hki]
      rw [hi]
      exact ⟨t', r, rfl, rfl, rfl⟩
  · obtain ⟨rfl, t', r, f1, rfl⟩ := hE
    exact hQ fr t' r f1
end Go.Proofs.YtfligilbnpcnaaaGreatDoor

/- The law ValueKnown: its loops. -/
namespace Go.Proofs.YtfligilbnpcnaaaGreatDoor
open Go Go.Am
set_option maxRecDepth 100000
set_option maxHeartbeats 1000000
variable {P : Program} {G : Nat → Option V}

def cls5 : List Cl := [⟨0, 0, 1, 10⟩, ⟨0, 0, 1, 11⟩, ⟨0, 1, 1, 12⟩, ⟨1, 0, 1, 13⟩, ⟨0, 0, 2, 14⟩]
abbrev envK : V := .agg [.lst 1 (nints [1, 2]) true, .lst 4 (cls5.map Cl.v) true]
theorem of61 : ofV [3] [] (madeL (bins 60)) 60 = .tup [.int .i64 3458764513820540928, .bool true] := by kernel_rfl
def five (k a : Int) : List Nd := [⟨2, 0, 0, 0, 0, 0⟩, ⟨3, if 0 < k then k else 0, if 0 < a then a else 0, 0, 0, 0⟩, ⟨3, 0, 0, 0, 0, 1⟩, ⟨1, k, 0, 0, 0, 0⟩, ⟨3, 0, 0, 0, 0, 3⟩]
theorem vk2 (hT : TabOk P tab) {t k : Nat} (hk : k < 5) (hVO : ∀ k a : Int, i64 k → i64 a → Pure P G n_proofmarklaw03_ValueOf [.lst 6 ((five k a).map fun d => .agg d.cells) true, envK, .int .i64 k, .int .i64 k, .int .i64 a, .int .i64 a] fun v => v = .bool true) {Q : AE → Fr → H → Prop} {fr : Fr} {i : Nat} (hi0 : i = 0) (hJ0 : fget fr 1 = .lst 6 ((bins 60).map fun d => .agg d.cells) false ∧ fget fr 7 = .ref envK 0 ∧ fget fr 8 = .int .i64 (((k : Nat) : Int) - 1) ∧ fget fr 9 = .int .i64 (((i : Nat) : Int) - 1))
    (hQ : ∀ fr i, fget fr 1 = .lst 6 ((bins 60).map fun d => .agg d.cells) false ∧ fget fr 7 = .ref envK 0 ∧ fget fr 8 = .int .i64 (((k : Nat) : Int) - 1) ∧ fget fr 9 = .int .i64 (((i : Nat) : Int) - 1) → Q (.ex 4) fr ⟨t, []⟩) :
    W P G 101 0 (.loop (AC.seq (AC.seq (AC.reg zq1_14 [55])   (AC.cond (Arg.t 56)   AC.skip   (AC.exit 4)))   (AC.seq (AC.block 5 (AC.seq (AC.reg zq1_15 [59, 60, 61, 62, 63, 64, 65, 66, 67, 68, 69, 70, 71, 72, 73, 74, 75])   (AC.cond (Arg.t 76)   (AC.seq (AC.reg zq1_16 [])   AC.ret)   AC.skip)))   (AC.reg zq1_17 [57, 58])))) fr ⟨t, []⟩ Q := by
  subst hi0
  obtain ⟨f1, f7, f8, f9⟩ := hJ0
  refine sem_upto (s := []) 4 (fun i fr σ => fget fr 1 = .lst 6 ((bins 60).map fun d => .agg d.cells) false ∧ fget fr 7 = .ref envK 0 ∧ fget fr 8 = .int .i64 (((k : Nat) : Int) - 1) ∧ fget fr 9 = .int .i64 (((i : Nat) : Int) - 1) ∧ σ = ⟨t, []⟩) (fun e fr σ => e = .ex 4 ∧ (∃ i, fget fr 1 = .lst 6 ((bins 60).map fun d => .agg d.cells) false ∧ fget fr 7 = .ref envK 0 ∧ fget fr 8 = .int .i64 (((k : Nat) : Int) - 1) ∧ fget fr 9 = .int .i64 (((i : Nat) : Int) - 1)) ∧ σ = ⟨t, []⟩)
    ⟨f1, f7, f8, f9, rfl⟩ (fun i hi fr σ hJ => ?_) (fun i hi fr σ hJ => ?_) (fun e fr σ hE => ?_)
  · clear f1 f7 f8 f9
    obtain ⟨f1, f7, f8, f9, rfl⟩ := hJ
    have hki : (i : Int) - 1 < 3 := by omega
    have e2 : IntKind.i64.wrap ((i : Int) - 1 + 1) = ((i + 1 : Nat) : Int) - 1 := by rw [IntKind.wrap_i64]; omega
    have hV := hVO ((k : Int) - 1) ((i : Int) - 1) (by unfold i64; omega) (by unfold i64; omega)
    refine W_round [(1, .lst 6 ((bins 60).map fun d => .agg d.cells) false), (7, .ref envK 0), (8, .int .i64 (((k : Nat) : Int) - 1)), (9, .int .i64 (((i : Nat) : Int) - 1))] ⟨f1, f7, f8, f9, trivial⟩  1000 ?_
    simp -implicitDefEqProofs (disch := omega) only [go_sem, ↓reduceIte, reduceCtorEq, Nat.reduceAdd, Nat.reduceEqDiff, Nat.reduceLeDiff, Nat.zero_add, decide_true, Nat.le_refl, gt_iff_lt, zq1_14, zq1_15, zq1_16, zq1_17, List.length_cons, List.length_nil, false_implies, and_true, List.cons_append, List.nil_append, hki]
    refine callPS hT t_proofmarklaw03_ValueOf hV rfl 1000 ?_
    simp -implicitDefEqProofs (disch := omega) only [go_sem, ↓reduceIte, Nat.reduceEqDiff, Bool.not_true, e2]
    refine ⟨_, _, Shift.refl _ _ _ _, ?_⟩
    simp -implicitDefEqProofs (disch := omega) only [go_sem, ↓reduceIte, Nat.reduceEqDiff]
  · obtain ⟨f1, f7, f8, f9, rfl⟩ := hJ
    have hki : ¬ (i : Int) - 1 < 3 := by omega
    refine W_round [(1, .lst 6 ((bins 60).map fun d => .agg d.cells) false), (7, .ref envK 0), (8, .int .i64 (((k : Nat) : Int) - 1)), (9, .int .i64 (((i : Nat) : Int) - 1))] ⟨f1, f7, f8, f9, trivial⟩  1000 ?_
    simp -implicitDefEqProofs (disch := omega) only [go_sem, ↓reduceIte, Nat.reduceEqDiff, decide_false, zq1_14, zq1_15, zq1_16, zq1_17, true_and, and_true, hki]
    exact ⟨i, rfl⟩
  · obtain ⟨rfl, ⟨i, f1, f7, f8, f9⟩, rfl⟩ := hE
    exact hQ fr i ⟨f1, f7, f8, f9⟩
end Go.Proofs.YtfligilbnpcnaaaGreatDoor

/- The law ValueKnown. -/
namespace Go.Proofs.YtfligilbnpcnaaaGreatDoor
open Go Go.Am
set_option maxRecDepth 100000
set_option maxHeartbeats 1000000
variable {P : Program} {G : Nat → Option V}

theorem vk1 (hT : TabOk P tab) {t : Nat} (hVO : ∀ k a : Int, i64 k → i64 a → Pure P G n_proofmarklaw03_ValueOf [.lst 6 ((five k a).map fun d => .agg d.cells) true, envK, .int .i64 k, .int .i64 k, .int .i64 a, .int .i64 a] fun v => v = .bool true) {Q : AE → Fr → H → Prop} {fr : Fr} {k : Nat} (hk0 : k = 0) (hJ0 : fget fr 1 = .lst 6 ((bins 60).map fun d => .agg d.cells) false ∧ fget fr 7 = .ref envK 0 ∧ fget fr 8 = .int .i64 (((k : Nat) : Int) - 1))
    (hQ : ∀ fr k, fget fr 1 = .lst 6 ((bins 60).map fun d => .agg d.cells) false ∧ fget fr 7 = .ref envK 0 ∧ fget fr 8 = .int .i64 (((k : Nat) : Int) - 1) → Q (.ex 2) fr ⟨t, []⟩) :
    W P G 101 0 (.loop (AC.seq (AC.seq (AC.reg zq1_12 [51])   (AC.cond (Arg.t 52)   AC.skip   (AC.exit 2)))   (AC.seq (AC.block 3 (AC.seq (AC.reg zq1_13 [])   (AC.block 4 (AC.loop (AC.seq (AC.seq (AC.reg zq1_14 [55])   (AC.cond (Arg.t 56)   AC.skip   (AC.exit 4)))   (AC.seq (AC.block 5 (AC.seq (AC.reg zq1_15 [59, 60, 61, 62, 63, 64, 65, 66, 67, 68, 69, 70, 71, 72, 73, 74, 75])   (AC.cond (Arg.t 76)   (AC.seq (AC.reg zq1_16 [])   AC.ret)   AC.skip)))   (AC.reg zq1_17 [57, 58])))))))   (AC.reg zq1_18 [53, 54])))) fr ⟨t, []⟩ Q := by
  subst hk0
  obtain ⟨f1, f7, f8⟩ := hJ0
  refine sem_upto (s := []) 5 (fun k fr σ => fget fr 1 = .lst 6 ((bins 60).map fun d => .agg d.cells) false ∧ fget fr 7 = .ref envK 0 ∧ fget fr 8 = .int .i64 (((k : Nat) : Int) - 1) ∧ σ = ⟨t, []⟩) (fun e fr σ => e = .ex 2 ∧ (∃ k, fget fr 1 = .lst 6 ((bins 60).map fun d => .agg d.cells) false ∧ fget fr 7 = .ref envK 0 ∧ fget fr 8 = .int .i64 (((k : Nat) : Int) - 1)) ∧ σ = ⟨t, []⟩)
    ⟨f1, f7, f8, rfl⟩ (fun k hk fr σ hJ => ?_) (fun k hk fr σ hJ => ?_) (fun e fr σ hE => ?_)
  · clear f1 f7 f8
    obtain ⟨f1, f7, f8, rfl⟩ := hJ
    have hki : (k : Int) - 1 < 4 := by omega
    have e2 : IntKind.i64.wrap ((k : Int) - 1 + 1) = ((k + 1 : Nat) : Int) - 1 := by rw [IntKind.wrap_i64]; omega
    refine W_round [(1, .lst 6 ((bins 60).map fun d => .agg d.cells) false), (7, .ref envK 0), (8, .int .i64 (((k : Nat) : Int) - 1))] ⟨f1, f7, f8, trivial⟩  1000 ?_
    simp -implicitDefEqProofs (disch := omega) only [go_sem, ↓reduceIte, Nat.reduceEqDiff, decide_true, zq1_12, zq1_13, zq1_14, zq1_15, zq1_16, zq1_17, zq1_18, hki]
    refine vk2 (i := 0) (k := k) hT hk hVO rfl ⟨by simp -implicitDefEqProofs (disch := omega) only [go_sem, ↓reduceIte], by simp -implicitDefEqProofs (disch := omega) only [go_sem, ↓reduceIte, Nat.reduceEqDiff], by simp -implicitDefEqProofs (disch := omega) only [go_sem, ↓reduceIte, Nat.reduceEqDiff], by simp -implicitDefEqProofs (disch := omega) only [go_sem, ↓reduceIte, Nat.reduceEqDiff]; rfl⟩ (fun fr i ⟨f1, f7, f8, f9⟩ => ?_)
    refine sem_exit2 [(1, .lst 6 ((bins 60).map fun d => .agg d.cells) false), (7, .ref envK 0), (8, .int .i64 (((k : Nat) : Int) - 1))] ⟨f1, f7, f8, trivial⟩ 1000 ?_
    simp -implicitDefEqProofs (disch := omega) only [go_sem, ↓reduceIte, Nat.reduceEqDiff, e2]
    refine ⟨_, _, Shift.refl _ _ _ _, ?_⟩
    simp -implicitDefEqProofs (disch := omega) only [go_sem, ↓reduceIte, Nat.reduceEqDiff]
  · obtain ⟨f1, f7, f8, rfl⟩ := hJ
    have hki : ¬ (k : Int) - 1 < 4 := by omega
    refine W_round [(1, .lst 6 ((bins 60).map fun d => .agg d.cells) false), (7, .ref envK 0), (8, .int .i64 (((k : Nat) : Int) - 1))] ⟨f1, f7, f8, trivial⟩  1000 ?_
    simp -implicitDefEqProofs (disch := omega) only [go_sem, ↓reduceIte, Nat.reduceEqDiff, decide_false, zq1_12, zq1_13, zq1_14, zq1_15, zq1_16, zq1_17, zq1_18, true_and, and_true, hki]
    exact ⟨k, rfl⟩
  · obtain ⟨rfl, ⟨k, f1, f7, f8⟩, rfl⟩ := hE
    exact hQ fr k ⟨f1, f7, f8⟩
theorem toPure {f : Nat} {args : List V} (h : ∀ t, C P G 0 f args ⟨t, []⟩ fun v _ => v = .bool true) : Pure P G f args fun v => v = .bool true := fun t => (h t).conseq fun v _ e => ⟨by rw [e]; rfl, e⟩
theorem i64_0 : i64 0 := by unfold i64; omega
theorem c_ValueKnown (hT : TabOk P tab) (F : Fmt P G) (SO : SortOk P) (SI : SortF P n_slices_Sort_int64_int64) (hW : Pure P G n_proofmarklaw03_works [] fun v => v = .bool true)
    (hNil : Pure P G n_value_Of [.val (.pointer none), envK, .int .i64 0] fun v => v = .tup [.int .i64 0, .bool false]) {t : Nat} : C P G 0 n_proofmarklaw03_ValueKnown [] ⟨t, []⟩ fun v _ => v = .bool true := by
  have hS : ∀ x ∈ [(1 : Int), 2], i64 x := by simp [i64]
  have hCn : ∀ c ∈ cls5, i64 c.n := by simp [cls5, i64]
  have hb : ∀ n, ∀ d ∈ (bins 60).take n, i64 d.n ∧ i64 d.a := fun n d hd => by
    rcases List.mem_cons.1 (List.mem_of_mem_take hd) with rfl | h
    · exact ⟨i64_0, i64_0⟩
    · obtain ⟨j, _, rfl⟩ := List.mem_map.1 h
      exact ⟨i64_0, i64_0⟩
  have hbins : ∀ d ∈ bins 60, i64 d.n ∧ i64 d.a := fun d hd => hb 61 d (by rw [List.take_of_length_le (by rw [bins_len]; omega)]; exact hd)
  have hVO : ∀ k a : Int, i64 k → i64 a → Pure P G n_proofmarklaw03_ValueOf [.lst 6 ((five k a).map fun d => .agg d.cells) true, envK, .int .i64 k, .int .i64 k, .int .i64 a, .int .i64 a] fun v => v = .bool true := fun k a hk ha =>
    toPure fun t => c_ValueOf hT F SO hW (five k a) true (fun d hd => by
      simp only [five, List.mem_cons, List.not_mem_nil, or_false] at hd
      rcases hd with rfl | rfl | rfl | rfl | rfl
      · exact ⟨i64_0, i64_0⟩
      · exact ⟨ite_i64 hk i64_0, ite_i64 ha i64_0⟩
      · exact ⟨i64_0, i64_0⟩
      · exact ⟨hk, i64_0⟩
      · exact ⟨i64_0, i64_0⟩) [1, 2] true cls5 true k k a a hS hCn
  refine C_tab hT t_proofmarklaw03_ValueKnown (by simp [proofmarklaw03_ValueKnown]) (W_run 1000 ?_)
  simp -implicitDefEqProofs (disch := omega) only [go_sem, ↓reduceIte, reduceCtorEq, Nat.reduceAdd, Nat.reduceEqDiff, Nat.reduceLeDiff, Nat.zero_add, Nat.le_refl, proofmarklaw03_ValueKnown, zq1_0, zq1_1, zq1_2, zq1_3, zq1_4, zq1_5, zq1_6, zq1_7, zq1_8, zq1_9, zq1_10, zq1_11, zq1_12, zq1_13, zq1_14, zq1_15, zq1_16, zq1_17, zq1_18, zq1_19, zq1_20, zq1_21, List.length_cons, List.length_nil, and_true, List.cons_append, List.nil_append]
  refine vk0 (by simp -implicitDefEqProofs (disch := omega) only [go_sem, ↓reduceIte, reduceCtorEq]) (by simp -implicitDefEqProofs (disch := omega) only [go_sem, ↓reduceIte, reduceCtorEq, Nat.reduceEqDiff]) (fun fr t' r f1 => ?_)
  refine sem_exitS [(1, .sl 0 r 0 6 61 none)] ⟨f1, trivial⟩ ?_
  have hfz := fz_ndC (k := 0) (r := r) (B := bins 60)
  rw [bins_len] at hfz
  refine sem_shift (Shift.freeze (k := 0) (v := r) (T := 50) (cs := ndC (bins 60)) (Nat.zero_le _) rfl (ndC_nameless _)) ?_
  simp only [hfz, List.set_cons_zero, frzFr_cons, frzFr_nil, mapFrom, Option.map_none]
  refine sem_shift (Shift.drop (o' := []) (t' := t') (by simp [subObs]) (Nat.le_refl _) (Nat.zero_le _)) (run_sem 1000 ?_)
  simp -implicitDefEqProofs (disch := omega) only [go_sem, ↓reduceIte, Nat.reduceEqDiff]
  refine call hT t_proofmarkkit_Made (c_Made hT F (bins 60) false hbins (by rw [bins_len]; omega)) 1000 fun v σ hv => ?_
  obtain ⟨v0, v1, v2, v3, v4, c1, u, hc1, rfl, rfl⟩ := hv
  have hok := okN_made (bins 60) hbins
  have hml := madeL_le (bins 60)
  rw [bins_len] at hml
  have hof : ∀ t, C P G 0 n_value_Of [.ptr 1 v0 0, .agg [.lst 1 [.int .i64 3] true, .lst 0 [] true], .int .i64 60] ⟨t, kG F.fmt v0 v1 v2 v3 v4 (madeL (bins 60))⟩ fun v σ => v = .tup [.int .i64 3458764513820540928, .bool true] ∧ ∃ t', t ≤ t' ∧ σ = ⟨t', kG F.fmt v0 v1 v2 v3 v4 (madeL (bins 60))⟩ := fun t => by
    rw [← of61]
    exact C_args (.cons _ _ _ _ (.refl _) (.cons _ _ _ _ (.agg _ _ (.cons _ _ _ _ (.refl _) (.cons _ _ _ _ (.lst 0 4 [] [] true .nil (.inl rfl)) .nil))) (.cons _ _ _ _ (.refl _) .nil)))
      (z_Of (S := [3]) (tS := true) (C' := []) (tC := false) hT SO (by omega) hok (by simp [i64]) (by simp) (by simp) 60)
  simp -implicitDefEqProofs (disch := omega) only [go_sem, ↓reduceIte, Nat.reduceAdd, Nat.reduceEqDiff, Nat.reduceLeDiff, Nat.reduceLT, Nat.zero_add, Nat.le_refl, List.length_cons, List.length_nil, and_true, List.cons_append, List.nil_append]
  refine call hT t_value_Of (hof _) 1000 fun v σ hv => ?_
  obtain ⟨rfl, c2, hc2, rfl⟩ := hv
  simp -implicitDefEqProofs (disch := omega) only [go_sem, ↓reduceIte, Nat.reduceAdd, Nat.reduceEqDiff, Nat.reduceLeDiff, Nat.reduceLT, Nat.zero_add, Bool.not_true, Bool.not_false, Nat.le_refl, Nat.zero_le, bne_self_eq_false, kG_len0, kG_5, kGs_5, List.length_cons, List.length_nil, and_true, List.cons_append, List.nil_append]
  refine sem_shift (Shift.freeze (k := 5) (v := c2) (T := 26) (cs := [.lst 1 (nints [1, 2]) true, .lst 4 (cls5.map Cl.v) true]) (Nat.zero_le _) rfl rfl) ?_
  have hfp : frzV 5 c2 [V.lst 1 (nints [1, 2]) true, .lst 4 (cls5.map Cl.v) true] (.ptr 5 c2 0) = .ref envK 0 := by simp [frzV]
  simp only [hfp, frzFr_cons, frzFr_nil, fz_lst, fz_int, fz_bool, fz_ptr, ne_eq, Nat.reduceEqDiff, not_false_eq_true]
  refine sem_shift (Shift.drop (o' := []) (t' := c2 + 1) (by simp [subObs]) (Nat.le_refl _) (Nat.zero_le _)) ?_
  refine vk1 (k := 0) hT hVO rfl ⟨by simp -implicitDefEqProofs (disch := omega) only [go_sem, ↓reduceIte], by simp -implicitDefEqProofs (disch := omega) only [go_sem, ↓reduceIte, Nat.reduceEqDiff], by simp -implicitDefEqProofs (disch := omega) only [go_sem, ↓reduceIte, Nat.reduceEqDiff]; rfl⟩ (fun fr k ⟨f1, f7, f8⟩ => ?_)
  have hNeeds : Pure P G n_proofmarklaw03_ValueNeeds [.lst 6 (((bins 60).take 9).map fun d => .agg d.cells) false, .lst 1 (nints [8, 3, -1]) true] fun v => v = .bool true := toPure fun t => c_ValueNeeds hT F SO SI hW ((bins 60).take 9) [8, 3, -1] false true (hb 9)
  have hNeeded : Pure P G n_proofmarklaw03_ValueNeeded [.lst 6 (((bins 60).take 9).map fun d => .agg d.cells) false, envK, .lst 1 (nints [9, 9, 9]) true] fun v => v = .bool true := toPure fun t => c_ValueNeeded hT F SO SI hW ((bins 60).take 9) false (hb 9) [1, 2] true cls5 true [9, 9, 9] true hS hCn (by simp [i64])
  refine sem_exit [(1, .lst 6 ((bins 60).map fun d => .agg d.cells) false), (7, .ref envK 0)] ⟨f1, f7, trivial⟩ 1000 ?_
  simp -implicitDefEqProofs (disch := omega) only [go_sem, ↓reduceIte, reduceCtorEq, Nat.reduceAdd, Nat.reduceEqDiff, Nat.zero_add, Nat.le_refl, List.length_cons, List.length_nil, false_implies, and_true]
  refine callPS hT t_value_Of hNil rfl 1000 ?_
  have hbl := bins_len 60
  rw [List.map_take] at hNeeds hNeeded
  simp -implicitDefEqProofs (disch := omega) only [go_sem, ↓reduceIte, Nat.reduceAdd, Nat.reduceEqDiff, Nat.reduceLeDiff, Nat.reduceLT, Nat.reduceSub, Int.reduceToNat, Int.reduceLE, Nat.zero_add, decide_false, Bool.not_false, Nat.le_refl, List.length_map, List.length_cons, List.length_nil, and_true, List.cons_append, List.nil_append, hbl]
  refine callPS hT t_proofmarklaw03_ValueNeeds hNeeds rfl 1000 ?_
  simp -implicitDefEqProofs (disch := omega) only [go_sem, ↓reduceIte, reduceCtorEq, Nat.reduceAdd, Nat.reduceEqDiff, Nat.reduceLeDiff, Nat.reduceSub, Int.reduceToNat, Int.reduceLE, Nat.zero_add, decide_false, Nat.le_refl, List.length_map, List.length_cons, List.length_nil, false_implies, and_true, List.cons_append, List.nil_append, hbl]
  refine callPS hT t_proofmarklaw03_ValueNeeded hNeeded rfl 1000 ?_
  simp -implicitDefEqProofs (disch := omega) only [go_sem, ↓reduceIte, Nat.reduceAdd, Nat.reduceEqDiff]
  refine callPS hT t_proofmarklaw03_works hW rfl 1000 ?_
  simp -implicitDefEqProofs (disch := omega) only [go_sem, ↓reduceIte, reduceCtorEq, Nat.reduceEqDiff, Nat.succ_ne_zero]
end Go.Proofs.YtfligilbnpcnaaaGreatDoor

