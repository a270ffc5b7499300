/- The law RvKnown: words and texts. -/
import Derived.Test.YtkhdfbokkneeaaaDoorRt6
import Derived.Test.YtkhdfbokkneeaaaDoorRw14
import Derived.Test.YtkhdfbokkneeaaaDoorRw15
/- The law RvKnown: words and texts. -/
namespace Go.Proofs.YtkhdfbokkneeaaaDoor
open Go Go.Am Go.Rv
set_option maxRecDepth 100000

def wts : List (Int × List UInt8) := [(19, [97, 100, 100, 105, 32, 120, 48, 44, 32, 120, 48, 44, 32, 48]), (4278255891, [97, 100, 100, 105, 32, 120, 50, 44, 32, 120, 50, 44, 32, 45, 49, 54]), (12944691, [97, 100, 100, 32, 120, 49, 48, 44, 32, 120, 49, 49, 44, 32, 120, 49, 50]), (8466563, [108, 100, 32, 120, 49, 44, 32, 120, 50, 44, 32, 56]), (1127459, [115, 100, 32, 120, 50, 44, 32, 120, 49, 44, 32, 56]), (8388847, [106, 97, 108, 32, 120, 49, 44, 32, 56]), (32871, [106, 97, 108, 114, 32, 120, 48, 44, 32, 120, 49, 44, 32, 48]), (5431, [108, 117, 105, 32, 120, 49, 48, 44, 32, 52, 48, 57, 54]), (115, [101, 99, 97, 108, 108]), (1048691, [101, 98, 114, 101, 97, 107]), (0, []), (4294967295, []), (33554531, [98, 101, 113, 32, 120, 48, 44, 32, 120, 48, 44, 32, 51, 50])]
def wtOk (p : Int × List UInt8) : Bool := decide (0 ≤ p.1 ∧ p.1 < 4294967296) && match first p.1 0 T with
  | none => decide (p.2 = [])
  | some x => decide (p.2 ≠ []) && (decide (txt fmt10 T x = p.2) && decide ((0 ≤ x.op ∧ x.op ≤ 255) ∧ (0 ≤ x.rd ∧ x.rd ≤ 255) ∧ (0 ≤ x.rs1 ∧ x.rs1 ≤ 255) ∧ (0 ≤ x.rs2 ∧ x.rs2 ≤ 255) ∧ -9223372036854775808 ≤ x.imm ∧ x.imm ≤ 9223372036854775807))
theorem wts_ok : ∀ p ∈ wts, wtOk p = true := by decide +kernel
theorem p_RvDecodes (hT : TabOk Tryd.prog tab) (F : Lb Tryd.prog) (h2 : F.fmt 2 = [50]) (h16 : F.fmt (-16) = [45, 49, 54]) (w : Int) (h0 : 0 ≤ w) (h1 : w < 4294967296) : Pure Tryd.prog G0 n_proofmarklaw10_RvDecodes [.int .u32 w] fun v => v = .bool true :=
  pure_of_zero ((c_RvDecodes hT F h2 h16 w h0 h1).conseq fun v σ h => ⟨by rw [h]; rfl, h⟩) rfl
theorem p_RvEncodes (hT : TabOk Tryd.prog tab) (F : Lb Tryd.prog) (h2 : F.fmt 2 = [50]) (h16 : F.fmt (-16) = [45, 49, 54]) (x : In) (hx : InOk x) : Pure Tryd.prog G0 n_proofmarklaw10_RvEncodes [.agg (inC x)] fun v => v = .bool true :=
  pure_of_zero ((c_RvEncodes hT F h2 h16 x hx).conseq fun v σ h => ⟨by rw [h]; rfl, h⟩) rfl
abbrev kwJ : Nat → Fr → H → Prop := fun i fr σ => ∃ t, fget fr 1 = .lst 1 (wts.map fun p => V.int .u32 p.1) true ∧ fget fr 2 = .lst 1 (wts.map fun p => V.str p.2) true ∧ fget fr 3 = .int .i64 ((i : Nat) : Int) ∧ σ = ⟨t, []⟩
theorem w_round (hT : TabOk Tryd.prog tab) (F : Lb Tryd.prog) (hf : F.fmt = fmt10) (h2 : F.fmt 2 = [50]) (h16 : F.fmt (-16) = [45, 49, 54]) {i : Nat} {p : Int × List UInt8} (hp : wts[i]? = some p) {fr : Fr} {σ : H} (hJ : kwJ i fr σ) :
    W Tryd.prog G0 170 0 (AC.seq (AC.seq (AC.reg proofmarklaw10_RvKnown_r4 [17, 18, 19])   (AC.cond (Arg.t 20)   AC.skip   (AC.exit 0)))   (AC.seq (AC.block 1 (AC.seq (AC.reg proofmarklaw10_RvKnown_r5 [24, 25, 26, 27, 28, 23, 29, 30])   (AC.seq (AC.reg proofmarklaw10_RvKnown_r6 [31, 32, 33, 34, 35, 36, 37, 38, 39, 40, 41, 42, 43, 44, 45, 46, 47, 48, 49, 50, 51, 52, 53, 54, 55, 56, 57, 58])   (AC.cond (Arg.t 59)   (AC.seq (AC.reg proofmarklaw10_RvKnown_r7 [])   AC.ret)   AC.skip))))   (AC.reg proofmarklaw10_RvKnown_r8 [21, 22]))) fr σ (seqQ (fun fr σ => ∃ fr' σ', Shift G0 170 0 fr σ fr' σ' ∧ kwJ (i + 1) fr' σ') fun e fr σ => e = .ex 0 ∧ ∃ t', σ = ⟨t', []⟩) := by
  obtain ⟨t, f1, f2, f3, rfl⟩ := hJ
  have hlt := (List.getElem?_eq_some_iff.1 hp).1
  have hok := wts_ok p (List.mem_of_getElem? hp)
  have hD1 : (wts.map fun p => V.int .u32 p.1).getD i V.any = .int .u32 p.1 := by simp [List.getD_eq_getElem?_getD, hp]
  have hD2 : (wts.map fun p => V.str p.2).getD i V.any = .str p.2 := by simp [List.getD_eq_getElem?_getD, hp]
  have e2 := wnx hlt (by decide)
  simp only [wtOk, Bool.and_eq_true, decide_eq_true_eq] at hok
  obtain ⟨hw, hm⟩ := hok
  have hdec := c_Decode hT p.1 hw.1 hw.2
  have hlaw := p_RvDecodes hT F h2 h16 p.1 hw.1 hw.2
  generalize hN : wts.length = N at *
  have hi : ((i : Int) < (N : Int)) = True := eq_true (by omega)
  cases hfst : first p.1 0 T with
  | none =>
    rw [hfst] at hm hdec
    simp only [decide_eq_true_eq] at hm
    have hs : (p.2 == []) = true := by simp [hm]
    have hs' : (p.2 = []) = True := eq_true hm
    simp only [errT, inC] at hdec
    refine W_round [(1, .lst 1 (wts.map fun p => V.int .u32 p.1) true), (2, .lst 1 (wts.map fun p => V.str p.2) true), (3, .int .i64 ((i : Nat) : Int))] ⟨f1, f2, f3, trivial⟩  8 ?_
    simp -implicitDefEqProofs (disch := omega) only [go_sem, ↓reduceIte, Nat.reduceEqDiff, decide_true, proofmarklaw10_RvKnown_r4, proofmarklaw10_RvKnown_r5, proofmarklaw10_RvKnown_r6, proofmarklaw10_RvKnown_r7, proofmarklaw10_RvKnown_r8, List.length_map, hN, hi]
    iterate 9 (try (refine run_sem 4 ?_; simp -implicitDefEqProofs (disch := omega) only [go_sem, need_of, ↓reduceIte, Nat.reduceEqDiff, Nat.zero_add, Nat.le_refl, true_implies, and_true, List.length_map, hN, hlt, hD1]))
    refine callPS hT t_rv_Decode hdec rfl 4 ?_
    simp -implicitDefEqProofs (disch := omega) only [go_sem, ↓reduceIte, Nat.reduceAdd, Nat.reduceEqDiff, Nat.reduceLT, Nat.zero_add, and_true]
    iterate 16 (try (refine run_sem 4 ?_; simp -implicitDefEqProofs (disch := omega) only [go_sem, need_of, ↓reduceIte, Nat.reduceAdd, Nat.reduceEqDiff, Nat.zero_add, Bool.not_true, Bool.not_false, Nat.le_refl, beq_self_eq_true, true_implies, and_true, Bool.not_true, Bool.not_false, Int.reduceBEq, List.length_map, hN, hlt, hD1, hD2, hs, bne]))
    refine callPS hT t_proofmarklaw10_RvDecodes hlaw rfl 4 ?_
    simp -implicitDefEqProofs (disch := omega) only [go_sem, ↓reduceIte, Nat.reduceAdd, Nat.reduceEqDiff, Bool.not_true, Bool.not_true]
    iterate 16 (try (refine run_sem 4 ?_; simp -implicitDefEqProofs (disch := omega) only [go_sem, ↓reduceIte, Nat.reduceEqDiff]))
    refine ⟨_, _, Shift.drop (o' := []) (t' := t + 1) (by simp [subObs]) (Nat.le_refl _) (Nat.zero_le _), t + 1, ?_⟩
    simp -implicitDefEqProofs (disch := omega) only [go_sem, ↓reduceIte, Nat.reduceEqDiff, and_true, e2]
  | some x =>
    rw [hfst] at hm hdec
    simp only [Bool.and_eq_true, decide_eq_true_eq] at hm
    obtain ⟨hne, htx, hx⟩ := hm
    have hs : (p.2 == []) = false := by simpa using hne
    have hs' : (p.2 = []) = False := eq_false hne
    have hTx := c_Text hT F x ⟨hx.1, hx.2.1, hx.2.2.1, hx.2.2.2.1, hx.2.2.2.2⟩
    rw [hf, htx] at hTx
    simp only [errT, inC] at hdec hTx
    refine W_round [(1, .lst 1 (wts.map fun p => V.int .u32 p.1) true), (2, .lst 1 (wts.map fun p => V.str p.2) true), (3, .int .i64 ((i : Nat) : Int))] ⟨f1, f2, f3, trivial⟩  8 ?_
    simp -implicitDefEqProofs (disch := omega) only [go_sem, ↓reduceIte, Nat.reduceEqDiff, decide_true, proofmarklaw10_RvKnown_r4, proofmarklaw10_RvKnown_r5, proofmarklaw10_RvKnown_r6, proofmarklaw10_RvKnown_r7, proofmarklaw10_RvKnown_r8, List.length_map, hN, hi]
    iterate 9 (try (refine run_sem 4 ?_; simp -implicitDefEqProofs (disch := omega) only [go_sem, need_of, ↓reduceIte, Nat.reduceEqDiff, Nat.zero_add, Nat.le_refl, true_implies, and_true, List.length_map, hN, hlt, hD1]))
    refine callPS hT t_rv_Decode hdec rfl 4 ?_
    simp -implicitDefEqProofs (disch := omega) only [go_sem, ↓reduceIte, Nat.reduceAdd, Nat.reduceEqDiff, Nat.reduceLT, Nat.zero_add, and_true]
    iterate 16 (try (refine run_sem 4 ?_; simp -implicitDefEqProofs (disch := omega) only [go_sem, need_of, ↓reduceIte, reduceCtorEq, Nat.reduceAdd, Nat.reduceEqDiff, Nat.zero_add, Bool.not_true, Bool.not_false, Nat.le_refl, beq_self_eq_true, false_implies, true_implies, and_true, Bool.not_true, Bool.not_false, List.length_map, hN, hlt, hD2, hs, bne]))
    refine callPS hT t_rv_Text hTx rfl 4 ?_
    simp -implicitDefEqProofs (disch := omega) only [go_sem, ↓reduceIte, Nat.reduceAdd, Nat.reduceEqDiff, bne_self_eq_false, bne_self_eq_false]
    iterate 16 (try (refine run_sem 4 ?_; simp -implicitDefEqProofs (disch := omega) only [go_sem, need_of, ↓reduceIte, Nat.reduceAdd, Nat.reduceEqDiff, Nat.zero_add, Nat.le_refl, true_implies, and_true, List.length_map, hN, hlt, hD1]))
    refine callPS hT t_proofmarklaw10_RvDecodes hlaw rfl 4 ?_
    simp -implicitDefEqProofs (disch := omega) only [go_sem, ↓reduceIte, Nat.reduceAdd, Nat.reduceEqDiff, Bool.not_true, Bool.not_true]
    iterate 16 (try (refine run_sem 4 ?_; simp -implicitDefEqProofs (disch := omega) only [go_sem, ↓reduceIte, Nat.reduceEqDiff]))
    refine ⟨_, _, Shift.drop (o' := []) (t' := t + 1) (by simp [subObs]) (Nat.le_refl _) (Nat.zero_le _), t + 1, ?_⟩
    simp -implicitDefEqProofs (disch := omega) only [go_sem, ↓reduceIte, Nat.reduceEqDiff, and_true, e2]

/-- The bits of a word, one by one. -/
abbrev bJ (o q k tx : Nat) (nums : List V) (z nn w e : Int) (hp : List (Option Ob)) : Nat → Fr → H → Prop := fun b fr σ => ∃ t, fget fr 6 = .int .i64 ((o : Nat) : Int) ∧ fget fr 64 = .lst 1 nums true ∧ fget fr 65 = .int .i64 z ∧ fget fr 66 = .int .i64 ((q : Nat) : Int) ∧ fget fr 8 = .int .i64 nn ∧ fget fr 9 = .ptr 0 tx 0 ∧ fget fr 10 = .int .i64 ((k : Nat) : Int) ∧ fget fr 12 = .int .u32 w ∧ fget fr 13 = .int .i64 e ∧ fget fr 14 = .int .i64 ((b : Nat) : Int) ∧ σ = ⟨t, hp⟩
abbrev bE (o q k tx : Nat) (nums : List V) (z nn : Int) (hp : List (Option Ob)) : AE → Fr → H → Prop := fun ex fr σ => ex = .ex 8 ∧ ∃ t, fget fr 6 = .int .i64 ((o : Nat) : Int) ∧ fget fr 64 = .lst 1 nums true ∧ fget fr 65 = .int .i64 z ∧ fget fr 66 = .int .i64 ((q : Nat) : Int) ∧ fget fr 8 = .int .i64 nn ∧ fget fr 9 = .ptr 0 tx 0 ∧ fget fr 10 = .int .i64 ((k : Nat) : Int) ∧ σ = ⟨t, hp⟩
theorem shl_b : ∀ b : Nat, b < 32 → IntKind.u32.wrap (1 * 2 ^ min b 32) = 2 ^ b := by decide
theorem b_round (hT : TabOk Tryd.prog tab) (F : Lb Tryd.prog) (h2 : F.fmt 2 = [50]) (h16 : F.fmt (-16) = [45, 49, 54]) {o q k tx : Nat} {nums : List V} {z nn w e : Int} {hp : List (Option Ob)} (hw : e = 0 → 0 ≤ w ∧ w < 4294967296) {b : Nat} (hb : b < 32) {fr : Fr} {σ : H} (hJ : bJ o q k tx nums z nn w e hp b fr σ) :
    W Tryd.prog G0 170 0 (AC.seq (AC.seq (AC.reg proofmarklaw10_RvKnown_r28 [115, 116, 117, 118, 119, 120, 121, 122, 123])   (AC.cond (Arg.t 124)   AC.skip   (AC.exit 8)))   (AC.seq (AC.block 9 (AC.seq (AC.reg proofmarklaw10_RvKnown_r29 [127, 128, 129, 130, 131])   (AC.cond (Arg.t 132)   (AC.seq (AC.reg proofmarklaw10_RvKnown_r30 [])   AC.ret)   AC.skip)))   (AC.reg proofmarklaw10_RvKnown_r31 [125, 126]))) fr σ (seqQ (fun fr σ => ∃ fr' σ', Shift G0 170 0 fr σ fr' σ' ∧ bJ o q k tx nums z nn w e hp (b + 1) fr' σ') (bE o q k tx nums z nn hp)) := by
  obtain ⟨t, f6, f64, f65, f66, f8, f9, f10, f12, f13, f14, rfl⟩ := hJ
  have hlt : ((b : Int) < 32) = True := eq_true (by omega)
  have hlt' : decide ((b : Int) < 32) = true := decide_eq_true (by omega)
  have e2 := wnx hb (by omega)
  have hsh := shl_b b hb
  by_cases he : e = 0
  · have he' : (e == 0) = true := by simp [he]
    have hx := xor_bit (hw he).1 (hw he).2 hb
    have hlaw := p_RvDecodes hT F h2 h16 _ hx.2.1 hx.2.2
    by_cases hn : nn < 3
    · have hn' : decide (nn < 3) = true := decide_eq_true hn
      refine W_round [(6, .int .i64 ((o : Nat) : Int)), (64, .lst 1 nums true), (65, .int .i64 z), (66, .int .i64 ((q : Nat) : Int)), (8, .int .i64 nn), (9, .ptr 0 tx 0), (10, .int .i64 ((k : Nat) : Int)), (12, .int .u32 w), (13, .int .i64 e), (14, .int .i64 ((b : Nat) : Int))] ⟨f6, f64, f65, f66, f8, f9, f10, f12, f13, f14, trivial⟩  8 ?_
      simp -implicitDefEqProofs (disch := omega) only [go_sem, ↓reduceIte, Nat.reduceAdd, Nat.reduceEqDiff, Nat.zero_add, decide_true, beq_self_eq_true, proofmarklaw10_RvKnown_r28, proofmarklaw10_RvKnown_r29, proofmarklaw10_RvKnown_r30, proofmarklaw10_RvKnown_r31, hlt, he]
      iterate 9 (try (refine run_sem 4 ?_; simp -implicitDefEqProofs (disch := omega) only [go_sem, need_of, ↓reduceIte, Nat.reduceAdd, Nat.reduceEqDiff, Nat.zero_add, decide_true, hn, hsh]))
      refine callPS hT t_proofmarklaw10_RvDecodes hlaw rfl 4 ?_
      simp -implicitDefEqProofs (disch := omega) only [go_sem, ↓reduceIte, Nat.reduceEqDiff, Bool.not_true, Bool.not_true]
      iterate 9 (try (refine run_sem 4 ?_; simp -implicitDefEqProofs (disch := omega) only [go_sem, ↓reduceIte, Nat.reduceEqDiff]))
      refine ⟨_, _, Shift.refl _ _ _ _, t, ?_⟩
      simp -implicitDefEqProofs (disch := omega) only [go_sem, ↓reduceIte, Nat.reduceEqDiff, and_true, e2]
    · have hn' : decide (nn < 3) = false := decide_eq_false hn
      refine W_round [(6, .int .i64 ((o : Nat) : Int)), (64, .lst 1 nums true), (65, .int .i64 z), (66, .int .i64 ((q : Nat) : Int)), (8, .int .i64 nn), (9, .ptr 0 tx 0), (10, .int .i64 ((k : Nat) : Int)), (12, .int .u32 w), (13, .int .i64 e), (14, .int .i64 ((b : Nat) : Int))] ⟨f6, f64, f65, f66, f8, f9, f10, f12, f13, f14, trivial⟩  8 ?_
      simp -implicitDefEqProofs (disch := omega) only [go_sem, ↓reduceIte, Nat.reduceAdd, Nat.reduceEqDiff, Nat.zero_add, decide_true, beq_self_eq_true, proofmarklaw10_RvKnown_r28, proofmarklaw10_RvKnown_r29, proofmarklaw10_RvKnown_r30, proofmarklaw10_RvKnown_r31, hlt, he]
      iterate 9 (try (refine run_sem 4 ?_; simp -implicitDefEqProofs (disch := omega) only [go_sem, ↓reduceIte, Nat.reduceAdd, Nat.reduceEqDiff, Nat.zero_add, decide_false, hn]))
      exact ⟨rfl, t, rfl, rfl, rfl, rfl, rfl, rfl, rfl, rfl⟩
  · have he' : (e == 0) = false := by simpa using he
    have he'' : (e = 0) = False := eq_false he
    refine W_round [(6, .int .i64 ((o : Nat) : Int)), (64, .lst 1 nums true), (65, .int .i64 z), (66, .int .i64 ((q : Nat) : Int)), (8, .int .i64 nn), (9, .ptr 0 tx 0), (10, .int .i64 ((k : Nat) : Int)), (12, .int .u32 w), (13, .int .i64 e), (14, .int .i64 ((b : Nat) : Int))] ⟨f6, f64, f65, f66, f8, f9, f10, f12, f13, f14, trivial⟩  8 ?_
    simp -implicitDefEqProofs (disch := omega) only [go_sem, ↓reduceIte, Nat.reduceAdd, Nat.reduceEqDiff, Nat.zero_add, decide_true, proofmarklaw10_RvKnown_r28, proofmarklaw10_RvKnown_r29, proofmarklaw10_RvKnown_r30, proofmarklaw10_RvKnown_r31, hlt, he']
    iterate 9 (try (refine run_sem 4 ?_; simp -implicitDefEqProofs (disch := omega) only [go_sem, ↓reduceIte, Nat.reduceEqDiff]))
    exact ⟨rfl, t, rfl, rfl, rfl, rfl, rfl, rfl, rfl, rfl⟩
theorem b_done {o q k tx : Nat} {nums : List V} {z nn w e : Int} {hp : List (Option Ob)} {b : Nat} (hb : b = 32) {fr : Fr} {σ : H} (hJ : bJ o q k tx nums z nn w e hp b fr σ) :
    W Tryd.prog G0 170 0 (AC.seq (AC.seq (AC.reg proofmarklaw10_RvKnown_r28 [115, 116, 117, 118, 119, 120, 121, 122, 123])   (AC.cond (Arg.t 124)   AC.skip   (AC.exit 8)))   (AC.seq (AC.block 9 (AC.seq (AC.reg proofmarklaw10_RvKnown_r29 [127, 128, 129, 130, 131])   (AC.cond (Arg.t 132)   (AC.seq (AC.reg proofmarklaw10_RvKnown_r30 [])   AC.ret)   AC.skip)))   (AC.reg proofmarklaw10_RvKnown_r31 [125, 126]))) fr σ (seqQ (fun _ _ => False) (bE o q k tx nums z nn hp)) := by
  obtain ⟨t, f6, f64, f65, f66, f8, f9, f10, f12, f13, f14, rfl⟩ := hJ
  have hlt : ((b : Int) < 32) = False := eq_false (by omega)
  have hlt' : decide ((b : Int) < 32) = false := decide_eq_false (by omega)
  refine W_round [(6, .int .i64 ((o : Nat) : Int)), (64, .lst 1 nums true), (65, .int .i64 z), (66, .int .i64 ((q : Nat) : Int)), (8, .int .i64 nn), (9, .ptr 0 tx 0), (10, .int .i64 ((k : Nat) : Int)), (12, .int .u32 w), (13, .int .i64 e), (14, .int .i64 ((b : Nat) : Int))] ⟨f6, f64, f65, f66, f8, f9, f10, f12, f13, f14, trivial⟩  8 ?_
  simp -implicitDefEqProofs (disch := omega) only [go_sem, ↓reduceIte, Nat.reduceEqDiff, decide_false, proofmarklaw10_RvKnown_r28, proofmarklaw10_RvKnown_r29, proofmarklaw10_RvKnown_r30, proofmarklaw10_RvKnown_r31, hlt]
  iterate 9 (try (refine run_sem 4 ?_; simp -implicitDefEqProofs (disch := omega) only [go_sem, ↓reduceIte, Nat.reduceEqDiff]))
  exact ⟨rfl, t, rfl, rfl, rfl, rfl, rfl, rfl, rfl, rfl⟩
end Go.Proofs.YtkhdfbokkneeaaaDoor

/- The law RvKnown. -/
namespace Go.Proofs.YtkhdfbokkneeaaaDoor
open Go Go.Am Go.Rv
set_option maxRecDepth 100000

abbrev k3J (o q tx : Nat) (nums : List V) (z nn : Int) (x : In) : Nat → Fr → H → Prop := fun k fr σ => ∃ t, fget fr 6 = .int .i64 ((o : Nat) : Int) ∧ fget fr 64 = .lst 1 nums true ∧ fget fr 65 = .int .i64 z ∧ fget fr 66 = .int .i64 ((q : Nat) : Int) ∧ fget fr 8 = .int .i64 nn ∧ fget fr 9 = .ptr 0 tx 0 ∧ fget fr 10 = .int .i64 ((k : Nat) : Int) ∧ σ = ⟨t, [some (.arr tx 24 (inC x))]⟩
abbrev k3E (o q : Nat) (nums : List V) (z : Int) : AE → Fr → H → Prop := fun ex fr σ => ex = .ex 6 ∧ ∃ t ob, fget fr 6 = .int .i64 ((o : Nat) : Int) ∧ fget fr 64 = .lst 1 nums true ∧ fget fr 65 = .int .i64 z ∧ fget fr 66 = .int .i64 ((q : Nat) : Int) ∧ σ = ⟨t, ob⟩
set_option maxHeartbeats 2000000 in
theorem k3_round (hT : TabOk Tryd.prog tab) (F : Lb Tryd.prog) (hf : F.fmt = fmt10) (h2 : F.fmt 2 = [50]) (h16 : F.fmt (-16) = [45, 49, 54]) {o q tx : Nat} {nums : List V} {z nn : Int} {x : In} (hx : InOk x) {k : Nat} (hk : k < 8) {fr : Fr} {σ : H} (hJ : k3J o q tx nums z nn x k fr σ) :
    W Tryd.prog G0 170 0 (AC.seq (AC.seq (AC.reg proofmarklaw10_RvKnown_r16 [85])   (AC.cond (Arg.t 86)   AC.skip   (AC.exit 6)))   (AC.seq (AC.block 7 (AC.seq (AC.reg proofmarklaw10_RvKnown_r17 [89])   (AC.seq (AC.seq (AC.reg proofmarklaw10_RvKnown_r18 [90, 91])   (AC.cond (Arg.t 92)   (AC.reg proofmarklaw10_RvKnown_r19 [93])   AC.skip))   (AC.seq (AC.seq (AC.reg proofmarklaw10_RvKnown_r20 [94, 95])   (AC.cond (Arg.t 96)   (AC.reg proofmarklaw10_RvKnown_r21 [97])   AC.skip))   (AC.seq (AC.seq (AC.reg proofmarklaw10_RvKnown_r22 [98, 99])   (AC.cond (Arg.t 100)   (AC.reg proofmarklaw10_RvKnown_r23 [101])   AC.skip))   (AC.seq (AC.seq (AC.reg proofmarklaw10_RvKnown_r24 [102, 103, 104, 105, 106, 107, 108])   (AC.cond (Arg.t 109)   (AC.seq (AC.reg proofmarklaw10_RvKnown_r25 [])   AC.ret)   AC.skip))   (AC.seq (AC.reg proofmarklaw10_RvKnown_r26 [111, 112, 110, 113, 114])   (AC.seq (AC.reg proofmarklaw10_RvKnown_r27 [])   (AC.block 8 (AC.loop (AC.seq (AC.seq (AC.reg proofmarklaw10_RvKnown_r28 [115, 116, 117, 118, 119, 120, 121, 122, 123])   (AC.cond (Arg.t 124)   AC.skip   (AC.exit 8)))   (AC.seq (AC.block 9 (AC.seq (AC.reg proofmarklaw10_RvKnown_r29 [127, 128, 129, 130, 131])   (AC.cond (Arg.t 132)   (AC.seq (AC.reg proofmarklaw10_RvKnown_r30 [])   AC.ret)   AC.skip)))   (AC.reg proofmarklaw10_RvKnown_r31 [125, 126])))))))))))))   (AC.reg proofmarklaw10_RvKnown_r32 [87, 88]))) fr σ (seqQ (fun fr σ => ∃ fr' σ', Shift G0 170 0 fr σ fr' σ' ∧ k3J o q tx nums z nn x (k + 1) fr' σ') (k3E o q nums z)) := by
  obtain ⟨t, f6, f64, f65, f66, f8, f9, f10, rfl⟩ := hJ
  have hlt : ((k : Int) < 8) = True := eq_true (by omega)
  have e2 := wnx hk (by omega)
  have okk : ∀ a b c : Int, (a = 0 ∨ a = x.rd) → (b = 0 ∨ b = x.rs1) → (c = 0 ∨ c = x.rs2) → InOk ⟨x.op, a, b, c, x.imm⟩ := fun a b c ha hb hc => by
    obtain ⟨o1, o2, o3, o4, o5⟩ := hx
    refine ⟨o1, ?_, ?_, ?_, o5⟩
    · rcases ha with rfl | rfl <;> simp <;> omega
    · rcases hb with rfl | rfl <;> simp <;> omega
    · rcases hc with rfl | rfl <;> simp <;> omega
  have pE := fun a b c ha hb hc => p_RvEncodes hT F h2 h16 ⟨x.op, a, b, c, x.imm⟩ (okk a b c ha hb hc)
  have pT := fun a b c ha hb hc => c_RvTells hT F hf h2 h16 ⟨x.op, a, b, c, x.imm⟩ (okk a b c ha hb hc)
  have pC := fun a b c ha hb hc => c_Encode hT ⟨x.op, a, b, c, x.imm⟩ (okk a b c ha hb hc)
  have pW : ∀ a b c, (a = 0 ∨ a = x.rd) → (b = 0 ∨ b = x.rs1) → (c = 0 ∨ c = x.rs2) → (enc T ⟨x.op, a, b, c, x.imm⟩).2 = 0 → 0 ≤ (enc T ⟨x.op, a, b, c, x.imm⟩).1 ∧ (enc T ⟨x.op, a, b, c, x.imm⟩).1 < 4294967296 := fun a b c ha hb hc he => by
    have hy := okk a b c ha hb hc
    obtain ⟨w0, w1, _⟩ := dec_enc (x := ⟨x.op, a, b, c, x.imm⟩) (w := (enc T ⟨x.op, a, b, c, x.imm⟩).1) (by rw [← he]) hy.2.1.1 hy.2.2.1.1 hy.2.2.2.1.1
    exact ⟨w0, w1⟩
  simp only [inC] at pE pT pC
  by_cases h1 : andI .i64 (k : Int) 1 = 1 <;> by_cases h3 : andI .i64 (k : Int) 2 = 2 <;> by_cases h4 : andI .i64 (k : Int) 4 = 4
  all_goals
    refine W_round [(6, .int .i64 ((o : Nat) : Int)), (64, .lst 1 nums true), (65, .int .i64 z), (66, .int .i64 ((q : Nat) : Int)), (8, .int .i64 nn), (9, .ptr 0 tx 0), (10, .int .i64 ((k : Nat) : Int))] ⟨f6, f64, f65, f66, f8, f9, f10, trivial⟩  40 ?_
    simp -implicitDefEqProofs (disch := omega) only [go_sem, ↓reduceIte, reduceCtorEq, Nat.reduceAdd, Nat.reduceEqDiff, Nat.reduceLeDiff, Nat.zero_add, decide_true, Bool.not_false, Nat.le_refl, Nat.zero_le, beq_self_eq_true, proofmarklaw10_RvKnown_r16, proofmarklaw10_RvKnown_r17, proofmarklaw10_RvKnown_r18, proofmarklaw10_RvKnown_r19, proofmarklaw10_RvKnown_r20, proofmarklaw10_RvKnown_r21, proofmarklaw10_RvKnown_r22, proofmarklaw10_RvKnown_r23, proofmarklaw10_RvKnown_r24, proofmarklaw10_RvKnown_r25, proofmarklaw10_RvKnown_r26, proofmarklaw10_RvKnown_r27, proofmarklaw10_RvKnown_r28, proofmarklaw10_RvKnown_r29, proofmarklaw10_RvKnown_r30, proofmarklaw10_RvKnown_r31, proofmarklaw10_RvKnown_r32, inC, not_false_eq_true, false_implies, true_implies, true_and, and_true, Bool.not_false, hlt, h1, h3, h4]
    iterate 9 (try (refine run_sem 9 ?_; simp -implicitDefEqProofs (disch := omega) only [go_sem, ↓reduceIte, reduceCtorEq, Nat.reduceAdd, Nat.reduceEqDiff, Nat.reduceLeDiff, Nat.zero_add, Bool.not_false, Nat.le_refl, Nat.zero_le, beq_self_eq_true, not_false_eq_true, false_implies, true_implies, true_and, and_true, Bool.not_false, h4]))
    refine callPS hT t_proofmarklaw10_RvEncodes (pE _ _ _ (by first | exact .inl rfl | exact .inr rfl) (by first | exact .inl rfl | exact .inr rfl) (by first | exact .inl rfl | exact .inr rfl)) rfl 4 ?_
    simp -implicitDefEqProofs (disch := omega) only [go_sem, ↓reduceIte, reduceCtorEq, Nat.reduceAdd, Nat.reduceEqDiff, Nat.zero_add, Bool.not_true, Nat.le_refl, false_implies, and_true, Bool.not_true]
    iterate 9 (try (refine run_sem 4 ?_; simp -implicitDefEqProofs (disch := omega) only [go_sem, need_of, ↓reduceIte, reduceCtorEq, Nat.reduceAdd, Nat.reduceEqDiff, Nat.reduceLeDiff, Nat.reduceLT, Nat.reduceSub, Nat.reduceMul, Int.reduceToNat, Int.reduceLE, Int.reduceLT, Int.reduceEq, Int.reduceNe, Nat.succ_ne_zero, Nat.zero_add, Nat.add_zero, Nat.mul_one, Nat.one_mul, Nat.zero_mul, decide_true, decide_false, Bool.not_true, Bool.not_false, Nat.le_refl, Nat.zero_le, ge_iff_le, gt_iff_lt, Nat.reduceBEq, Nat.reduceBNe, beq_self_eq_true, bne_self_eq_false, Option.isSome_some, Option.isSome_none, Option.getD_some, Option.getD_none, proofmarklaw10_RvKnown, proofmarklaw10_RvKnown_r0, proofmarklaw10_RvKnown_r1, proofmarklaw10_RvKnown_r2, proofmarklaw10_RvKnown_r3, proofmarklaw10_RvKnown_r4, proofmarklaw10_RvKnown_r5, proofmarklaw10_RvKnown_r6, proofmarklaw10_RvKnown_r7, proofmarklaw10_RvKnown_r8, proofmarklaw10_RvKnown_r9, proofmarklaw10_RvKnown_r10, proofmarklaw10_RvKnown_r11, proofmarklaw10_RvKnown_r12, proofmarklaw10_RvKnown_r13, proofmarklaw10_RvKnown_r14, proofmarklaw10_RvKnown_r15, proofmarklaw10_RvKnown_r16, proofmarklaw10_RvKnown_r17, proofmarklaw10_RvKnown_r18, proofmarklaw10_RvKnown_r19, proofmarklaw10_RvKnown_r20, proofmarklaw10_RvKnown_r21, proofmarklaw10_RvKnown_r22, proofmarklaw10_RvKnown_r23, proofmarklaw10_RvKnown_r24, proofmarklaw10_RvKnown_r25, proofmarklaw10_RvKnown_r26, proofmarklaw10_RvKnown_r27, proofmarklaw10_RvKnown_r28, proofmarklaw10_RvKnown_r29, proofmarklaw10_RvKnown_r30, proofmarklaw10_RvKnown_r31, proofmarklaw10_RvKnown_r32, proofmarklaw10_RvKnown_r33, proofmarklaw10_RvKnown_r34, proofmarklaw10_RvKnown_r35, proofmarklaw10_RvKnown_r36, proofmarklaw10_RvKnown_r37, inC, not_true_eq_false, not_false_eq_true, false_implies, true_implies, true_and, and_true, Bool.not_true, Bool.not_false, Int.reduceBEq, Int.reduceBNe, List.length_map, bne_self_eq_false]))
    refine callPS hT t_proofmarklaw10_RvTells (pT _ _ _ (by first | exact .inl rfl | exact .inr rfl) (by first | exact .inl rfl | exact .inr rfl) (by first | exact .inl rfl | exact .inr rfl)) rfl 4 ?_
    simp -implicitDefEqProofs (disch := omega) only [go_sem, ↓reduceIte, Nat.reduceAdd, Nat.reduceEqDiff, Bool.not_true, Bool.not_true]
    iterate 9 (try (refine run_sem 4 ?_; simp -implicitDefEqProofs (disch := omega) only [go_sem, ↓reduceIte, reduceCtorEq, Nat.reduceAdd, Nat.reduceEqDiff, Nat.zero_add, Nat.le_refl, false_implies, and_true]))
    refine callPS hT t_rv_Encode (pC _ _ _ (by first | exact .inl rfl | exact .inr rfl) (by first | exact .inl rfl | exact .inr rfl) (by first | exact .inl rfl | exact .inr rfl)) rfl 4 ?_
    simp -implicitDefEqProofs (disch := omega) only [go_sem, ↓reduceIte, Nat.reduceAdd, Nat.reduceEqDiff, Nat.reduceLT, Nat.zero_add]
    iterate 9 (try (refine run_sem 4 ?_; simp -implicitDefEqProofs (disch := omega) only [go_sem, ↓reduceIte, Nat.reduceEqDiff]))
    refine sem_upto 32 (bJ o q k tx nums z nn _ _ _) (bE o q k tx nums z nn _) ⟨t + 1, rfl, rfl, rfl, rfl, rfl, rfl, rfl, rfl, rfl, rfl, rfl⟩ (fun b hb fr σ hJ => b_round hT F h2 h16 (pW _ _ _ (by first | exact .inl rfl | exact .inr rfl) (by first | exact .inl rfl | exact .inr rfl) (by first | exact .inl rfl | exact .inr rfl)) hb hJ) (fun b hb fr σ hJ => b_done hb hJ) (fun e fr σ hE => ?_)
    · obtain ⟨rfl, t', f6, f64, f65, f66, f8, f9, f10, rfl⟩ := hE
      refine sem_exit2 [(6, .int .i64 ((o : Nat) : Int)), (64, .lst 1 nums true), (65, .int .i64 z), (66, .int .i64 ((q : Nat) : Int)), (8, .int .i64 nn), (9, .ptr 0 tx 0), (10, .int .i64 ((k : Nat) : Int))] ⟨f6, f64, f65, f66, f8, f9, f10, trivial⟩  40 ?_
      simp -implicitDefEqProofs (disch := omega) only [go_sem, ↓reduceIte, Nat.reduceEqDiff]
      refine ⟨_, _, Shift.drop (o' := [some (.arr tx 24 (inC x))]) (t' := t') (by simp [subObs, inC]) (Nat.le_refl _) (Nat.zero_le _), t', ?_⟩
      simp -implicitDefEqProofs (disch := omega) only [go_sem, ↓reduceIte, Nat.reduceEqDiff, inC, and_true, e2]
end Go.Proofs.YtkhdfbokkneeaaaDoor

/- The law RvKnown: closed. -/
namespace Go.Proofs.YtkhdfbokkneeaaaDoor
open Go Go.Am Go.Rv
set_option maxRecDepth 100000

def numsL : List Int := [0, 1, 2, 31, 32, 63, 64, 2046, 2047, 2048, 4094, 4096, 1048574, 1048576, 2147479552, 2147483648, -1, -2, -2048, -2049, -4096, -4098, -1048576, -1048578, -2147483648, -2147487744, 4611686018427387904, -9223372036854775808]
theorem u8w (n : Int) : 0 ≤ IntKind.u8.wrap n ∧ IntKind.u8.wrap n ≤ 255 := by
  simp only [IntKind.wrap, IntKind.bits, IntKind.signed]
  simp
  omega
theorem numsL_ok : ∀ n ∈ numsL, -9223372036854775808 ≤ n ∧ n ≤ 9223372036854775807 := by decide
abbrev k2J (o : Nat) : Nat → Fr → H → Prop := fun q fr σ => ∃ t, fget fr 6 = .int .i64 ((o : Nat) : Int) ∧ fget fr 64 = .lst 1 (numsL.map (V.int .i64)) true ∧ fget fr 65 = .int .i64 28 ∧ fget fr 66 = .int .i64 ((q : Nat) : Int) ∧ σ = ⟨t, []⟩
abbrev k2E (o : Nat) : AE → Fr → H → Prop := fun ex fr σ => ex = .ex 4 ∧ ∃ t, fget fr 6 = .int .i64 ((o : Nat) : Int) ∧ σ = ⟨t, []⟩
theorem k2_round (hT : TabOk Tryd.prog tab) (F : Lb Tryd.prog) (hf : F.fmt = fmt10) (h2 : F.fmt 2 = [50]) (h16 : F.fmt (-16) = [45, 49, 54]) {o : Nat} (ho : o < 70) {q : Nat} {nn : Int} (hq : numsL[q]? = some nn) {fr : Fr} {σ : H} (hJ : k2J o q fr σ) :
    W Tryd.prog G0 170 0 (AC.seq (AC.reg proofmarklaw10_RvKnown_r12 [])   (AC.seq (AC.cond (Arg.t 67)   AC.skip   (AC.exit 4))   (AC.seq (AC.block 5 (AC.seq (AC.reg proofmarklaw10_RvKnown_r13 [68, 69])   (AC.seq (AC.reg proofmarklaw10_RvKnown_r14 [70, 71, 72, 73, 74, 75, 76, 77, 78, 79, 80, 81, 82, 83, 84])   (AC.seq (AC.reg proofmarklaw10_RvKnown_r15 [])   (AC.block 6 (AC.loop (AC.seq (AC.seq (AC.reg proofmarklaw10_RvKnown_r16 [85])   (AC.cond (Arg.t 86)   AC.skip   (AC.exit 6)))   (AC.seq (AC.block 7 (AC.seq (AC.reg proofmarklaw10_RvKnown_r17 [89])   (AC.seq (AC.seq (AC.reg proofmarklaw10_RvKnown_r18 [90, 91])   (AC.cond (Arg.t 92)   (AC.reg proofmarklaw10_RvKnown_r19 [93])   AC.skip))   (AC.seq (AC.seq (AC.reg proofmarklaw10_RvKnown_r20 [94, 95])   (AC.cond (Arg.t 96)   (AC.reg proofmarklaw10_RvKnown_r21 [97])   AC.skip))   (AC.seq (AC.seq (AC.reg proofmarklaw10_RvKnown_r22 [98, 99])   (AC.cond (Arg.t 100)   (AC.reg proofmarklaw10_RvKnown_r23 [101])   AC.skip))   (AC.seq (AC.seq (AC.reg proofmarklaw10_RvKnown_r24 [102, 103, 104, 105, 106, 107, 108])   (AC.cond (Arg.t 109)   (AC.seq (AC.reg proofmarklaw10_RvKnown_r25 [])   AC.ret)   AC.skip))   (AC.seq (AC.reg proofmarklaw10_RvKnown_r26 [111, 112, 110, 113, 114])   (AC.seq (AC.reg proofmarklaw10_RvKnown_r27 [])   (AC.block 8 (AC.loop (AC.seq (AC.seq (AC.reg proofmarklaw10_RvKnown_r28 [115, 116, 117, 118, 119, 120, 121, 122, 123])   (AC.cond (Arg.t 124)   AC.skip   (AC.exit 8)))   (AC.seq (AC.block 9 (AC.seq (AC.reg proofmarklaw10_RvKnown_r29 [127, 128, 129, 130, 131])   (AC.cond (Arg.t 132)   (AC.seq (AC.reg proofmarklaw10_RvKnown_r30 [])   AC.ret)   AC.skip)))   (AC.reg proofmarklaw10_RvKnown_r31 [125, 126])))))))))))))   (AC.reg proofmarklaw10_RvKnown_r32 [87, 88])))))))))   (AC.reg proofmarklaw10_RvKnown_r33 [133])))) fr σ (seqQ (fun fr σ => ∃ fr' σ', Shift G0 170 0 fr σ fr' σ' ∧ k2J o (q + 1) fr' σ') (k2E o)) := by
  obtain ⟨t, f6, f64, f65, f66, rfl⟩ := hJ
  have hq28 : q < 28 := (List.getElem?_eq_some_iff.1 hq).1
  have hlt : ((q : Int) < 28) = True := eq_true (by omega)
  have hlen : (numsL.map (V.int .i64)).length = 28 := rfl
  have hD : (numsL.map (V.int .i64)).getD q V.any = .int .i64 nn := by simp [List.getD_eq_getElem?_getD, hq]
  have hl28 : numsL.length = 28 := rfl
  have e2 := wnx hq28 (by omega)
  have hx : InOk ⟨IntKind.u8.wrap (o : Int), IntKind.u8.wrap ((o : Int).tmod 32), IntKind.u8.wrap ((IntKind.i64.wrap ((o : Int) * 7)).tmod 32), IntKind.u8.wrap ((IntKind.i64.wrap ((o : Int) * 5)).tmod 32), nn⟩ := ⟨u8w _, u8w _, u8w _, u8w _, numsL_ok nn (List.mem_of_getElem? hq)⟩
  refine W_round [(6, .int .i64 ((o : Nat) : Int)), (64, .lst 1 (numsL.map (V.int .i64)) true), (65, .int .i64 28), (66, .int .i64 ((q : Nat) : Int))] ⟨f6, f64, f65, f66, trivial⟩  40 ?_
  simp -implicitDefEqProofs (disch := omega) only [go_sem, need_of, ↓reduceIte, Nat.reduceAdd, Nat.reduceEqDiff, Nat.reduceLeDiff, Int.reduceEq, Nat.zero_add, decide_true, Bool.not_false, Nat.le_refl, proofmarklaw10_RvKnown_r12, proofmarklaw10_RvKnown_r13, proofmarklaw10_RvKnown_r14, proofmarklaw10_RvKnown_r15, proofmarklaw10_RvKnown_r16, proofmarklaw10_RvKnown_r17, proofmarklaw10_RvKnown_r18, proofmarklaw10_RvKnown_r19, proofmarklaw10_RvKnown_r20, proofmarklaw10_RvKnown_r21, proofmarklaw10_RvKnown_r22, proofmarklaw10_RvKnown_r23, proofmarklaw10_RvKnown_r24, proofmarklaw10_RvKnown_r25, proofmarklaw10_RvKnown_r26, proofmarklaw10_RvKnown_r27, proofmarklaw10_RvKnown_r28, proofmarklaw10_RvKnown_r29, proofmarklaw10_RvKnown_r30, proofmarklaw10_RvKnown_r31, proofmarklaw10_RvKnown_r32, proofmarklaw10_RvKnown_r33, not_false_eq_true, true_implies, and_true, Bool.not_false, List.length_map, hlt, hD, hl28, hq28]
  refine sem_upto 8 (k3J o q t (numsL.map (V.int .i64)) 28 nn ⟨IntKind.u8.wrap (o : Int), IntKind.u8.wrap ((o : Int).tmod 32), IntKind.u8.wrap ((IntKind.i64.wrap ((o : Int) * 7)).tmod 32), IntKind.u8.wrap ((IntKind.i64.wrap ((o : Int) * 5)).tmod 32), nn⟩) (k3E o q (numsL.map (V.int .i64)) 28) ⟨t + 1, rfl, rfl, rfl, rfl, rfl, rfl, rfl, rfl⟩ (fun k hk fr σ hJ => k3_round hT F hf h2 h16 hx hk hJ) (fun k hk fr σ hJ => ?_) (fun e fr σ hE => ?_)
  · obtain ⟨t', f6, f64, f65, f66, f8, f9, f10, rfl⟩ := hJ
    refine W_round [(6, .int .i64 ((o : Nat) : Int)), (64, .lst 1 (numsL.map (V.int .i64)) true), (65, .int .i64 28), (66, .int .i64 ((q : Nat) : Int)), (10, .int .i64 ((k : Nat) : Int))] ⟨f6, f64, f65, f66, f10, trivial⟩ 40 ?_
    have hk8 : ((k : Int) < 8) = False := eq_false (by omega)
    simp -implicitDefEqProofs (disch := omega) only [go_sem, ↓reduceIte, Nat.reduceEqDiff, decide_false, inC, hk8]
    exact ⟨rfl, _, _, rfl, rfl, rfl, rfl, rfl⟩
  · obtain ⟨rfl, t', ob, f6, f64, f65, f66, rfl⟩ := hE
    refine sem_exit2 [(6, .int .i64 ((o : Nat) : Int)), (64, .lst 1 (numsL.map (V.int .i64)) true), (65, .int .i64 28), (66, .int .i64 ((q : Nat) : Int))] ⟨f6, f64, f65, f66, trivial⟩  40 ?_
    simp -implicitDefEqProofs (disch := omega) only [go_sem, ↓reduceIte, Nat.reduceEqDiff]
    refine ⟨_, _, Shift.drop (o' := []) (t' := t') (by simp [subObs]) (Nat.le_refl _) (Nat.zero_le _), t', ?_⟩
    simp -implicitDefEqProofs (disch := omega) only [go_sem, ↓reduceIte, Nat.reduceEqDiff, and_true, e2]
abbrev k1J : Nat → Fr → H → Prop := fun o fr σ => ∃ t, fget fr 6 = .int .i64 ((o : Nat) : Int) ∧ σ = ⟨t, []⟩
theorem k1_round (hT : TabOk Tryd.prog tab) (F : Lb Tryd.prog) (hf : F.fmt = fmt10) (h2 : F.fmt 2 = [50]) (h16 : F.fmt (-16) = [45, 49, 54]) {o : Nat} (ho : o < 70) {fr : Fr} {σ : H} (hJ : k1J o fr σ) :
    W Tryd.prog G0 170 0 (AC.seq (AC.seq (AC.reg proofmarklaw10_RvKnown_r10 [60])   (AC.cond (Arg.t 61)   AC.skip   (AC.exit 2)))   (AC.seq (AC.block 3 (AC.seq (AC.seq (AC.reg proofmarklaw10_RvKnown_r11 [])   (AC.block 4 (AC.loop (AC.seq (AC.reg proofmarklaw10_RvKnown_r12 [])   (AC.seq (AC.cond (Arg.t 67)   AC.skip   (AC.exit 4))   (AC.seq (AC.block 5 (AC.seq (AC.reg proofmarklaw10_RvKnown_r13 [68, 69])   (AC.seq (AC.reg proofmarklaw10_RvKnown_r14 [70, 71, 72, 73, 74, 75, 76, 77, 78, 79, 80, 81, 82, 83, 84])   (AC.seq (AC.reg proofmarklaw10_RvKnown_r15 [])   (AC.block 6 (AC.loop (AC.seq (AC.seq (AC.reg proofmarklaw10_RvKnown_r16 [85])   (AC.cond (Arg.t 86)   AC.skip   (AC.exit 6)))   (AC.seq (AC.block 7 (AC.seq (AC.reg proofmarklaw10_RvKnown_r17 [89])   (AC.seq (AC.seq (AC.reg proofmarklaw10_RvKnown_r18 [90, 91])   (AC.cond (Arg.t 92)   (AC.reg proofmarklaw10_RvKnown_r19 [93])   AC.skip))   (AC.seq (AC.seq (AC.reg proofmarklaw10_RvKnown_r20 [94, 95])   (AC.cond (Arg.t 96)   (AC.reg proofmarklaw10_RvKnown_r21 [97])   AC.skip))   (AC.seq (AC.seq (AC.reg proofmarklaw10_RvKnown_r22 [98, 99])   (AC.cond (Arg.t 100)   (AC.reg proofmarklaw10_RvKnown_r23 [101])   AC.skip))   (AC.seq (AC.seq (AC.reg proofmarklaw10_RvKnown_r24 [102, 103, 104, 105, 106, 107, 108])   (AC.cond (Arg.t 109)   (AC.seq (AC.reg proofmarklaw10_RvKnown_r25 [])   AC.ret)   AC.skip))   (AC.seq (AC.reg proofmarklaw10_RvKnown_r26 [111, 112, 110, 113, 114])   (AC.seq (AC.reg proofmarklaw10_RvKnown_r27 [])   (AC.block 8 (AC.loop (AC.seq (AC.seq (AC.reg proofmarklaw10_RvKnown_r28 [115, 116, 117, 118, 119, 120, 121, 122, 123])   (AC.cond (Arg.t 124)   AC.skip   (AC.exit 8)))   (AC.seq (AC.block 9 (AC.seq (AC.reg proofmarklaw10_RvKnown_r29 [127, 128, 129, 130, 131])   (AC.cond (Arg.t 132)   (AC.seq (AC.reg proofmarklaw10_RvKnown_r30 [])   AC.ret)   AC.skip)))   (AC.reg proofmarklaw10_RvKnown_r31 [125, 126])))))))))))))   (AC.reg proofmarklaw10_RvKnown_r32 [87, 88])))))))))   (AC.reg proofmarklaw10_RvKnown_r33 [133])))))))   (AC.seq (AC.reg proofmarklaw10_RvKnown_r34 [134, 135, 136, 137, 138, 139, 140, 141, 142, 143, 144, 145, 146, 147, 148, 149, 150, 151])   (AC.cond (Arg.t 152)   (AC.seq (AC.reg proofmarklaw10_RvKnown_r35 [])   AC.ret)   AC.skip))))   (AC.reg proofmarklaw10_RvKnown_r36 [62, 63]))) fr σ (seqQ (fun fr σ => ∃ fr' σ', Shift G0 170 0 fr σ fr' σ' ∧ k1J (o + 1) fr' σ') fun e fr σ => e = .ex 2) := by
  obtain ⟨t, f6, rfl⟩ := hJ
  have hlt : ((o : Int) < 70) = True := eq_true (by omega)
  have e2 := wnx ho (by omega)
  have pE := fun a b c d (hx : InOk ⟨a, b, c, d, 0⟩) => p_RvEncodes hT F h2 h16 ⟨a, b, c, d, 0⟩ hx
  simp only [inC] at pE
  have o1 := pE (IntKind.u8.wrap (o : Int)) 32 0 0 ⟨u8w _, (show (0 : Int) ≤ 32 ∧ (32 : Int) ≤ 255 by decide), (show (0 : Int) ≤ 0 ∧ (0 : Int) ≤ 255 by decide), (show (0 : Int) ≤ 0 ∧ (0 : Int) ≤ 255 by decide), (show i64 0 by unfold i64; decide)⟩
  have o2 := pE (IntKind.u8.wrap (o : Int)) 0 32 0 ⟨u8w _, (show (0 : Int) ≤ 0 ∧ (0 : Int) ≤ 255 by decide), (show (0 : Int) ≤ 32 ∧ (32 : Int) ≤ 255 by decide), (show (0 : Int) ≤ 0 ∧ (0 : Int) ≤ 255 by decide), (show i64 0 by unfold i64; decide)⟩
  have o3 := pE (IntKind.u8.wrap (o : Int)) 0 0 255 ⟨u8w _, (show (0 : Int) ≤ 0 ∧ (0 : Int) ≤ 255 by decide), (show (0 : Int) ≤ 0 ∧ (0 : Int) ≤ 255 by decide), (show (0 : Int) ≤ 255 ∧ (255 : Int) ≤ 255 by decide), (show i64 0 by unfold i64; decide)⟩
  refine W_round [(6, .int .i64 ((o : Nat) : Int))] ⟨f6, trivial⟩ 40 ?_
  simp -implicitDefEqProofs (disch := omega) only [go_sem, ↓reduceIte, Nat.reduceAdd, Nat.reduceEqDiff, Nat.reduceLeDiff, Nat.zero_add, decide_true, Nat.le_refl, proofmarklaw10_RvKnown_r10, proofmarklaw10_RvKnown_r11, proofmarklaw10_RvKnown_r12, proofmarklaw10_RvKnown_r13, proofmarklaw10_RvKnown_r14, proofmarklaw10_RvKnown_r15, proofmarklaw10_RvKnown_r16, proofmarklaw10_RvKnown_r17, proofmarklaw10_RvKnown_r18, proofmarklaw10_RvKnown_r19, proofmarklaw10_RvKnown_r20, proofmarklaw10_RvKnown_r21, proofmarklaw10_RvKnown_r22, proofmarklaw10_RvKnown_r23, proofmarklaw10_RvKnown_r24, proofmarklaw10_RvKnown_r25, proofmarklaw10_RvKnown_r26, proofmarklaw10_RvKnown_r27, proofmarklaw10_RvKnown_r28, proofmarklaw10_RvKnown_r29, proofmarklaw10_RvKnown_r30, proofmarklaw10_RvKnown_r31, proofmarklaw10_RvKnown_r32, proofmarklaw10_RvKnown_r33, proofmarklaw10_RvKnown_r34, proofmarklaw10_RvKnown_r35, proofmarklaw10_RvKnown_r36, and_true, hlt]
  refine sem_for numsL (k2J o) (k2E o) ⟨t, rfl, rfl, rfl, rfl, rfl⟩ (fun q nn hq fr σ hJ => k2_round hT F hf h2 h16 ho hq hJ) (fun q hq fr σ hJ => ?_) (fun e fr σ hE => ?_)
  · obtain ⟨t', f6, f64, f65, f66, rfl⟩ := hJ
    refine W_round [(6, .int .i64 ((o : Nat) : Int)), (64, .lst 1 (numsL.map (V.int .i64)) true), (65, .int .i64 28), (66, .int .i64 ((q : Nat) : Int))] ⟨f6, f64, f65, f66, trivial⟩ 40 ?_
    have hl28 : numsL.length = 28 := rfl
    have hk8 : ((q : Int) < 28) = False := eq_false (by omega)
    simp -implicitDefEqProofs (disch := omega) only [go_sem, ↓reduceIte, Nat.reduceEqDiff, decide_false, hk8]
    exact ⟨rfl, _, rfl, rfl⟩
  · obtain ⟨rfl, t', f6, rfl⟩ := hE
    refine sem_exit [(6, .int .i64 ((o : Nat) : Int))] ⟨f6, trivial⟩ 4 ?_
    simp -implicitDefEqProofs (disch := omega) only [go_sem, ↓reduceIte, Nat.reduceEqDiff]
    iterate 9 (try (refine run_sem 4 ?_; simp -implicitDefEqProofs (disch := omega) only [go_sem, ↓reduceIte, Nat.reduceAdd, Nat.reduceEqDiff, Nat.reduceLeDiff, Nat.zero_add, and_true]))
    refine callPS hT t_proofmarklaw10_RvEncodes o1 rfl 4 ?_
    simp -implicitDefEqProofs (disch := omega) only [go_sem, ↓reduceIte, Nat.reduceAdd, Nat.reduceEqDiff, Nat.zero_add, Bool.not_true, Bool.not_true]
    iterate 9 (try (refine run_sem 4 ?_; simp -implicitDefEqProofs (disch := omega) only [go_sem, ↓reduceIte, Nat.reduceAdd, Nat.reduceEqDiff, Nat.reduceLeDiff, Nat.zero_add, and_true]))
    refine callPS hT t_proofmarklaw10_RvEncodes o2 rfl 4 ?_
    simp -implicitDefEqProofs (disch := omega) only [go_sem, ↓reduceIte, Nat.reduceAdd, Nat.reduceEqDiff, Nat.zero_add, Bool.not_true, Bool.not_true]
    iterate 9 (try (refine run_sem 4 ?_; simp -implicitDefEqProofs (disch := omega) only [go_sem, ↓reduceIte, Nat.reduceAdd, Nat.reduceEqDiff, Nat.reduceLeDiff, Nat.zero_add, and_true]))
    refine callPS hT t_proofmarklaw10_RvEncodes o3 rfl 4 ?_
    simp -implicitDefEqProofs (disch := omega) only [go_sem, ↓reduceIte, Nat.reduceAdd, Nat.reduceEqDiff, Bool.not_true, Bool.not_true]
    iterate 9 (try (refine run_sem 4 ?_; simp -implicitDefEqProofs (disch := omega) only [go_sem, ↓reduceIte, Nat.reduceEqDiff]))
    refine ⟨_, _, Shift.refl _ _ _ _, t', ?_⟩
    simp -implicitDefEqProofs (disch := omega) only [go_sem, ↓reduceIte, and_true, e2]
theorem names : (rro 0).name = [] ∧ (rro 65).name = [101, 98, 114, 101, 97, 107] ∧ (rro 66).name = [] ∧ (rro 255).name = [] := by decide +kernel
theorem c_RvKnown (hT : TabOk Tryd.prog tab) (F : Lb Tryd.prog) (hf : F.fmt = fmt10) (h2 : F.fmt 2 = [50]) (h16 : F.fmt (-16) = [45, 49, 54]) :
    C Tryd.prog G0 0 n_proofmarklaw10_RvKnown [] ⟨0, []⟩ fun v _ => v = .bool true := by
  have hW := c_works hT F h2 h16
  have q1 := c_Name (P := Tryd.prog) hT 0 (by decide) (by decide)
  have q2 := c_Name (P := Tryd.prog) hT 65 (by decide) (by decide)
  have q3 := c_Name (P := Tryd.prog) hT 66 (by decide) (by decide)
  have q4 := c_Name (P := Tryd.prog) hT 255 (by decide) (by decide)
  obtain ⟨y1, y2, y3, y4⟩ := names
  rw [y1] at q1
  rw [y2] at q2
  rw [y3] at q3
  rw [y4] at q4
  refine C_tab hT t_proofmarklaw10_RvKnown (by simp [proofmarklaw10_RvKnown]) (W_run 1000 ?_)
  simp -implicitDefEqProofs (disch := omega) only [go_sem, ↓reduceIte, reduceCtorEq, Nat.reduceAdd, Nat.reduceEqDiff, Nat.reduceLeDiff, Nat.zero_add, Nat.le_refl, proofmarklaw10_RvKnown, proofmarklaw10_RvKnown_r0, proofmarklaw10_RvKnown_r1, proofmarklaw10_RvKnown_r2, proofmarklaw10_RvKnown_r3, proofmarklaw10_RvKnown_r4, proofmarklaw10_RvKnown_r5, proofmarklaw10_RvKnown_r6, proofmarklaw10_RvKnown_r7, proofmarklaw10_RvKnown_r8, proofmarklaw10_RvKnown_r9, proofmarklaw10_RvKnown_r10, proofmarklaw10_RvKnown_r11, proofmarklaw10_RvKnown_r12, proofmarklaw10_RvKnown_r13, proofmarklaw10_RvKnown_r14, proofmarklaw10_RvKnown_r15, proofmarklaw10_RvKnown_r16, proofmarklaw10_RvKnown_r17, proofmarklaw10_RvKnown_r18, proofmarklaw10_RvKnown_r19, proofmarklaw10_RvKnown_r20, proofmarklaw10_RvKnown_r21, proofmarklaw10_RvKnown_r22, proofmarklaw10_RvKnown_r23, proofmarklaw10_RvKnown_r24, proofmarklaw10_RvKnown_r25, proofmarklaw10_RvKnown_r26, proofmarklaw10_RvKnown_r27, proofmarklaw10_RvKnown_r28, proofmarklaw10_RvKnown_r29, proofmarklaw10_RvKnown_r30, proofmarklaw10_RvKnown_r31, proofmarklaw10_RvKnown_r32, proofmarklaw10_RvKnown_r33, proofmarklaw10_RvKnown_r34, proofmarklaw10_RvKnown_r35, proofmarklaw10_RvKnown_r36, proofmarklaw10_RvKnown_r37, and_true]
  refine sem_for wts kwJ (fun e fr σ => e = .ex 0 ∧ ∃ t', σ = ⟨t', []⟩) ⟨0, rfl, rfl, rfl, rfl⟩ (fun i p hp fr σ hJ => w_round hT F hf h2 h16 hp hJ) (fun i hi fr σ hJ => ?_) (fun e fr σ hE => ?_)
  · obtain ⟨t, f1, f2, f3, rfl⟩ := hJ
    refine W_round [(1, .lst 1 (wts.map fun p => V.int .u32 p.1) true), (3, .int .i64 ((i : Nat) : Int))] ⟨f1, f3, trivial⟩ 40 ?_
    have hl : wts.length = i := hi.symm
    simp -implicitDefEqProofs (disch := omega) only [go_sem, ↓reduceIte, Nat.reduceEqDiff, decide_false, true_and, and_true, List.length_map, hl, Int.lt_irrefl]
    exact ⟨t, rfl⟩
  · obtain ⟨rfl, t, rfl⟩ := hE
    refine run_sem 10 ?_
    simp -implicitDefEqProofs (disch := omega) only [go_sem, ↓reduceIte]
    refine sem_upto 70 k1J (fun e fr σ => e = .ex 2) ⟨t, ?_, rfl⟩ (fun o ho fr σ hJ => k1_round hT F hf h2 h16 ho hJ) (fun o ho fr σ hJ => ?_) (fun e fr σ hE => ?_)
    · simp -implicitDefEqProofs (disch := omega) only [go_sem, ↓reduceIte]
      simp
    · obtain ⟨t, f6, rfl⟩ := hJ
      refine W_round [(6, .int .i64 ((o : Nat) : Int))] ⟨f6, trivial⟩ 40 ?_
      have hk8 : ((o : Int) < 70) = False := eq_false (by omega)
      simp -implicitDefEqProofs (disch := omega) only [go_sem, ↓reduceIte, Nat.reduceEqDiff, decide_false, hk8]
    · obtain rfl := hE
      refine run_sem 4 ?_
      simp -implicitDefEqProofs (disch := omega) only [go_sem, ↓reduceIte]
      iterate 9 (try (refine run_sem 4 ?_; simp -implicitDefEqProofs (disch := omega) only [go_sem, need_of, ↓reduceIte, reduceCtorEq, Nat.reduceAdd, Nat.reduceEqDiff, Nat.reduceLeDiff, Nat.reduceLT, Nat.reduceSub, Nat.reduceMul, Int.reduceToNat, Int.reduceLE, Int.reduceLT, Int.reduceEq, Int.reduceNe, Nat.succ_ne_zero, Nat.zero_add, Nat.add_zero, Nat.mul_one, Nat.one_mul, Nat.zero_mul, decide_true, decide_false, Bool.not_true, Bool.not_false, Nat.le_refl, Nat.zero_le, ge_iff_le, gt_iff_lt, Nat.reduceBEq, Nat.reduceBNe, beq_self_eq_true, bne_self_eq_false, Option.isSome_some, Option.isSome_none, Option.getD_some, Option.getD_none, proofmarklaw10_RvKnown, proofmarklaw10_RvKnown_r0, proofmarklaw10_RvKnown_r1, proofmarklaw10_RvKnown_r2, proofmarklaw10_RvKnown_r3, proofmarklaw10_RvKnown_r4, proofmarklaw10_RvKnown_r5, proofmarklaw10_RvKnown_r6, proofmarklaw10_RvKnown_r7, proofmarklaw10_RvKnown_r8, proofmarklaw10_RvKnown_r9, proofmarklaw10_RvKnown_r10, proofmarklaw10_RvKnown_r11, proofmarklaw10_RvKnown_r12, proofmarklaw10_RvKnown_r13, proofmarklaw10_RvKnown_r14, proofmarklaw10_RvKnown_r15, proofmarklaw10_RvKnown_r16, proofmarklaw10_RvKnown_r17, proofmarklaw10_RvKnown_r18, proofmarklaw10_RvKnown_r19, proofmarklaw10_RvKnown_r20, proofmarklaw10_RvKnown_r21, proofmarklaw10_RvKnown_r22, proofmarklaw10_RvKnown_r23, proofmarklaw10_RvKnown_r24, proofmarklaw10_RvKnown_r25, proofmarklaw10_RvKnown_r26, proofmarklaw10_RvKnown_r27, proofmarklaw10_RvKnown_r28, proofmarklaw10_RvKnown_r29, proofmarklaw10_RvKnown_r30, proofmarklaw10_RvKnown_r31, proofmarklaw10_RvKnown_r32, proofmarklaw10_RvKnown_r33, proofmarklaw10_RvKnown_r34, proofmarklaw10_RvKnown_r35, proofmarklaw10_RvKnown_r36, proofmarklaw10_RvKnown_r37, inC, not_true_eq_false, not_false_eq_true, false_implies, true_implies, true_and, and_true, Bool.not_true, Bool.not_false, Int.reduceBEq, Int.reduceBNe, List.length_map, bne_self_eq_false]))
      refine callPS hT t_rv_Name q1 rfl 4 ?_
      simp -implicitDefEqProofs (disch := omega) only [go_sem, ↓reduceIte, Nat.reduceAdd, beq_self_eq_true]
      iterate 9 (try (refine run_sem 4 ?_; simp -implicitDefEqProofs (disch := omega) only [go_sem, need_of, ↓reduceIte, reduceCtorEq, Nat.reduceAdd, Nat.reduceEqDiff, Nat.reduceLeDiff, Nat.reduceLT, Nat.reduceSub, Nat.reduceMul, Int.reduceToNat, Int.reduceLE, Int.reduceLT, Int.reduceEq, Int.reduceNe, Nat.succ_ne_zero, Nat.zero_add, Nat.add_zero, Nat.mul_one, Nat.one_mul, Nat.zero_mul, decide_true, decide_false, Bool.not_true, Bool.not_false, Nat.le_refl, Nat.zero_le, ge_iff_le, gt_iff_lt, Nat.reduceBEq, Nat.reduceBNe, beq_self_eq_true, bne_self_eq_false, Option.isSome_some, Option.isSome_none, Option.getD_some, Option.getD_none, proofmarklaw10_RvKnown, proofmarklaw10_RvKnown_r0, proofmarklaw10_RvKnown_r1, proofmarklaw10_RvKnown_r2, proofmarklaw10_RvKnown_r3, proofmarklaw10_RvKnown_r4, proofmarklaw10_RvKnown_r5, proofmarklaw10_RvKnown_r6, proofmarklaw10_RvKnown_r7, proofmarklaw10_RvKnown_r8, proofmarklaw10_RvKnown_r9, proofmarklaw10_RvKnown_r10, proofmarklaw10_RvKnown_r11, proofmarklaw10_RvKnown_r12, proofmarklaw10_RvKnown_r13, proofmarklaw10_RvKnown_r14, proofmarklaw10_RvKnown_r15, proofmarklaw10_RvKnown_r16, proofmarklaw10_RvKnown_r17, proofmarklaw10_RvKnown_r18, proofmarklaw10_RvKnown_r19, proofmarklaw10_RvKnown_r20, proofmarklaw10_RvKnown_r21, proofmarklaw10_RvKnown_r22, proofmarklaw10_RvKnown_r23, proofmarklaw10_RvKnown_r24, proofmarklaw10_RvKnown_r25, proofmarklaw10_RvKnown_r26, proofmarklaw10_RvKnown_r27, proofmarklaw10_RvKnown_r28, proofmarklaw10_RvKnown_r29, proofmarklaw10_RvKnown_r30, proofmarklaw10_RvKnown_r31, proofmarklaw10_RvKnown_r32, proofmarklaw10_RvKnown_r33, proofmarklaw10_RvKnown_r34, proofmarklaw10_RvKnown_r35, proofmarklaw10_RvKnown_r36, proofmarklaw10_RvKnown_r37, inC, not_true_eq_false, not_false_eq_true, false_implies, true_implies, true_and, and_true, Bool.not_true, Bool.not_false, Int.reduceBEq, Int.reduceBNe, List.length_map, bne_self_eq_false]))
      refine callPS hT t_rv_Name q2 rfl 4 ?_
      simp -implicitDefEqProofs (disch := omega) only [go_sem, ↓reduceIte, Nat.reduceAdd, Nat.reduceEqDiff, Nat.zero_add, beq_self_eq_true]
      iterate 9 (try (refine run_sem 4 ?_; simp -implicitDefEqProofs (disch := omega) only [go_sem, need_of, ↓reduceIte, reduceCtorEq, Nat.reduceAdd, Nat.reduceEqDiff, Nat.reduceLeDiff, Nat.reduceLT, Nat.reduceSub, Nat.reduceMul, Int.reduceToNat, Int.reduceLE, Int.reduceLT, Int.reduceEq, Int.reduceNe, Nat.succ_ne_zero, Nat.zero_add, Nat.add_zero, Nat.mul_one, Nat.one_mul, Nat.zero_mul, decide_true, decide_false, Bool.not_true, Bool.not_false, Nat.le_refl, Nat.zero_le, ge_iff_le, gt_iff_lt, Nat.reduceBEq, Nat.reduceBNe, beq_self_eq_true, bne_self_eq_false, Option.isSome_some, Option.isSome_none, Option.getD_some, Option.getD_none, proofmarklaw10_RvKnown, proofmarklaw10_RvKnown_r0, proofmarklaw10_RvKnown_r1, proofmarklaw10_RvKnown_r2, proofmarklaw10_RvKnown_r3, proofmarklaw10_RvKnown_r4, proofmarklaw10_RvKnown_r5, proofmarklaw10_RvKnown_r6, proofmarklaw10_RvKnown_r7, proofmarklaw10_RvKnown_r8, proofmarklaw10_RvKnown_r9, proofmarklaw10_RvKnown_r10, proofmarklaw10_RvKnown_r11, proofmarklaw10_RvKnown_r12, proofmarklaw10_RvKnown_r13, proofmarklaw10_RvKnown_r14, proofmarklaw10_RvKnown_r15, proofmarklaw10_RvKnown_r16, proofmarklaw10_RvKnown_r17, proofmarklaw10_RvKnown_r18, proofmarklaw10_RvKnown_r19, proofmarklaw10_RvKnown_r20, proofmarklaw10_RvKnown_r21, proofmarklaw10_RvKnown_r22, proofmarklaw10_RvKnown_r23, proofmarklaw10_RvKnown_r24, proofmarklaw10_RvKnown_r25, proofmarklaw10_RvKnown_r26, proofmarklaw10_RvKnown_r27, proofmarklaw10_RvKnown_r28, proofmarklaw10_RvKnown_r29, proofmarklaw10_RvKnown_r30, proofmarklaw10_RvKnown_r31, proofmarklaw10_RvKnown_r32, proofmarklaw10_RvKnown_r33, proofmarklaw10_RvKnown_r34, proofmarklaw10_RvKnown_r35, proofmarklaw10_RvKnown_r36, proofmarklaw10_RvKnown_r37, inC, not_true_eq_false, not_false_eq_true, false_implies, true_implies, true_and, and_true, Bool.not_true, Bool.not_false, Int.reduceBEq, Int.reduceBNe, List.length_map, bne_self_eq_false]))
      refine callPS hT t_rv_Name q3 rfl 4 ?_
      simp -implicitDefEqProofs (disch := omega) only [go_sem, ↓reduceIte, Nat.reduceAdd, Nat.reduceEqDiff, Nat.zero_add, beq_self_eq_true]
      iterate 9 (try (refine run_sem 4 ?_; simp -implicitDefEqProofs (disch := omega) only [go_sem, need_of, ↓reduceIte, reduceCtorEq, Nat.reduceAdd, Nat.reduceEqDiff, Nat.reduceLeDiff, Nat.reduceLT, Nat.reduceSub, Nat.reduceMul, Int.reduceToNat, Int.reduceLE, Int.reduceLT, Int.reduceEq, Int.reduceNe, Nat.succ_ne_zero, Nat.zero_add, Nat.add_zero, Nat.mul_one, Nat.one_mul, Nat.zero_mul, decide_true, decide_false, Bool.not_true, Bool.not_false, Nat.le_refl, Nat.zero_le, ge_iff_le, gt_iff_lt, Nat.reduceBEq, Nat.reduceBNe, beq_self_eq_true, bne_self_eq_false, Option.isSome_some, Option.isSome_none, Option.getD_some, Option.getD_none, proofmarklaw10_RvKnown, proofmarklaw10_RvKnown_r0, proofmarklaw10_RvKnown_r1, proofmarklaw10_RvKnown_r2, proofmarklaw10_RvKnown_r3, proofmarklaw10_RvKnown_r4, proofmarklaw10_RvKnown_r5, proofmarklaw10_RvKnown_r6, proofmarklaw10_RvKnown_r7, proofmarklaw10_RvKnown_r8, proofmarklaw10_RvKnown_r9, proofmarklaw10_RvKnown_r10, proofmarklaw10_RvKnown_r11, proofmarklaw10_RvKnown_r12, proofmarklaw10_RvKnown_r13, proofmarklaw10_RvKnown_r14, proofmarklaw10_RvKnown_r15, proofmarklaw10_RvKnown_r16, proofmarklaw10_RvKnown_r17, proofmarklaw10_RvKnown_r18, proofmarklaw10_RvKnown_r19, proofmarklaw10_RvKnown_r20, proofmarklaw10_RvKnown_r21, proofmarklaw10_RvKnown_r22, proofmarklaw10_RvKnown_r23, proofmarklaw10_RvKnown_r24, proofmarklaw10_RvKnown_r25, proofmarklaw10_RvKnown_r26, proofmarklaw10_RvKnown_r27, proofmarklaw10_RvKnown_r28, proofmarklaw10_RvKnown_r29, proofmarklaw10_RvKnown_r30, proofmarklaw10_RvKnown_r31, proofmarklaw10_RvKnown_r32, proofmarklaw10_RvKnown_r33, proofmarklaw10_RvKnown_r34, proofmarklaw10_RvKnown_r35, proofmarklaw10_RvKnown_r36, proofmarklaw10_RvKnown_r37, inC, not_true_eq_false, not_false_eq_true, false_implies, true_implies, true_and, and_true, Bool.not_true, Bool.not_false, Int.reduceBEq, Int.reduceBNe, List.length_map, bne_self_eq_false]))
      refine callPS hT t_rv_Name q4 rfl 4 ?_
      simp -implicitDefEqProofs (disch := omega) only [go_sem, ↓reduceIte, Nat.reduceAdd, Nat.reduceEqDiff, Nat.zero_add, beq_self_eq_true]
      iterate 9 (try (refine run_sem 4 ?_; simp -implicitDefEqProofs (disch := omega) only [go_sem, need_of, ↓reduceIte, reduceCtorEq, Nat.reduceAdd, Nat.reduceEqDiff, Nat.reduceLeDiff, Nat.reduceLT, Nat.reduceSub, Nat.reduceMul, Int.reduceToNat, Int.reduceLE, Int.reduceLT, Int.reduceEq, Int.reduceNe, Nat.succ_ne_zero, Nat.zero_add, Nat.add_zero, Nat.mul_one, Nat.one_mul, Nat.zero_mul, decide_true, decide_false, Bool.not_true, Bool.not_false, Nat.le_refl, Nat.zero_le, ge_iff_le, gt_iff_lt, Nat.reduceBEq, Nat.reduceBNe, beq_self_eq_true, bne_self_eq_false, Option.isSome_some, Option.isSome_none, Option.getD_some, Option.getD_none, proofmarklaw10_RvKnown, proofmarklaw10_RvKnown_r0, proofmarklaw10_RvKnown_r1, proofmarklaw10_RvKnown_r2, proofmarklaw10_RvKnown_r3, proofmarklaw10_RvKnown_r4, proofmarklaw10_RvKnown_r5, proofmarklaw10_RvKnown_r6, proofmarklaw10_RvKnown_r7, proofmarklaw10_RvKnown_r8, proofmarklaw10_RvKnown_r9, proofmarklaw10_RvKnown_r10, proofmarklaw10_RvKnown_r11, proofmarklaw10_RvKnown_r12, proofmarklaw10_RvKnown_r13, proofmarklaw10_RvKnown_r14, proofmarklaw10_RvKnown_r15, proofmarklaw10_RvKnown_r16, proofmarklaw10_RvKnown_r17, proofmarklaw10_RvKnown_r18, proofmarklaw10_RvKnown_r19, proofmarklaw10_RvKnown_r20, proofmarklaw10_RvKnown_r21, proofmarklaw10_RvKnown_r22, proofmarklaw10_RvKnown_r23, proofmarklaw10_RvKnown_r24, proofmarklaw10_RvKnown_r25, proofmarklaw10_RvKnown_r26, proofmarklaw10_RvKnown_r27, proofmarklaw10_RvKnown_r28, proofmarklaw10_RvKnown_r29, proofmarklaw10_RvKnown_r30, proofmarklaw10_RvKnown_r31, proofmarklaw10_RvKnown_r32, proofmarklaw10_RvKnown_r33, proofmarklaw10_RvKnown_r34, proofmarklaw10_RvKnown_r35, proofmarklaw10_RvKnown_r36, proofmarklaw10_RvKnown_r37, inC, not_true_eq_false, not_false_eq_true, false_implies, true_implies, true_and, and_true, Bool.not_true, Bool.not_false, Int.reduceBEq, Int.reduceBNe, List.length_map, bne_self_eq_false]))
      refine callPS hT t_proofmarklaw10_works hW rfl 4 ?_
      simp -implicitDefEqProofs (disch := omega) only [go_sem, ↓reduceIte, Nat.reduceEqDiff]
      iterate 9 (try (refine run_sem 4 ?_; simp -implicitDefEqProofs (disch := omega) only [go_sem, ↓reduceIte, reduceCtorEq]))
end Go.Proofs.YtkhdfbokkneeaaaDoor
