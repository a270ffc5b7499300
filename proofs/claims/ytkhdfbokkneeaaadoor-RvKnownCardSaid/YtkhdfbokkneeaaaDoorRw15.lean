/- Encoding agrees with the document, and instructions that encode decode again: walked. -/
import Derived.Test.YtkhdfbokkneeaaaDoorRw14
import Derived.Test.YtkhdfbokkneeaaaDoorRw7
namespace Go.Proofs.YtkhdfbokkneeaaaDoor
open Go Go.Am Go.Rv
set_option maxRecDepth 100000

theorem enc_bad {x : In} (h : (enc T x).2 ≠ 0) : (enc T x).1 = 0 := by
  revert h
  unfold enc
  split
  · generalize T[(x.op - 1).toNat]? = o
    cases o with
    | none => simp
    | some r =>
      simp only
      split
      · simp
      · split
        · simp
        · intro h; exact absurd rfl h
  · simp

theorem c_RvEncodes (hT : TabOk Tryd.prog tab) (F : Lb Tryd.prog) (h2 : F.fmt 2 = [50]) (h16 : F.fmt (-16) = [45, 49, 54]) (x : In) (hx : InOk x) :
    C Tryd.prog G0 0 n_proofmarklaw10_RvEncodes [.agg (inC x)] ⟨0, []⟩ fun v _ => v = .bool true := by
  have hw := c_works hT F h2 h16
  have hE := c_Encode hT x hx
  have hr := c_rEncode hT x hx
  have hp := c_plain (P := Tryd.prog) (G := G0) hT x
  simp only [inC] at hE hr hp ⊢
  refine C_tab hT t_proofmarklaw10_RvEncodes (by simp [proofmarklaw10_RvEncodes]) (W_run 1000 ?_)
  simp -implicitDefEqProofs (disch := omega) only [go_sem, ↓reduceIte, reduceCtorEq, Nat.reduceAdd, Nat.reduceEqDiff, Nat.zero_add, Nat.le_refl, proofmarklaw10_RvEncodes, proofmarklaw10_RvEncodes_r0, proofmarklaw10_RvEncodes_r1, proofmarklaw10_RvEncodes_r2, proofmarklaw10_RvEncodes_r3, proofmarklaw10_RvEncodes_r4, proofmarklaw10_RvEncodes_r5, proofmarklaw10_RvEncodes_r6, proofmarklaw10_RvEncodes_r7, proofmarklaw10_RvEncodes_r8]
  refine callPS hT t_rv_Encode hE rfl 1000 ?_
  simp -implicitDefEqProofs (disch := omega) only [go_sem, ↓reduceIte, reduceCtorEq, Nat.reduceAdd, Nat.reduceEqDiff, Nat.reduceLT, Nat.zero_add, Nat.le_refl]
  refine callPS hT t_proofmarklaw10_plain hp rfl 1000 ?_
  simp -implicitDefEqProofs (disch := omega) only [go_sem, ↓reduceIte, reduceCtorEq, Nat.reduceEqDiff]
  refine callPS hT t_proofmarkref10_Encode hr rfl 1000 ?_
  by_cases he : (enc T x).2 = 0
  · obtain ⟨w0, w1, hf⟩ := dec_enc (x := x) (w := (enc T x).1) (by rw [← he]) hx.2.1.1 hx.2.2.1.1 hx.2.2.2.1.1
    have hd := c_Decode hT (enc T x).1 w0 w1
    rw [hf] at hd
    simp only [errT, inC] at hd
    rw [he]
    simp -implicitDefEqProofs (disch := omega) only [go_sem, ↓reduceIte, reduceCtorEq, Nat.reduceAdd, Nat.reduceEqDiff, Nat.reduceLT, Nat.zero_add, bne_self_eq_false]
    refine callPS hT t_rv_Decode hd rfl 1000 ?_
    simp -implicitDefEqProofs (disch := omega) only [go_sem, ↓reduceIte, reduceCtorEq, Nat.reduceAdd, Nat.reduceEqDiff, Nat.reduceLT, Nat.zero_add, Bool.not_false, Nat.le_refl, Nat.zero_le, beq_self_eq_true]
    refine callPS hT t_proofmarklaw10_works hw rfl 1000 ?_
    simp -implicitDefEqProofs (disch := omega) only [go_sem, ↓reduceIte, reduceCtorEq, Nat.reduceEqDiff]
  · rw [enc_bad he]
    simp -implicitDefEqProofs (disch := omega) only [go_sem, ↓reduceIte, reduceCtorEq, Nat.reduceAdd, Nat.reduceEqDiff, Nat.reduceLT, Nat.zero_add, beq_self_eq_true, bne_self_eq_false, he]
    refine ⟨?_, fun h => h.elim⟩
    refine callPS hT t_proofmarklaw10_works hw rfl 1000 ?_
    simp -implicitDefEqProofs (disch := omega) only [go_sem, ↓reduceIte, reduceCtorEq, Nat.reduceEqDiff]
end Go.Proofs.YtkhdfbokkneeaaaDoor
