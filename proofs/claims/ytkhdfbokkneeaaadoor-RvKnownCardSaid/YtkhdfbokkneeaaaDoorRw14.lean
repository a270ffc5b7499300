/- Decoding agrees with the document, and words that decode encode again: walked. -/
import Derived.Test.YtkhdfbokkneeaaaDoorRw13
namespace Go.Proofs.YtkhdfbokkneeaaaDoor
open Go Go.Am Go.Rv
set_option maxRecDepth 100000

theorem first_enc {w : Int} (h0 : 0 ≤ w) (h1 : w < 4294967296) {x : In} (h : first w 0 T = some x) : enc T x = (w, 0) ∧ InOk x := by
  obtain ⟨k, r, hk, hi, rfl⟩ := first_some h
  rw [Nat.zero_add]
  have he := enc_mk h0 h1 hk hi
  refine ⟨he, ?_⟩
  have hkl : k < 65 := by have := (List.getElem?_eq_some_iff.1 hk).1; rw [T_len] at this; exact this
  obtain ⟨s, hs, _, _, a1, a2, a3, _, _, _, _, hr⟩ := enc_ok (x := mk k r w) (by rw [he])
  have f1 := fld_lt w 7 5
  have f2 := fld_lt w 15 5
  have f3 := fld_lt w 20 5
  refine ⟨⟨?_, ?_⟩, ⟨?_, by omega⟩, ⟨?_, by omega⟩, ⟨?_, by omega⟩, ?_⟩
  · show (0 : Int) ≤ (k : Int) + 1; omega
  · show (k : Int) + 1 ≤ 255; omega
  · show (0 : Int) ≤ if hasRd r.form then fld w 7 5 else 0
    split <;> omega
  · show (0 : Int) ≤ if hasR1 r.form then fld w 15 5 else 0
    split <;> omega
  · show (0 : Int) ≤ if hasR2 r.form then fld w 20 5 else 0
    split <;> omega
  · unfold room at hr
    unfold i64
    repeat' split at hr
    all_goals (simp only [decide_eq_true_eq] at hr; omega)

theorem c_RvDecodes (hT : TabOk Tryd.prog tab) (F : Lb Tryd.prog) (h2 : F.fmt 2 = [50]) (h16 : F.fmt (-16) = [45, 49, 54]) (w : Int) (h0 : 0 ≤ w) (h1 : w < 4294967296) :
    C Tryd.prog G0 0 n_proofmarklaw10_RvDecodes [.int .u32 w] ⟨0, []⟩ fun v _ => v = .bool true := by
  have hw := c_works hT F h2 h16
  have hd := c_Decode hT w h0 h1
  have hr := c_rDecode hT w h0 h1
  refine C_tab hT t_proofmarklaw10_RvDecodes (by simp [proofmarklaw10_RvDecodes]) (W_run 1000 ?_)
  simp -implicitDefEqProofs (disch := omega) only [go_sem, ↓reduceIte, reduceCtorEq, Nat.reduceEqDiff, proofmarklaw10_RvDecodes, proofmarklaw10_RvDecodes_r0, proofmarklaw10_RvDecodes_r1, proofmarklaw10_RvDecodes_r2, proofmarklaw10_RvDecodes_r3, proofmarklaw10_RvDecodes_r4, proofmarklaw10_RvDecodes_r5, proofmarklaw10_RvDecodes_r6, proofmarklaw10_RvDecodes_r7, proofmarklaw10_RvDecodes_r8]
  refine callPS hT t_rv_Decode hd rfl 1000 ?_
  cases hf : first w 0 T with
  | none =>
    rw [hf] at hd hr
    simp only [errT, inC] at hd hr ⊢
    simp -implicitDefEqProofs (disch := omega) only [go_sem, ↓reduceIte, reduceCtorEq, Nat.reduceAdd, Nat.reduceEqDiff, Nat.reduceLT, Nat.zero_add, Bool.not_false, Nat.le_refl]
    refine callPS hT t_proofmarkref10_Decode hr rfl 1000 ?_
    simp -implicitDefEqProofs (disch := omega) only [go_sem, ↓reduceIte, reduceCtorEq, Nat.reduceAdd, Nat.reduceEqDiff, Nat.reduceLT, Nat.zero_add, Bool.not_false, Nat.le_refl, Nat.zero_le, bne_self_eq_false]
    have hp := c_plain (P := Tryd.prog) (G := G0) hT ⟨0, 0, 0, 0, 0⟩
    simp only [inC] at hp
    refine callPS hT t_proofmarklaw10_plain hp rfl 1000 ?_
    simp -implicitDefEqProofs (disch := omega) only [go_sem, ↓reduceIte, reduceCtorEq, Nat.reduceAdd, Nat.reduceEqDiff, Bool.not_true, beq_self_eq_true, Int.reduceBNe]
    refine callPS hT t_proofmarklaw10_works hw rfl 1000 ?_
    simp -implicitDefEqProofs (disch := omega) only [go_sem, ↓reduceIte, reduceCtorEq, Nat.reduceEqDiff]
  | some x =>
    rw [hf] at hd hr
    obtain ⟨he, hx⟩ := first_enc h0 h1 hf
    have hE := c_Encode hT x hx
    rw [he] at hE
    have hp := c_plain (P := Tryd.prog) (G := G0) hT x
    simp only [errT, inC] at hd hr hE hp ⊢
    simp -implicitDefEqProofs (disch := omega) only [go_sem, ↓reduceIte, reduceCtorEq, Nat.reduceAdd, Nat.reduceEqDiff, Nat.reduceLT, Nat.zero_add, Bool.not_false, Nat.le_refl]
    refine callPS hT t_proofmarkref10_Decode hr rfl 1000 ?_
    simp -implicitDefEqProofs (disch := omega) only [go_sem, ↓reduceIte, reduceCtorEq, Nat.reduceAdd, Nat.reduceEqDiff, Nat.reduceLT, Nat.zero_add, Bool.not_false, Nat.le_refl, Nat.zero_le, bne_self_eq_false]
    refine callPS hT t_proofmarklaw10_plain hp rfl 1000 ?_
    simp -implicitDefEqProofs (disch := omega) only [go_sem, ↓reduceIte, reduceCtorEq, Nat.reduceAdd, Nat.reduceEqDiff, Nat.zero_add, Bool.not_true, Nat.le_refl, beq_self_eq_true, bne_self_eq_false]
    refine callPS hT t_rv_Encode hE rfl 1000 ?_
    simp -implicitDefEqProofs (disch := omega) only [go_sem, ↓reduceIte, reduceCtorEq, Nat.reduceAdd, Nat.reduceEqDiff, Nat.reduceLT, Nat.zero_add, beq_self_eq_true]
    refine callPS hT t_proofmarklaw10_works hw rfl 1000 ?_
    simp -implicitDefEqProofs (disch := omega) only [go_sem, ↓reduceIte, reduceCtorEq, Nat.reduceEqDiff]
end Go.Proofs.YtkhdfbokkneeaaaDoor
