/- Reckoning calls, by name. -/
import Derived.Test.YtfgccihafnjalaaGreatDoorAmD
import Derived.Test.YtfgccihafnjalaaGreatDoorTabB
import Derived.KernelRfl
open Nat renaming reduceEqDiff → rq, reduceAdd → rA, reduceLeDiff → rL, reduceLT → rT, zero_add → zA, le_refl → lR, zero_le → zL, add_zero → aZ
open List renaming length_cons → lC, length_nil → lN, take_succ_cons → tS, length_append → lA, nil_append → nA, cons_append → cA, append_assoc → aA, take_nil → tN, take_zero → tZ, length_map → lM
open Bool renaming not_false → nF, not_true → nT
namespace Go.Proofs.YtfgccihafnjalaaGreatDoor
open Go Go.Am
theorem ya {p q : Prop} (h : q) (e : p = q := by simp -implicitDefEqProofs (disch := omega) only [go_sem, ↓reduceIte, reduceCtorEq, rA, rq, rL, Int.reduceLT, zA, aZ, decide_true, nT, nF, lR, zL, ge_iff_le, beq_self_eq_true]; rfl) : p := e ▸ h
theorem yb {p q : Prop} (h : q) (e : p = q := by simp -implicitDefEqProofs (disch := omega) only [go_sem, ↓reduceIte, reduceCtorEq, rA, rq, rL, zA, aZ, decide_true, decide_false, zL, ge_iff_le, List.getElem?_cons_zero, QV, QfP, QfQ, QfR, QfS, QfT, QfU, QfV, QfW, QfX, and_true, h1, h2, lC, lN, nA, true_implies]; rfl) : p := e ▸ h
theorem yc {p q : Prop} (h : q) (e : p = q := by simp -implicitDefEqProofs (disch := omega) only [go_sem, ↓reduceIte, rq, zA, decide_true, Qe, XA, XB, XC, XD, XE, Xq, Xy, Xz, and_true, hi]; rfl) : p := e ▸ h
theorem yd {p q : Prop} (h : q) (e : p = q := by simp -implicitDefEqProofs (disch := omega) only [go_sem, ↓reduceIte, reduceCtorEq, rq, zL, true_and]; rfl) : p := e ▸ h
theorem ye {p : Prop} (e : p := by simp -implicitDefEqProofs (disch := omega) only [go_sem, ↓reduceIte, reduceCtorEq, rq, and_true]) : p := e
theorem yf {p q : Prop} (h : q) (e : p = q := by simp -implicitDefEqProofs (disch := omega) only [go_sem, ↓reduceIte, rL, rT, Nat.reduceSub, decide_true, lR, dH, f46, f47]; rfl) : p := e ▸ h
theorem yg {p q : Prop} (h : q) (e : p = q := by simp -implicitDefEqProofs (disch := omega) only [go_sem, ↓reduceIte, reduceCtorEq, rA, rq, rT, zA, aZ, nF, lR, Option.isSome_some, Option.isSome_none, Option.getD_some, Option.getD_none, List.drop_nil, List.drop_succ_cons, List.drop_zero, List.getElem?_cons_succ, List.getElem?_cons_zero, List.set_cons_succ, List.set_cons_zero, Qe, aA, cA, ga, ga0, hfd, hkk, hok, lA, lC, lN, nA, sa, tN, tS, tZ]; rfl) : p := e ▸ h
theorem yh {p q : Prop} (h : q) (e : p = q := by simp -implicitDefEqProofs (disch := omega) only [go_sem, ↓reduceIte, rA, rq, rL, zA, lR, f1, f2, f3, f45, f46, f7, wz]; rfl) : p := e ▸ h
theorem yi {p q : Prop} (h : q) (e : p = q := by simp -implicitDefEqProofs (disch := omega) only [go_sem, ↓reduceIte, reduceCtorEq, rq, decide_false, Nat.lt_irrefl, Qh, hi, true_and]; rfl) : p := e ▸ h
theorem yj {p q : Prop} (h : q) (e : p = q := by simp -implicitDefEqProofs (disch := omega) only [go_sem, ↓reduceIte, reduceCtorEq, rA, rq, zA, decide_true, lR, Qe, Qh, and_true, false_implies, hD, hlt, lC, lN]; rfl) : p := e ▸ h
theorem yk {p : Prop} (e : p := by simp -implicitDefEqProofs (disch := omega) only [go_sem, ↓reduceIte, reduceCtorEq, rq]) : p := e
theorem yl {p q : Prop} (h : q) (e : p = q := by simp -implicitDefEqProofs (disch := omega) only [go_sem, ↓reduceIte, reduceCtorEq, rq, nT, e2]; rfl) : p := e ▸ h
theorem ym {p q : Prop} (h : q) (e : p = q := by simp -implicitDefEqProofs (disch := omega) only [go_sem, ↓reduceIte, reduceCtorEq, rA, rq, zA, lR, List.drop_zero, List.getElem?_cons_succ, List.getElem?_cons_zero, Nat.add_assoc, QtI, QtJ, QtK, QtL, Qy, aA, cA, ga, ga0, lA, lC, lN, nA, tN, tS]; rfl) : p := e ▸ h
theorem yn {p q : Prop} (h : q) (e : p = q := by simp -implicitDefEqProofs (disch := omega) only [go_sem, ↓reduceIte, reduceCtorEq, rA, rq, rL, zA, aZ, lR, zL, List.getElem?_cons_succ, List.getElem?_cons_zero, QN, QvU, QvV, QvW, QvX, QvY, QvZ, and_true, cA, h1', h2', lC, lN, nA, true_implies]; rfl) : p := e ▸ h
theorem yo {p q : Prop} (h : q) (e : p = q := by simp -implicitDefEqProofs (disch := omega) only [go_sem, ↓reduceIte, reduceCtorEq, rq, decide_false, Nat.lt_irrefl, hi]; rfl) : p := e ▸ h
theorem yp {p q : Prop} (h : q) (e : p = q := by simp -implicitDefEqProofs (disch := omega) only [go_sem, ↓reduceIte, reduceCtorEq, rq, zA, Qj7, Ql, QlG, QlH, QlI, QpA, QpB, QpC, QpD, QpE, QpF, Qpz]; rfl) : p := e ▸ h
theorem yq {p q : Prop} (h : q) (e : p = q := by simp -implicitDefEqProofs (disch := omega) only [go_sem, ↓reduceIte, reduceCtorEq, rq, and_true, true_and]; rfl) : p := e ▸ h
theorem yr {p q : Prop} (h : q) (e : p = q := by simp -implicitDefEqProofs (disch := omega) only [go_sem, ↓reduceIte, reduceCtorEq, rq, zA, nF, lR, zL, List.getElem?_cons_succ, List.getElem?_cons_zero, List.set_cons_succ, List.set_cons_zero, Ye, cA, lC, lN, nA]; rfl) : p := e ▸ h
theorem yt {p q : Prop} (h : q) (e : p = q := by simp -implicitDefEqProofs (disch := omega) only [go_sem, ↓reduceIte, reduceCtorEq, rq, decide_true, decide_false, Qj4, Qj5, Qj6, Qpx, Qpy, hb1]; rfl) : p := e ▸ h
theorem yu {p q : Prop} (h : q) (e : p = q := by simp -implicitDefEqProofs (disch := omega) only [go_sem, ↓reduceIte, reduceCtorEq, rA, rq, decide_true, lR, ge_iff_le, QgT, QgU, Xp, and_true, h1, h2, h3', lN]; rfl) : p := e ▸ h
theorem yv {p q : Prop} (h : q) (e : p = q := by simp -implicitDefEqProofs (disch := omega) only [go_sem, ↓reduceIte, rA, rq, rL, zA, List.drop_succ_cons, List.drop_zero, Zg, Zh, and_true, cA, lC, lN, nA, tZ]; rfl) : p := e ▸ h
theorem yw {p q : Prop} (h : q) (e : p = q := by simp -implicitDefEqProofs (disch := omega) only [go_sem, ↓reduceIte, reduceCtorEq, rq, QrQ, QrR, QrS]; rfl) : p := e ▸ h
theorem yx {p q : Prop} (h : q) (e : p = q := by simp -implicitDefEqProofs (disch := omega) only [go_sem, ↓reduceIte, reduceCtorEq, rA, rq, rL, zA, aZ, Qbp, Qtm, Qtn, Qto, Qtp, Qtq, Qtr, Qts, Qtt, inC]; rfl) : p := e ▸ h
theorem yy {p q : Prop} (h : q) (e : p = q := by simp -implicitDefEqProofs (disch := omega) only [go_sem, ↓reduceIte, reduceCtorEq, rq, lR, and_true]; rfl) : p := e ▸ h
theorem yz {p q : Prop} (h : q) (e : p = q := by simp -implicitDefEqProofs (disch := omega) only [go_sem, ↓reduceIte, reduceCtorEq, rq, decide_true, Qh, hlt]; rfl) : p := e ▸ h
theorem yA {p q : Prop} (h : q) (e : p = q := by simp -implicitDefEqProofs (disch := omega) only [go_sem, ↓reduceIte, rA, rq, rL, zA, nF, zL, Qj9]; rfl) : p := e ▸ h
theorem yB {p q : Prop} (h : q) (e : p = q := by simp -implicitDefEqProofs (disch := omega) only [go_sem, ↓reduceIte, reduceCtorEq, rq, zA, Q8, QAF, QAG, QAH, QAI, QAJ, QAK, QAL, QAM, QAN, QAO]; rfl) : p := e ▸ h
theorem yC {p q : Prop} (h : q) (e : p = q := by simp -implicitDefEqProofs (disch := omega) only [go_sem, ↓reduceIte, reduceCtorEq, rq, H.push]; rfl) : p := e ▸ h
theorem yD {p : Prop} (e : p := by simp -implicitDefEqProofs (disch := omega) only [go_sem, ↓reduceIte, reduceCtorEq, rq, zA, and_true, lA, lC, lN]) : p := e
end Go.Proofs.YtfgccihafnjalaaGreatDoor
