/- Contracts of term's functions. -/
import Derived.Test.YtpdeoalocejodaaGreatDoorTabB
import Derived.Test.YtpdeoalocejodaaGreatDoorAmD
open Nat renaming reduceEqDiff → rq, reduceAdd → rA, reduceLeDiff → rL, reduceLT → rT, zero_add → zA, le_refl → lR, zero_le → zL, add_zero → aZ
open List renaming length_cons → lC, length_nil → lN, take_succ_cons → tSq, length_append → lA, nil_append → nA, cons_append → cA, append_assoc → aA, take_nil → tN, take_zero → tZ, length_map → lM
open Bool renaming not_false → nF, not_true → nT
namespace Go.Proofs.YtpdeoalocejodaaGreatDoor
open Go Go.Am
set_option maxRecDepth 100000
variable {P : Program} {G : Nat → Option V}
theorem ya {p q : Prop} (h : q) (e : p = q := by simp -implicitDefEqProofs (disch := omega) only [go_sem, ↓reduceIte, reduceCtorEq, rA, rq, rT, zA, nT, nF, lR, beq_self_eq_true, bne_self_eq_false]; rfl) : p := e ▸ h
theorem yb {p : Prop} (e : p := by simp -implicitDefEqProofs (disch := omega) only [go_sem, ↓reduceIte, reduceCtorEq, rq, Nat.succ_ne_zero, zA, lR, zL]) : p := e
theorem yc {p q : Prop} (h : q) (e : p = q := by simp -implicitDefEqProofs (disch := omega) only [go_sem, ↓reduceIte, reduceCtorEq, rA, rq, Int.reduceEq, zA, lR, beq_self_eq_true, QaA, QaB, QaC, QaD, QaE, QaF, QaG, Qak, Qal, Qam, Qan, Qao, Qap, Qaq, Qar, Qas, Qat, Qau, Qav, Qaw, Qax, Qay, Qaz, Qd5, Qd6, Qd7, Qd8, Qd9, Qea, Qeb, Qec, Qed, Qee, Qm, false_implies, h63, not_false_eq_true, true_and, true_implies]; rfl) : p := e ▸ h
theorem yd {p q : Prop} (h : q) (e : p = q := by simp -implicitDefEqProofs (disch := omega) only [go_sem, ↓reduceIte, reduceCtorEq, rA, rq, rT, zA, nF, beq_self_eq_true, Option.isSome_some, Option.getD_some, Qa, Qh, lA, lC, lN]; rfl) : p := e ▸ h
theorem ye {p q : Prop} (h : q) (e : p = q := by simp -implicitDefEqProofs (disch := omega) only [go_sem, ↓reduceIte, reduceCtorEq, rA, rq, rT, zA, nT, nF, bne_self_eq_false, Option.isSome_some, Option.getD_some, lC, lN]; rfl) : p := e ▸ h
theorem yf {p q : Prop} (h : q) (e : p = q := by simp -implicitDefEqProofs (disch := omega) only [go_sem, ↓reduceIte, reduceCtorEq, rA, rq, rT, zA, lR, beq_self_eq_true, QB, and_true, false_implies, lC, lN, tN, tSq]; rfl) : p := e ▸ h
theorem yg {p q : Prop} (h : q) (e : p = q := by simp -implicitDefEqProofs (disch := omega) only [go_sem, ↓reduceIte, reduceCtorEq, rA, rq, rL, rT, zA, lR, and_true, cA, lC, lN, nA, tSq, tZ]; rfl) : p := e ▸ h
theorem yh {p : Prop} (e : p := by simp -implicitDefEqProofs (disch := omega) only [go_sem, ↓reduceIte, reduceCtorEq, rq, lR, and_true]) : p := e
theorem yi {p q : Prop} (h : q) (e : p = q := by simp -implicitDefEqProofs (disch := omega) only [go_sem, ↓reduceIte, reduceCtorEq, rA, rq, rT, zA, lR, and_true, false_implies, lC, lN, tN, tSq]; rfl) : p := e ▸ h
theorem yj {p q : Prop} (h : q) (e : p = q := by simp -implicitDefEqProofs (disch := omega) only [go_sem, ↓reduceIte, reduceCtorEq, rA, rq, rL, rT, Int.reduceToNat, Int.reduceLE, Int.reduceLT, zA, decide_true, lR, QB, and_true, false_implies, lC, lN, tN, tSq, true_implies]; rfl) : p := e ▸ h
theorem yk {p q : Prop} (h : q) (e : p = q := by simp -implicitDefEqProofs (disch := omega) only [go_sem, ↓reduceIte, reduceCtorEq, rA, rq, Int.reduceLT, decide_false, lR, bne_self_eq_false, true_and]; rfl) : p := e ▸ h
theorem yl {p q : Prop} (h : q) (e : p = q := by simp -implicitDefEqProofs (disch := omega) only [go_sem, ↓reduceIte, reduceCtorEq, rA, rq, rL, zA, aZ, lR, QB, Qa, Qh, and_true, cA, false_implies, hne, lA, lC, lN, nA, not_false_eq_true, tSq, tZ, true_implies]; rfl) : p := e ▸ h
theorem ym {p q : Prop} (h : q) (e : p = q := by simp -implicitDefEqProofs (disch := omega) only [go_sem, ↓reduceIte, reduceCtorEq, rA, rq, rL, zA, aZ, lR, bne_self_eq_false, QB, and_true, cA, he, lC, lN, nA, tSq, tZ, true_implies]; rfl) : p := e ▸ h
theorem yn {p q : Prop} (h : q) (e : p = q := by simp -implicitDefEqProofs (disch := omega) only [go_sem, ↓reduceIte, rA, rq, rL, rT, Int.reduceToNat, Int.reduceLE, Int.reduceLT, zA, aZ, Nat.mul_one, decide_true, lR, Qac, and_true, lC, lN, true_implies]; rfl) : p := e ▸ h
theorem yo {p q : Prop} (h : q) (e : p = q := by simp -implicitDefEqProofs (disch := omega) only [go_sem, ↓reduceIte, reduceCtorEq, rA, rq, Int.reduceEq, zA, lR, beq_self_eq_true, Qdh, Qg0, Qg1, Qg2, Qg3, Qg4, Qg5, Qg6, Qg7, QgY, QgZ, Qp, false_implies, h0, not_false_eq_true, true_and, true_implies]; rfl) : p := e ▸ h
theorem yp {p q : Prop} (h : q) (e : p = q := by simp -implicitDefEqProofs (disch := omega) only [go_sem, ↓reduceIte, reduceCtorEq, rA, rq, rL, rT, zA, lR, Qa, Qh, Qr, and_true, cA, false_implies, hck, hw, lA, lC, lN, nA, not_false_eq_true, tSq, tZ, true_and, true_implies]; rfl) : p := e ▸ h
theorem yq {p q : Prop} (h : q) (e : p = q := by simp -implicitDefEqProofs (disch := omega) only [go_sem, ↓reduceIte, reduceCtorEq, rq, and_true, false_implies, hne, not_false_eq_true, true_and, true_implies]; rfl) : p := e ▸ h
theorem yr {p q : Prop} (h : q) (e : p = q := by simp -implicitDefEqProofs (disch := omega) only [go_sem, ↓reduceIte, reduceCtorEq, rA, rq, zA, nT, lR, beq_self_eq_true, QB, and_true, false_implies, hxy, lC, lN, not_false_eq_true, tN, tSq, true_and, true_implies]; rfl) : p := e ▸ h
theorem yt {p : Prop} (e : p := by simp -implicitDefEqProofs (disch := omega) only [go_sem, ↓reduceIte, reduceCtorEq, rA, rq, rL, zA, nT, lR, and_true, fact, lC, lN, true_implies]) : p := e
theorem yu {p q : Prop} (h : q) (e : p = q := by simp -implicitDefEqProofs (disch := omega) only [go_sem, ↓reduceIte, reduceCtorEq, rA, rq, rT, zA, nT, nF, lR, zL, Nd.cells, QB, Qa, Qbb, aA, and_true, cA, lA, lC, lN, nA, tZ]; rfl) : p := e ▸ h
theorem yv {p q : Prop} (h : q) (e : p = q := by simp -implicitDefEqProofs (disch := omega) only [go_sem, ↓reduceIte, reduceCtorEq, rA, rq, rT, Int.reduceEq, zA, lR, beq_self_eq_true, QB, Qr, and_true, false_implies, lC, lN, not_false_eq_true, tN, tSq, true_and, true_implies]; rfl) : p := e ▸ h
theorem yw {p q : Prop} (h : q) (e : p = q := by simp -implicitDefEqProofs (disch := omega) only [go_sem, ↓reduceIte, reduceCtorEq, rA, rq, Int.reduceEq, zA, lR, beq_self_eq_true, QB, Qa, Qh, QjS, QjT, QjU, QnH, QnI, QnJ, QnK, QnL, QnM, QnN, QnO, QnP, QnQ, XR, aA, and_true, false_implies, lA, lC, lN, not_false_eq_true, tN, tSq, true_and, true_implies]; rfl) : p := e ▸ h
theorem yx {p q : Prop} (h : q) (e : p = q := by simp -implicitDefEqProofs (disch := omega) only [go_sem, ↓reduceIte, reduceCtorEq, rq, decide_true, ge_iff_le, hk0]; rfl) : p := e ▸ h
theorem yy {p q : Prop} (h : q) (e : p = q := by simp -implicitDefEqProofs (disch := omega) only [go_sem, ↓reduceIte, reduceCtorEq, rA, rq, nT, bne_self_eq_false, e2]; rfl) : p := e ▸ h
theorem yz {p q : Prop} (h : q) (e : p = q := by simp -implicitDefEqProofs (disch := omega) only [go_sem, ↓reduceIte, reduceCtorEq, rq, decide_true, decide_false, hki]; rfl) : p := e ▸ h
theorem yA {p q : Prop} (h : q) (e : p = q := by simp -implicitDefEqProofs (disch := omega) only [go_sem, ↓reduceIte, reduceCtorEq, rA, rq, zA, decide_true, decide_false, gt_iff_lt, QFA, QFB, QFC, QFw, QFx, QFy, QFz, QiN, QiO, Qlm, Qln, QnS, QnT, QnU, QnV, QnW, QnX, QnY, Qvs, Qvt, Qvu, Qvv, Qvw, Qvx, Qvy, Xa, h1, lM]; rfl) : p := e ▸ h
theorem yB {p q : Prop} (h : q) (e : p = q := by simp -implicitDefEqProofs (disch := omega) only [go_sem, ↓reduceIte, reduceCtorEq, rA, rq, rL, zA, aZ, decide_true, decide_false, nF, lR, bne_self_eq_false, QB, and_true, cA, exy, false_implies, hlt, lC, lN, nA, not_false_eq_true, tN, tSq, tZ, true_and, true_implies]; rfl) : p := e ▸ h
theorem yC {p q : Prop} (h : q) (e : p = q := by simp -implicitDefEqProofs (disch := omega) only [go_sem, ↓reduceIte, reduceCtorEq, rA, rq, Int.reduceEq, zA, nT, lR, beq_self_eq_true, bne_self_eq_false, QB, Qa, Qh, and_true, false_implies, hbo, lA, lC, lN, not_false_eq_true, tN, tSq, true_and, true_implies]; rfl) : p := e ▸ h
theorem yD {p q : Prop} (h : q) (e : p = q := by simp -implicitDefEqProofs (disch := omega) only [go_sem, ↓reduceIte, reduceCtorEq, rA, rq, rT, Int.reduceEq, zA, lR, beq_self_eq_true, QB, Qa, Qh, Qr, and_true, false_implies, lA, lC, lN, not_false_eq_true, tN, tSq, true_and, true_implies]; rfl) : p := e ▸ h
theorem yE {p q : Prop} (h : q) (e : p = q := by simp -implicitDefEqProofs (disch := omega) only [go_sem, ↓reduceIte, reduceCtorEq, rA, rq, rT, Int.reduceEq, zA, lR, beq_self_eq_true, QB, Qa, Qh, Qr, and_true, false_implies, hc1, lA, lC, lN, not_false_eq_true, tN, tSq, true_and, true_implies]; rfl) : p := e ▸ h
theorem yF {p q : Prop} (h : q) (e : p = q := by simp -implicitDefEqProofs (disch := omega) only [go_sem, ↓reduceIte, reduceCtorEq, rA, rq, rT, zA, aZ, lR, beq_self_eq_true, QB, and_true, lC, lN, true_implies]; rfl) : p := e ▸ h
theorem yG {p : Prop} (e : p := by simp -implicitDefEqProofs (disch := omega) only [go_sem, ↓reduceIte, reduceCtorEq, rA, rq, rT, zA, nF, lR, zL, Nd.cells, and_true, lC, lN, zeroNd]) : p := e
theorem yH {p q : Prop} (h : q) (e : p = q := by simp -implicitDefEqProofs (disch := omega) only [go_sem, ↓reduceIte, reduceCtorEq, rA, rq, zA, decide_true, decide_false, gt_iff_lt, Q5, QFm, QFn, QFo, QFp, QFq, QFr, QFs, QFt, QFu, QFv, Qli, Qlj, Qlk, Qll, QnR, h1, lM]; rfl) : p := e ▸ h
theorem yI {p q : Prop} (h : q) (e : p = q := by simp -implicitDefEqProofs (disch := omega) only [go_sem, ↓reduceIte, reduceCtorEq, rA, rq, rL, zA, Qcp, QyL, and_true, lC, lN, true_and]; rfl) : p := e ▸ h
theorem yJ {p q : Prop} (h : q) (e : p = q := by simp -implicitDefEqProofs (disch := omega) only [go_sem, ↓reduceIte, reduceCtorEq, rA, rq, rT, zA, lR, QB, QsX, and_true, false_implies, hz, lC, lN, not_false_eq_true, tN, tSq, true_and, true_implies]; rfl) : p := e ▸ h
theorem yK {p q : Prop} (h : q) (e : p = q := by simp -implicitDefEqProofs (disch := omega) only [go_sem, ↓reduceIte, reduceCtorEq, rA, rq, rT, zA, lR, beq_self_eq_true, QB, QsX, and_true, false_implies, hz, lC, lN, not_true_eq_false, tN, tSq]; rfl) : p := e ▸ h
theorem yL {p q : Prop} (h : q) (e : p = q := by simp -implicitDefEqProofs (disch := omega) only [go_sem, ↓reduceIte, reduceCtorEq, rA, rq, rT, zA, nF, lR, Nd.cells, QB, Qa, Qbb, Qh, Qr, aA, and_true, cA, lA, lC, lN, nA, tZ, true_and, zeroNd]; rfl) : p := e ▸ h
theorem yM {p q : Prop} (h : q) (e : p = q := by simp -implicitDefEqProofs (disch := omega) only [go_sem, ↓reduceIte, reduceCtorEq, rA, rq, rT, zA, Qa, Qh, and_true, lA, lC, lN]; rfl) : p := e ▸ h
theorem yN {p q : Prop} (h : q) (e : p = q := by simp -implicitDefEqProofs (disch := omega) only [go_sem, ↓reduceIte, reduceCtorEq, rA, rq, zA, decide_true, decide_false, gt_iff_lt, Q4, QEq, QEr, QEs, QEt, QEu, QEv, QEw, QEx, QEy, QEz, QtX, QtY, h1, lM]; rfl) : p := e ▸ h
theorem yO {p q : Prop} (h : q) (e : p = q := by simp -implicitDefEqProofs (disch := omega) only [go_sem, ↓reduceIte, reduceCtorEq, rA, rq, rT, zA, nT, nF, lR, zL, Nd.cells, Qa, Qac, QbT, Qh, aA, and_true, cA, lA, lC, lN, nA, tZ, zeroNd]; rfl) : p := e ▸ h
theorem yP {p q : Prop} (h : q) (e : p = q := by simp -implicitDefEqProofs (disch := omega) only [go_sem, ↓reduceIte, reduceCtorEq, rq, Int.reduceToNat, Int.reduceLE, hsh]; rfl) : p := e ▸ h
theorem yQ {p q : Prop} (h : q) (e : p = q := by simp -implicitDefEqProofs (disch := omega) only [go_sem, ↓reduceIte, reduceCtorEq, rA, rq, rT, zA, nF, lR, zL, Nd.cells, QB, Qa, Qbb, Qh, aA, and_true, cA, lA, lC, lN, nA, tZ, zeroNd]; rfl) : p := e ▸ h
theorem yR {p q : Prop} (h : q) (e : p = q := by simp -implicitDefEqProofs (disch := omega) only [go_sem, ↓reduceIte, reduceCtorEq, rq, zA, decide_true, decide_false, QX, QjQ, QjR, Qno, Qnp, Qnq, Qnr, Qns, Qnt, Qnu, Qnv, Qnw, Qnx, h1, h2]; rfl) : p := e ▸ h
theorem yS {p q : Prop} (h : q) (e : p = q := by simp -implicitDefEqProofs (disch := omega) only [go_sem, ↓reduceIte, reduceCtorEq, rq, lM]; rfl) : p := e ▸ h
theorem yT {p q : Prop} (h : q) (e : p = q := by simp -implicitDefEqProofs (disch := omega) only [go_sem, ↓reduceIte, reduceCtorEq, rA, rq, zA, Nat.mul_one, decide_true, decide_false, nT, lR, gt_iff_lt, Qr, gS, h, hN, hbig, hg, hlen, lM]; rfl) : p := e ▸ h
theorem yU {p q : Prop} (h : q) (e : p = q := by simp -implicitDefEqProofs (disch := omega) only [go_sem, ↓reduceIte, reduceCtorEq, rq, zA, QEA, QEB, QEC, QED, QEE, QEF, Qgs, Qm6, Qm7, Qm8, Qm9, Qna, Qnb, Qt0, Qt1, Qt2, Qt3, QtZ]; rfl) : p := e ▸ h
theorem yV {p q : Prop} (h : q) (e : p = q := by simp -implicitDefEqProofs (disch := omega) only [go_sem, ↓reduceIte, reduceCtorEq, rq, zA, decide_true, QX, QjQ, QjR, Qno, Qnp, Qnq, Qnr, Qns, Qnt, Qnu, Qnv, Qnw, Qnx, h1]; rfl) : p := e ▸ h
theorem yW {p q : Prop} (h : q) (e : p = q := by simp -implicitDefEqProofs (disch := omega) only [go_sem, ↓reduceIte, reduceCtorEq, rA, rq, false_implies, hor, hr2, htp0, not_false_eq_true, true_and, true_implies]; rfl) : p := e ▸ h
theorem yX {p q : Prop} (h : q) (e : p = q := by simp -implicitDefEqProofs (disch := omega) only [go_sem, ↓reduceIte, rq, Int.reduceLT, decide_false, Qfc, kl_l, lM, show ((14 : Nat) : Int) = 14 from rfl]; rfl) : p := e ▸ h
theorem yY {p q : Prop} (h : q) (e : p = q := by simp -implicitDefEqProofs (disch := omega) only [go_sem, ↓reduceIte, reduceCtorEq, rq, zA, lR, and_true, false_implies, hmm, lC, lN, tN, tSq]; rfl) : p := e ▸ h
theorem yZ {p q : Prop} (h : q) (e : p = q := by simp -implicitDefEqProofs (disch := omega) only [go_sem, ↓reduceIte, reduceCtorEq, rA, rq, nF, beq_self_eq_true, hr]; rfl) : p := e ▸ h
theorem ya1 {p : Prop} (e : p := by simp -implicitDefEqProofs (disch := omega) only [go_sem, ↓reduceIte, reduceCtorEq, rq, lR, decide_eq_true_eq]) : p := e
structure Nd where
 kind : Int
 n : Int
 a : Int
 op : Int
 x : Int
 y : Int
 deriving DecidableEq
def Nd.cells (d : Nd) : List V := [.int .u8 d.kind, .int .i64 d.n, .int .i64 d.a, .int .u8 d.op, .int .i64 d.x, .int .i64 d.y]
theorem c_bare (hT : Qj P tab) (d : Nd) : Pure P G Qkr [.agg d.cells] fun v => v = .agg (Nd.cells ⟨0, if d.kind = 1 ∨ d.kind = 2 ∨ d.kind = 3 then 0 else d.n, if d.kind = 3 then 0 else d.a, if d.kind = 4 then 0 else d.op, if d.kind = 4 then 0 else d.x, if d.kind = 3 ∨ d.kind = 4 then 0 else d.y⟩) := by
 intro t
 refine Qx hT Qkg (by simp [QeI]) (Qs 1000 ?_)
 simp -implicitDefEqProofs (disch := omega) only [go_sem, ↓reduceIte, reduceCtorEq, rA, rq, rL, zA, aZ, nF, lR, zL, QeI, QAV, QAU, QAT, QAS, QAR, QAQ, QAP, QAO, QAN, QAM, QuE, Nd.cells]
 grind
def Nd.parts (d : Nd) : List Int := if d.kind = 3 then [d.y] else if d.kind = 4 then [d.x, d.y] else []
theorem Qxi (hT : Qj P tab) (d : Nd) : Pure P G Qi9 [.agg d.cells] fun v => ∃ z, v = .lst z (d.parts.map (V.int .i64)) true ∧ (z = 1 ∨ d.parts = []) := by
 intro t
 refine Qx hT QeN (by simp [QcU]) (Qs 1000 ?_)
 simp -implicitDefEqProofs (disch := omega) only [go_sem, ↓reduceIte, reduceCtorEq, rA, rq, rL, zA, aZ, lR, QcU, QB1, QB0, QBZ, QBY, QBX, QBW, QBV, Nd.cells, Nd.parts]
 by_cases h3 : d.kind = 3 <;> by_cases h4 : d.kind = 4 <;> simp [h3, h4]
def signs : List (List UInt8) := [[], [43], [45], [42], [47], [37], [47, 117], [37, 117], [38], [124], [94], [60, 60], [62, 62, 117], [62, 62], [60], [60, 117], [61, 61]]
theorem c_sign (hT : Qj P tab) (o : Int) (h0 : 0 ≤ o) (h1 : o ≤ 16) : Pure P G Qkq [.int .u8 o] fun v => v = .str (signs.getD o.toNat []) := by
 intro t
 refine Qx hT Qkf (by simp [QeH]) (Qs 1000 ?_)
 simp -implicitDefEqProofs (disch := omega) only [go_sem, Qr, ↓reduceIte, reduceCtorEq, rA, rq, rL, zA, Nat.mul_one, lR, QeH, QAX, QAW]
 have : o = 0 ∨ o = 1 ∨ o = 2 ∨ o = 3 ∨ o = 4 ∨ o = 5 ∨ o = 6 ∨ o = 7 ∨ o = 8 ∨ o = 9 ∨ o = 10 ∨ o = 11 ∨ o = 12 ∨ o = 13 ∨ o = 14 ∨ o = 15 ∨ o = 16 := by omega
 rcases this with h | h | h | h | h | h | h | h | h | h | h | h | h | h | h | h | h <;> subst h <;> exact ⟨rfl, rfl⟩
def gS (v0 v1 v2 v3 v4 len : Nat) : Option Ob := some (.arr v0 85 [.sl 2 v2 0 6 len none, .mp 1 v1, .sl 3 v3 0 1 len none, .sl 4 v4 0 1 len none])
theorem c_is (hT : Qj P tab) {base : Nat} {v0 v1 v2 v3 v4 t : Nat} {o : List (Option Ob)} {len : Nat} {id : Int} :
 C P G base QbL [.ptr 0 v0 0, .int .i64 id] ⟨t, gS v0 v1 v2 v3 v4 len :: o⟩ fun v σ => v = .bool (decide (0 ≤ id ∧ id < len)) ∧ σ = ⟨t, gS v0 v1 v2 v3 v4 len :: o⟩ := by
 refine Qx hT XN (by simp [YJ]) (Qs 1000 ?_)
 simp -implicitDefEqProofs (disch := omega) only [go_sem, ↓reduceIte, reduceCtorEq, rA, rq, rL, zA, aZ, ge_iff_le, YJ, Qu5, Qu4, gS]
 by_cases h1 : 0 ≤ id <;> simp [h1]
def Nd.may (d : Nd) (len : Nat) : Bool :=
 decide ((if d.kind = 1 ∨ d.kind = 2 ∨ d.kind = 3 then 0 else d.n) = 0 ∧ (if d.kind = 3 then 0 else d.a) = 0 ∧ (if d.kind = 4 then 0 else d.op) = 0 ∧ (if d.kind = 4 then 0 else d.x) = 0 ∧ (if d.kind = 3 ∨ d.kind = 4 then 0 else d.y) = 0) &&
 (if d.kind = 1 then true else if d.kind = 2 then decide (0 ≤ d.n) else if d.kind = 3 then decide (0 ≤ d.n ∧ 0 ≤ d.a ∧ 0 ≤ d.y ∧ d.y < len) else if d.kind = 4 then decide (1 ≤ d.op ∧ d.op ≤ 16 ∧ 0 ≤ d.x ∧ d.x < len ∧ 0 ≤ d.y ∧ d.y < len) else false)
theorem c_may (hT : Qj P tab) {base : Nat} {v0 v1 v2 v3 v4 t : Nat} {o1 o2 o3 o4 : Option Ob} {len : Nat} (d : Nd) (hb : base ≤ 5) :
 C P G base Qd1 [.ptr 0 v0 0, .agg d.cells] ⟨t, [gS v0 v1 v2 v3 v4 len, o1, o2, o3, o4]⟩ fun v σ => v = .bool (d.may len) ∧ ∃ t', t ≤ t' ∧ σ = ⟨t', [gS v0 v1 v2 v3 v4 len, o1, o2, o3, o4]⟩ := by
 refine Ql 5 hb (Qx hT QdY (by simp [ZA]) (Qs 1000 ?_))
 simp -implicitDefEqProofs (disch := omega) only [go_sem, ↓reduceIte, reduceCtorEq, rA, rq, zA, lR, ZA, QCb, QCa, QB9, QB8, QB7, QB6, QB5, QB4, QB3, QB2, QuW, QuV, QuU, Nd.cells, gS]
 refine Qpn hT Qkg (c_bare hT d) (by simp [Qn, Qv]) 1000 fun v hv => ?_
 subst hv
 simp -implicitDefEqProofs (disch := omega) only [go_sem, ↓reduceIte, reduceCtorEq, rA, rq, rL, zA, aZ, lR, ge_iff_le, beq_self_eq_true, Nd.cells]
 repeat' (first | with_reducible refine And.intro ?_ ?_ | with_reducible intro _)
 any_goals (first | (refine ⟨_, ?_, rfl, rfl⟩; omega) | (refine ⟨_, ?_, rfl⟩; omega))
 any_goals (refine call hT XN (c_is hT) 1000 fun v σ hv => ?_; obtain ⟨rfl, rfl⟩ := hv; simp -implicitDefEqProofs (disch := omega) only [go_sem, ↓reduceIte, reduceCtorEq, rA, rq, rL, zA, lR, gS]; repeat' (first | with_reducible refine And.intro ?_ ?_ | with_reducible intro _))
 any_goals (first | (refine ⟨_, ?_, rfl, rfl⟩; omega) | (refine ⟨_, ?_, rfl⟩; omega))
 any_goals (refine call hT XN (c_is hT) 1000 fun v σ hv => ?_; obtain ⟨rfl, rfl⟩ := hv; simp -implicitDefEqProofs (disch := omega) only [go_sem, ↓reduceIte, reduceCtorEq, rA, rq, rL, zA, gS]; repeat' (first | with_reducible refine And.intro ?_ ?_ | with_reducible intro _))
 any_goals (first | (refine ⟨_, ?_, rfl, rfl⟩; omega) | (refine ⟨_, ?_, rfl⟩; omega))
 all_goals (simp only [V.bool.injEq, Nd.may]; grind)
structure Fmt (P : Program) (G : Nat → Option V) where
 fmt : Int → List UInt8
 le : ∀ i, (fmt i).length ≤ 24
 int : ∀ i : Int, -9223372036854775808 ≤ i → i ≤ 9223372036854775807 → Pure P G QbM [.int .i64 i, .int .i64 10] fun v => v = .str (fmt i)
 itoa : ∀ i : Int, -9223372036854775808 ≤ i → i ≤ 9223372036854775807 → Pure P G Qgb [.int .i64 i] fun v => v = .str (fmt i)
def i64 (i : Int) : Prop := -9223372036854775808 ≤ i ∧ i ≤ 9223372036854775807
def Nd.words (fmt : Int → List UInt8) (d : Nd) (x y : List UInt8) : List UInt8 :=
 if d.kind = 1 then fmt d.n else if d.kind = 2 then [115] ++ fmt d.n else if d.kind = 3 then [97] ++ fmt d.a ++ [118] ++ fmt d.n ++ [91] ++ y ++ [93] else [40] ++ x ++ [32] ++ signs.getD d.op.toNat [] ++ [32] ++ y ++ [41]
theorem Qxh (hT : Qj P tab) (F : Fmt P G) (d : Nd) (x y : List UInt8) (hn : i64 d.n) (ha : i64 d.a) (ho : 0 ≤ d.op ∧ d.op ≤ 16) (hx : x.length ≤ 1000000) (hy : y.length ≤ 1000000) :
 Pure P G Qi8 [.agg d.cells, .str x, .str y] fun v => v = .str (d.words F.fmt x y) := by
 intro t
 have l1 := F.le d.n
 have l2 := F.le d.a
 have l3 : (signs.getD d.op.toNat []).length ≤ 3 := by
  have : d.op = 0 ∨ d.op = 1 ∨ d.op = 2 ∨ d.op = 3 ∨ d.op = 4 ∨ d.op = 5 ∨ d.op = 6 ∨ d.op = 7 ∨ d.op = 8 ∨ d.op = 9 ∨ d.op = 10 ∨ d.op = 11 ∨ d.op = 12 ∨ d.op = 13 ∨ d.op = 14 ∨ d.op = 15 ∨ d.op = 16 := by omega
  rcases this with h | h | h | h | h | h | h | h | h | h | h | h | h | h | h | h | h <;> rw [h] <;> decide
 refine Qx hT QeM (by simp [QcT]) (Qs 1000 ?_)
 simp -implicitDefEqProofs (disch := omega) only [go_sem, ↓reduceIte, reduceCtorEq, rA, rq, rL, zA, QcT, QCl, QCk, QCj, QCi, QCh, QCg, QCf, QCe, QCd, QCc, Nd.cells]
 refine Qpn hT Qgl (F.int d.n hn.1 hn.2) (by simp [Qn, Qv]) 1000 fun v hv => ?_
 subst hv
 simp -implicitDefEqProofs (disch := omega) only [go_sem, Qr, ↓reduceIte, reduceCtorEq, rA, rq, rL, zA, aZ]
 repeat' (first | with_reducible refine And.intro ?_ ?_ | with_reducible intro _)
 any_goals (refine Qpn hT Qk2 (F.itoa d.a ha.1 ha.2) (by simp [Qn, Qv]) 1000 fun v hv => ?_; subst hv; simp -implicitDefEqProofs (disch := omega) only [go_sem, Qr, ↓reduceIte, reduceCtorEq, rq, rL, zA, lA])
 any_goals (refine Qpn hT Qkf (c_sign hT d.op ho.1 ho.2) (by simp [Qn, Qv]) 1000 fun v hv => ?_; subst hv; simp -implicitDefEqProofs (disch := omega) only [go_sem, Qr, ↓reduceIte, reduceCtorEq, rq, rL, zA, lA])
 all_goals (simp [Nd.words, *])
def Qgz : Nat → List Nd → List (V × V)
 | _, [] => []
 | k, d :: l => (.agg d.cells, .int .i64 k) :: Qgz (k + 1) l
def idx (d : Nd) : List Nd → Option Nat
 | [] => none
 | e :: l => if d = e then some 0 else (idx d l).map (· + 1)
abbrev k6 : List Kd := [.i, .i, .i, .i, .i, .i]
theorem wrap_i64 {x : Int} (h1 : -9223372036854775808 ≤ x) (h2 : x ≤ 9223372036854775807) : IntKind.i64.wrap x = x := by
 unfold IntKind.wrap
 simp [IntKind.bits, IntKind.signed]
 omega
theorem QkC (d e : Nd) : Qeg k6 (.agg d.cells) (.agg e.cells) = decide (d = e) := by
 cases d; cases e
 simp [Qeg, Nd.cells, V.cells, Qb8, Qra]
 grind
theorem QlP (d e : Nd) : (Qb8 k6 (V.agg d.cells).cells (V.agg e.cells).cells).isSome = true := by
 simp [Nd.cells, V.cells, Qb8, Qra]
theorem Qsq : ∀ (k : Nat) (l : List Nd) (p : V × V), p ∈ Qgz k l → ∃ d, p.1 = .agg (Nd.cells d)
 | _, [], p, h => by simp [Qgz] at h
 | k, d :: l, p, h => by
   simp only [Qgz, List.mem_cons] at h
   rcases h with h | h
   ·exact ⟨d, by rw [h]⟩
   ·exact Qsq (k + 1) l p h
theorem Qqu (d : Nd) (k : Nat) (l : List Nd) : Qe9 true k6 (.agg d.cells) (Qgz k l) := by
 refine ⟨⟨rfl, QlP d d⟩, fun p hp => ?_⟩
 obtain ⟨e, he⟩ := Qsq k l p hp
 rw [he]
 exact ⟨rfl, QlP d e⟩
theorem Qon (d : Nd) : ∀ (k : Nat) (l : List Nd), Qqq k6 (.agg d.cells) (Qgz k l) = (idx d l).map fun i => V.int .i64 ((k + i : Nat) : Int)
 | k, [] => rfl
 | k, e :: l => by
   have ih := Qon d (k + 1) l
   unfold Qqq at ih ⊢
   simp only [Qgz, idx, List.find?_cons, QkC]
   by_cases h : d = e
   ·simp [h]
   ·simp only [h, decide_false, if_false]
    rw [ih]
    cases idx d l <;> simp; omega
theorem Qkx (d : Nd) : ∀ (k : Nat) (l : List Nd), Qgd k6 (.agg d.cells) (Qgz k l) = idx d l
 | k, [] => rfl
 | k, e :: l => by
   simp only [Qgz, idx, Qgd, QkC, Qkx d (k + 1) l]
   by_cases h : d = e <;> simp [h]
theorem QdA : ∀ (k : Nat) (l : List Nd), (Qgz k l).length = l.length
 | _, [] => rfl
 | k, d :: l => by simp [Qgz, QdA (k + 1) l]
theorem QkI : ∀ (k : Nat) (l : List Nd) (d : Nd), Qgz k (l ++ [d]) = Qgz k l ++ [(.agg d.cells, .int .i64 ((k + l.length : Nat) : Int))]
 | k, [], d => by simp [Qgz]
 | k, e :: l, d => by simp [Qgz, QkI (k + 1) l d]; omega
theorem QwQ (L : List Nd) (d : Nd) (h : idx d L = none) : L.length < (Qqr k6 (.agg d.cells) (.int .i64 0) (Qgz 0 L)).length ∧
 (Qqr k6 (.agg d.cells) (.int .i64 0) (Qgz 0 L)).modify L.length (fun p => (p.1, .int .i64 (L.length : Nat))) = Qgz 0 (L ++ [d]) := by
 have e1 : Qqr k6 (.agg d.cells) (.int .i64 0) (Qgz 0 L) = Qgz 0 L ++ [(.agg d.cells, .int .i64 0)] := by
  unfold Qqr
  rw [Qkx, h]
  rfl
 rw [e1, QkI]
 refine ⟨by simp [QdA], ?_⟩
 have : ∀ (a : List (V × V)) (b : V × V) (f : V × V → V × V), (a ++ [b]).modify a.length f = a ++ [f b] := fun a b f => by
  induction a with
  | nil => rfl
  | cons x a ih => simpa using ih
 have h2 := this (Qgz 0 L) (.agg d.cells, .int .i64 0) (fun p => (p.1, .int .i64 (L.length : Nat)))
 rw [QdA] at h2
 rw [h2]
 simp
def ndC (l : List Nd) : List V := (l.map Nd.cells).flatten
theorem Qfw (l : List Nd) : (ndC l).length = l.length * 6 := by
 induction l with
 | nil => rfl
 | cons d l ih => simp [ndC] at ih ⊢; simp [Nd.cells]; omega
def gH (v0 v1 v2 v3 v4 : Nat) (L : List Nd) (D N : List Int) : List (Option Ob) :=
 [gS v0 v1 v2 v3 v4 L.length, some (.map v1 (Qgz 0 L)), some (.arr v2 57 (ndC L)), some (.arr v3 3 (D.map (V.int .i64))), some (.arr v4 3 (N.map (V.int .i64)))]
theorem c_Size (hT : Qj P tab) {base : Nat} {v0 v1 v2 v3 v4 t : Nat} {o : List (Option Ob)} {len : Nat} :
 C P G base QaZ [.ptr 0 v0 0] ⟨t, gS v0 v1 v2 v3 v4 len :: o⟩ fun v σ => v = .int .i64 len ∧ σ = ⟨t, gS v0 v1 v2 v3 v4 len :: o⟩ := by
 refine Qx hT Q0 (by simp [Y7]) (Qs 1000 ?_)
 simp -implicitDefEqProofs (disch := omega) only [go_sem, ↓reduceIte, reduceCtorEq, rA, rq, rL, zA, aZ, Y7, zqn_0, zqn_1, zqn_2, zqn_3, gS]
def zeroNd : Nd := ⟨0, 0, 0, 0, 0, 0⟩
theorem Qqn {l : List Nd} {i : Nat} {d : Nd} (h : l[i]? = some d) : ((ndC l).drop (i * 6)).take 6 = d.cells := by
 induction l generalizing i with
 | nil => simp at h
 | cons e l ih =>
   cases i with
   | zero => simp at h; subst h; simp [ndC, Nd.cells]
   | succ i =>
     have := ih (i := i) (by simpa using h)
     have e1 : ndC (e :: l) = e.cells ++ ndC l := by simp [ndC]
     have e2 : (i + 1) * 6 = e.cells.length + i * 6 := by simp [Nd.cells]; omega
     rw [e1, e2, ← List.drop_drop, List.drop_left]
     exact this
theorem c_Node (hT : Qj P tab) {base : Nat} {v0 v1 v2 v3 v4 t : Nat} {L : List Nd} {D N : List Int} {id : Int} (hb : base ≤ 5) :
 C P G base Zj [.ptr 0 v0 0, .int .i64 id] ⟨t, gH v0 v1 v2 v3 v4 L D N⟩ fun v σ => v = (if 0 ≤ id ∧ id < L.length then .tup [.agg (L.getD id.toNat zeroNd).cells, .bool true] else .tup [.agg zeroNd.cells, .bool false]) ∧ ∃ t', t ≤ t' ∧ σ = ⟨t', gH v0 v1 v2 v3 v4 L D N⟩ := by
 refine Ql 5 hb (Qx hT Qu (by simp [Yd]) (Qs 1000 ?_))
 simp -implicitDefEqProofs (disch := omega) only [go_sem, ↓reduceIte, reduceCtorEq, rA, rq, zA, Yd, QEO, QEN, QEM, QEL, gH, gS]
 refine call hT XN (c_is hT) 1000 fun v σ hv => ?_
 obtain ⟨rfl, rfl⟩ := hv
 by_cases h : 0 ≤ id ∧ id < L.length
 ·obtain ⟨d, hd⟩ : ∃ d, L[id.toNat]? = some d := ⟨_, List.getElem?_eq_getElem (by omega)⟩
  have hl := Qfw L
  have hc := Qqn hd
  have hlen : id.toNat < L.length := by omega
  have h6 : id.toNat * 6 + 6 ≤ (ndC L).length := by omega
  have hgd : L.getD id.toNat zeroNd = d := by simp [List.getD_eq_getElem?_getD, hd]
  simp -implicitDefEqProofs (disch := omega) only [go_sem, Qr, ↓reduceIte, reduceCtorEq, rA, rq, rL, zA, aZ, decide_true, nT, nF, lR, gS, h, hc, hlen, h6, hgd, Nd.cells]
  exact ⟨_, by omega, rfl⟩
 ·simp -implicitDefEqProofs (disch := omega) only [go_sem, Qr, ↓reduceIte, reduceCtorEq, rA, rq, rL, zA, decide_false, nF, lR, gS, h, Nd.cells, zeroNd]
  exact ⟨_, by omega, rfl⟩
theorem Qck (L : List Nd) : Qv (ndC L) = true := by
 induction L with
 | nil => rfl
 | cons d l ih => simp [ndC, Nd.cells, Qv, Qn] at ih ⊢; exact ih
theorem Zl (D : List Int) : Qv (D.map (V.int .i64)) = true := by
 induction D with
 | nil => rfl
 | cons d l ih => simp [Qv, Qn, ih]
theorem QfB (n : Nat) : ∀ (k : Nat) (L : List Nd), (Qgz k L).all (fun p => V.under n p.2) = true
 | _, [] => rfl
 | k, d :: l => by simp only [Qgz, List.all_cons, QfB n (k + 1) l, Bool.and_true]; rfl
theorem Qsk (v0 v1 v2 v3 v4 : Nat) (L : List Nd) (D N : List Int) : QpO 5 (gH v0 v1 v2 v3 v4 L D N) = true := by
 simp [gH, gS, QpO, Ob.under, Yk, V.under, QM _ (Qck L), QM _ (Zl D), QM _ (Zl N), -List.all_eq_true, QfB]
def addN (L : List Nd) (d : Nd) : Int × List Nd :=
 if d.may L.length then (match idx d L with | some i => ((i : Int), L) | none => ((L.length : Int), L ++ [d])) else (-1, L)
def gwf (L : List Nd) : Prop := ∀ (i : Nat) (d : Nd), L[i]? = some d → ∀ p ∈ d.parts, 0 ≤ p ∧ p < i
def Ze (L : List Nd) : Nat → Int → List Int → List Int
 | 0, _, S => S
 | f + 1, id, S => if 0 ≤ id ∧ id < L.length ∧ id ∉ S then (L.getD id.toNat zeroNd).parts.foldl (fun S p => Ze L f p S) (S ++ [id]) else S
def okS (L : List Nd) (S : List Int) : Prop := S.Nodup ∧ ∀ x ∈ S, 0 ≤ x ∧ x < L.length
theorem Qko {L : List Nd} {S : List Int} (h : okS L S) : S.length ≤ L.length := Qhs _ _ h.1 h.2
theorem Qv6 {L : List Nd} {S : List Int} {id : Int} (h : okS L S) (h0 : 0 ≤ id) (h1 : id < L.length) (h2 : id ∉ S) : okS L (S ++ [id]) := by
 refine ⟨?_, fun x hx => ?_⟩
 ·rw [List.nodup_append]
  exact ⟨h.1, by simp, fun a ha b hb => by simp at hb; subst hb; exact fun e => h2 (e ▸ ha)⟩
 ·simp only [List.mem_append, List.mem_singleton] at hx
  rcases hx with hx | rfl
  ·exact h.2 x hx
  ·exact ⟨h0, h1⟩
theorem QjF (L : List Nd) : ∀ (f : Nat) (id : Int) (S : List Int), okS L S → okS L (Ze L f id S)
 | 0, _, _, h => h
 | f + 1, id, S, h => by
   simp only [Ze]
   split
   ·rename_i hc
    have : ∀ (l : List Int) (S : List Int), okS L S → okS L (l.foldl (fun S p => Ze L f p S) S) := fun l => by
     induction l with
     | nil => intro S h; exact h
     | cons p l ih => intro S h; exact ih _ (QjF L f p S h)
    exact this _ _ (Qv6 h hc.1 hc.2.1 hc.2.2)
   ·exact h
def one1 : Int → V := fun _ => .int .i64 1
def wFn (b0 c0 o0 f0 : Nat) : V := .fn (.func Zu) [] [.ptr 5 b0 0, .ptr 7 c0 0, .ptr 8 o0 0, .ptr 9 f0 0]
def uH (v0 v1 v2 v3 v4 b0 s0 c0 o0 f0 r0 : Nat) (L : List Nd) (D N S : List Int) : List (Option Ob) :=
 [gS v0 v1 v2 v3 v4 L.length, some (.map v1 (Qgz 0 L)), some (.arr v2 57 (ndC L)), some (.arr v3 3 (D.map (V.int .i64))), some (.arr v4 3 (N.map (V.int .i64))),
  some (.arr b0 25 [.ptr 0 v0 0]), some (.map s0 (im .i64 one1 S)), some (.arr c0 115 [.mp 6 s0]), some (.arr o0 50 [.sl 10 r0 0 1 S.length none]), some (.arr f0 116 [wFn b0 c0 o0 f0]), some (.arr r0 26 (S.map (V.int .i64)))]
theorem c_walk (hT : Qj P tab) {base : Nat} (hb : base ≤ 5) {v0 v1 v2 v3 v4 b0 s0 c0 o0 f0 : Nat} {L : List Nd} {D N : List Int} (hL : L.length ≤ 1000000) (hwf : gwf L) : ∀ (f : Nat) (id : Int) (S : List Int) (t r0 : Nat), id.toNat < f → okS L S →
 C P G base Zu [.int .i64 id, .ptr 5 b0 0, .ptr 7 c0 0, .ptr 8 o0 0, .ptr 9 f0 0] ⟨t, uH v0 v1 v2 v3 v4 b0 s0 c0 o0 f0 r0 L D N S⟩ fun v σ => ∃ t' r0', t ≤ t' ∧ σ = ⟨t', uH v0 v1 v2 v3 v4 b0 s0 c0 o0 f0 r0' L D N (Ze L f id S)⟩ := by
 intro f
 induction f with
 | zero => intro id S t r0 h; omega
 | succ f ih =>
   intro id S t r0 hf hS
   have hSl := Qko hS
   have hkk := YT .i64 one1 S id
   have hkm := Qmj .i64 one1 id S
   refine Qx hT Zt (by simp [Yl]) (Qs 1000 ?_)
   simp -implicitDefEqProofs (disch := omega) only [go_sem, ↓reduceIte, reduceCtorEq, rA, rq, zA, lR, Yl, QA5, QA4, QA3, QA2, QA1, QA0, QAZ, QAY, uH, gS]
   refine call hT XN (c_is hT) 1000 fun v σ hv => ?_
   obtain ⟨rfl, rfl⟩ := hv
   by_cases hin : 0 ≤ id ∧ id < L.length
   ·by_cases hid : id ∈ S
    ·rw [if_pos hid] at hkm
     simp -implicitDefEqProofs (disch := omega) only [go_sem, ↓reduceIte, reduceCtorEq, rA, rq, Int.reduceLT, zA, decide_true, nT, lR, gt_iff_lt, Option.getD_some, gS, hin, hkk, hkm, one1]
     exact ⟨t, r0, by omega, by simp [Ze, hid]⟩
    ·rw [if_neg hid] at hkm
     have hmp := Qmg .i64 one1 id (.int .i64 1) rfl S hid
     obtain ⟨d, hd⟩ : ∃ d, L[id.toNat]? = some d := ⟨_, List.getElem?_eq_getElem (by omega)⟩
     have hl := Qfw L
     have hc := Qqn hd
     have hlen : id.toNat < L.length := by omega
     have h6 : id.toNat * 6 + 6 ≤ (ndC L).length := by omega
     have hgd : L.getD id.toNat zeroNd = d := by simp [List.getD_eq_getElem?_getD, hd]
     simp -implicitDefEqProofs (disch := omega) only [go_sem, Qr, ↓reduceIte, reduceCtorEq, rA, rq, rL, Int.reduceLT, zA, aZ, Nat.mul_one, decide_true, decide_false, nT, nF, lR, gt_iff_lt, Option.getD_none, gS, hin, hkk, hkm, hmp, hc, hlen, h6, lM, Nd.cells, show base ≤ 6 from by omega, show base ≤ 8 from by omega, show base ≤ 10 from by omega]
     refine Qpn hT QeN (Qxi hT d) rfl 1000 fun v hv => ?_
     obtain ⟨z, rfl, hz⟩ := hv
     refine yS ?_
     have hS1 := Qv6 hS hin.1 hin.2 hid
     have hdp : ∀ p ∈ d.parts, 0 ≤ p ∧ p < id.toNat := hwf _ d hd
     refine Qfv (fun m fr σ => ∃ (i t' r' : Nat) (S' : List Int), i ≤ d.parts.length ∧ m = d.parts.length - i ∧ okS L S' ∧ S' = (d.parts.take i).foldl (fun S p => Ze L f p S) (S ++ [id]) ∧ t ≤ t' ∧ Qt fr 1 = .ptr 5 b0 0 ∧ Qt fr 2 = .ptr 7 c0 0 ∧ Qt fr 3 = .ptr 8 o0 0 ∧ Qt fr 4 = .ptr 9 f0 0 ∧
      Qt fr 31 = .lst z (d.parts.map (V.int .i64)) true ∧ Qt fr 32 = .int .i64 d.parts.length ∧ Qt fr 33 = .int .i64 i ∧ σ = ⟨t', uH v0 v1 v2 v3 v4 b0 s0 c0 o0 f0 r' L D N S'⟩)
      (fun e fr σ => e = .ex 0 ∧ ∃ t' r', t ≤ t' ∧ σ = ⟨t', uH v0 v1 v2 v3 v4 b0 s0 c0 o0 f0 r' L D N (Ze L (f + 1) id S)⟩)
      (m0 := d.parts.length) ⟨0, t + 1, t, S ++ [id], zL _, rfl, hS1, rfl, by omega, ?_⟩ (fun m fr σ hJ => ?_) (fun e fr σ hE => ?_)
     ·refine ya ?_
      simp [uH, gS, wFn]
     ·obtain ⟨i, t', r', S', hi, rfl, hS', hS'e, ht', f1, f2, f3, f4, f31, f32, f33, rfl⟩ := hJ
      refine Qs 1000 ?_
      rcases Nat.lt_or_ge i d.parts.length with hlt | hge
      ·have hz1 : z = 1 := by rcases hz with h | h; exact h; rw [h] at hlt; simp at hlt
       subst hz1
       obtain ⟨p, hp⟩ : ∃ p, d.parts[i]? = some p := ⟨_, List.getElem?_eq_getElem hlt⟩
       obtain ⟨hp0, hp1⟩ := hdp p (List.mem_of_getElem? hp)
       have hg : (d.parts.map (V.int .i64)).getD i .any = V.int .i64 p := by simp [List.getD_eq_getElem?_getD, hp]
       simp -implicitDefEqProofs (disch := omega) only [go_sem, Qr, ↓reduceIte, rq, zA, decide_true, lR, uH, gS, lM, f4, f31, f32, f33, hlt, hg, wFn]
       refine callK hT Zt (ih p S' t' r' (by omega) hS') 1000 fun v σ hv => ?_
       obtain ⟨t2, r2, ht2, rfl⟩ := hv
       simp -implicitDefEqProofs (disch := omega) only [go_sem, ↓reduceIte, rq, f33]
       refine ⟨d.parts.length - (i + 1), _, _, by omega, Shift.refl _ _ _ _, i + 1, t2, r2, Ze L f p S', hlt, rfl, QjF L f p S' hS', ?_, by omega, ?_⟩
       ·rw [List.take_add_one, hp, Option.toList_some, List.foldl_append, ← hS'e]; rfl
       ·have hpl : d.parts.length ≤ 2 := by unfold Nd.parts; split <;> (try split) <;> simp
        have hw : IntKind.i64.wrap ((i : Int) + 1) = ((i + 1 : Nat) : Int) := by
         rw [wrap_i64 (by omega) (by omega)]; rfl
        simp -implicitDefEqProofs (disch := omega) only [go_sem, ↓reduceIte, rq, f1, f2, f3, f4, f31, f32, hw]
        rfl
      ·simp -implicitDefEqProofs (disch := omega) only [go_sem, ↓reduceIte, decide_false, f32, f33, show ¬ i < d.parts.length from by omega]
       refine ⟨t', r', ht', ?_⟩
       rw [List.take_of_length_le (by omega)] at hS'e
       have : Ze L (f + 1) id S = S' := by rw [Ze, if_pos ⟨hin.1, hin.2, hid⟩, hgd, hS'e]
       rw [this]; exact ⟨rfl, rfl⟩
     ·obtain ⟨rfl, t', r', ht', rfl⟩ := hE
      refine QI 1000 ?_
      refine ya ?_
      exact ⟨t', r', ht', rfl, rfl⟩
   ·simp -implicitDefEqProofs (disch := omega) only [go_sem, ↓reduceIte, reduceCtorEq, rq, decide_false, nF, gS, hin]
    exact ⟨t, r0, by omega, by simp [Ze]; grind⟩
structure ZG (P : Program) : Prop where
 some : ∀ (blk off cap : Nat) (zs : List Int) (w : World), Go.Sort.Holds (Value.int .i64) w blk off zs.toArray → blk < w.heap.size → zs.length < 4611686018427387904 →
  Calls P Xl #[.slice (some ⟨blk, off, none⟩) zs.length cap] w fun e w' => e = .returned (.tuple #[]) ∧ ∃ n os, w' = Go.Sort.grow (Go.Sort.putRow (Value.int .i64) (Go.Sort.ahead w n) blk off (zs.mergeSort fun x y => decide (x ≤ y)).toArray) os
 none : ∀ (p : Option Addr) (cap : Nat) (w : World), Calls P Xl #[.slice p 0 cap] w fun e w' => e = .returned (.tuple #[]) ∧ w' = w
theorem c_Sort (S : ZG P) {base k v T t : Nat} {o : List (Option Ob)} {zs : List Int} {n : Nat} {lim : Option Nat} (hk : base ≤ k) (ho : o[k]? = some (some (.arr v T (zs.map (V.int .i64))))) (hn : n = zs.length) (hl : zs.length < 4611686018427387904) :
 C P G base Xl [.sl k v 0 1 n lim] ⟨t, o⟩ fun r σ' => r = .tup [] ∧ σ' = ⟨t, o.set k (some (.arr v T ((zs.mergeSort fun x y => decide (x ≤ y)).map (V.int .i64))))⟩ := by
 subst hn
 cases zs with
 | nil =>
   refine (QHm (fun p cap w => S.none p cap w)).conseq fun r σ' ⟨h1, h2⟩ => ⟨h1, ?_⟩
   rw [h2]
   congr 1
   have hk' := (List.getElem?_eq_some_iff.1 ho).1
   have := (List.getElem?_eq_some_iff.1 ho).2
   apply List.ext_getElem? 
   intro m
   by_cases hm : m = k
   ·subst hm; rw [ho]; simp [hk']
   ·simp [List.getElem?_set_ne (Ne.symm hm)]
 | cons z zs => exact C_sort hk ho (by simp) (by simp) fun blk off cap w hH hb => S.some blk off cap _ w hH hb hl
def walks (L : List Nd) (roots : List Int) (S : List Int) : List Int := roots.foldl (fun S r => Ze L (r.toNat + 1) r S) S
def QN (L : List Nd) (roots : List Int) : List Int := (walks L roots []).mergeSort fun x y => decide (x ≤ y)
theorem QcX (L : List Nd) : ∀ (roots S : List Int), okS L S → okS L (walks L roots S)
 | [], S, h => h
 | r :: roots, S, h => QcX L roots _ (QjF L _ r S h)
theorem QEk (hT : Qj P tab) (SO : ZG P) {base : Nat} (hb : base ≤ 5) {v0 v1 v2 v3 v4 t : Nat} {L : List Nd} {D N : List Int} (hL : L.length ≤ 1000000) (hwf : gwf L) (roots : List Int) (z : Nat) (tight : Bool) (hz : z = 1 ∨ roots = []) (hrl : roots.length ≤ 9223372036854775806) :
 C P G base QaX [.ptr 0 v0 0, .lst z (roots.map (V.int .i64)) tight] ⟨t, gH v0 v1 v2 v3 v4 L D N⟩ fun v σ => v = .lst 1 ((QN L roots).map (V.int .i64)) false ∧ ∃ t', t ≤ t' ∧ σ = ⟨t', gH v0 v1 v2 v3 v4 L D N⟩ := by
 refine C.wk hb (lR _) (Ql 5 (lR _) (Qzq (Q := fun v σ => ∃ (r n t' : Nat) (x5 x6 x7 x8 x9 : Option Ob), n = (QN L roots).length ∧ t ≤ t' ∧ v = .sl 10 r 0 1 n none ∧ σ = ⟨t', gH v0 v1 v2 v3 v4 L D N ++ [x5, x6, x7, x8, x9, some (.arr r 26 ((QN L roots).map (V.int .i64)))]⟩) ?_ fun v σ hv => ?_))
 ·refine Qx hT Zf (by simp [Y5]) (Qs 1000 ?_)
  simp -implicitDefEqProofs (disch := omega) only [go_sem, ↓reduceIte, reduceCtorEq, rA, rq, rL, zA, nF, lR, Y5, QCv, QCu, QCt, QCs, QCr, QCq, QCp, QCo, QCn, QCm, QuY, QuX, gH, gS, lM, lN, nA, lC, cA, show (Value.map none).oneCell' = true from rfl, show Value.nilFunc.oneCell' = true from rfl]
  refine Z4 (HShift.shift (HShift.ownAt 1 26 (k := 8) (p := 0) (by omega) rfl rfl)) (QI 1000 ?_)
  simp -implicitDefEqProofs (disch := omega) only [go_sem, rA, zA, lN, nA, lC, cA]
  refine Qfv (fun m fr σ => ∃ (i t' r' : Nat) (S : List Int), i ≤ roots.length ∧ m = roots.length - i ∧ okS L S ∧ S = walks L (roots.take i) [] ∧ t ≤ t' ∧ Qt fr 2 = .ptr 5 t 0 ∧ Qt fr 5 = .ptr 7 (t + 1 + 1) 0 ∧ Qt fr 6 = .ptr 8 (t + 1 + 1 + 1) 0 ∧ Qt fr 7 = .ptr 9 (t + 1 + 1 + 1 + 1) 0 ∧
   Qt fr 12 = .lst z (roots.map (V.int .i64)) tight ∧ Qt fr 13 = .int .i64 roots.length ∧ Qt fr 14 = .int .i64 i ∧ σ = ⟨t', uH v0 v1 v2 v3 v4 t (t + 1) (t + 1 + 1) (t + 1 + 1 + 1) (t + 1 + 1 + 1 + 1) r' L D N S⟩)
   (fun e fr σ => e = .ex 0 ∧ Qt fr 6 = .ptr 8 (t + 1 + 1 + 1) 0 ∧ ∃ t' r', t ≤ t' ∧ σ = ⟨t', uH v0 v1 v2 v3 v4 t (t + 1) (t + 1 + 1) (t + 1 + 1 + 1) (t + 1 + 1 + 1 + 1) r' L D N (walks L roots [])⟩)
   (m0 := roots.length) ⟨0, t + 1 + 1 + 1 + 1 + 1 + 1, t + 1 + 1 + 1 + 1 + 1, [], zL _, rfl, ⟨List.nodup_nil, by simp⟩, rfl, by omega, ?_⟩ (fun m fr σ hJ => ?_) (fun e fr σ hE => ?_)
  ·refine ya ?_
   simp [uH, gS, wFn, im]
  ·obtain ⟨i, t', r', S, hi, rfl, hS, hSe, ht', f2, f5, f6, f7, f12, f13, f14, rfl⟩ := hJ
   refine Qs 1000 ?_
   rcases Nat.lt_or_ge i roots.length with hlt | hge
   ·have hz1 : z = 1 := by rcases hz with h | h; exact h; rw [h] at hlt; simp at hlt
    subst hz1
    obtain ⟨p, hp⟩ : ∃ p, roots[i]? = some p := ⟨_, List.getElem?_eq_getElem hlt⟩
    have hg : (roots.map (V.int .i64)).getD i .any = V.int .i64 p := by simp [List.getD_eq_getElem?_getD, hp]
    simp -implicitDefEqProofs (disch := omega) only [go_sem, Qr, ↓reduceIte, rq, zA, decide_true, lR, uH, gS, lM, f7, f12, f13, f14, hlt, hg, wFn]
    refine callK hT Zt (c_walk hT (lR 5) hL hwf (p.toNat + 1) p S t' r' (by omega) hS) 1000 fun v σ hv => ?_
    obtain ⟨t2, r2, ht2, rfl⟩ := hv
    simp -implicitDefEqProofs (disch := omega) only [go_sem, ↓reduceIte, rq, f14]
    refine ⟨roots.length - (i + 1), _, _, by omega, Shift.refl _ _ _ _, i + 1, t2, r2, Ze L (p.toNat + 1) p S, hlt, rfl, QjF L _ p S hS, ?_, by omega, ?_⟩
    ·rw [List.take_add_one, hp, Option.toList_some, walks, List.foldl_append, hSe]; rfl
    ·have hw : IntKind.i64.wrap ((i : Int) + 1) = ((i + 1 : Nat) : Int) := by
      rw [wrap_i64 (by omega) (by omega)]; rfl
     simp -implicitDefEqProofs (disch := omega) only [go_sem, ↓reduceIte, rq, f2, f5, f6, f7, f12, f13, hw]
     rfl
   ·simp -implicitDefEqProofs (disch := omega) only [go_sem, ↓reduceIte, rq, decide_false, f6, f13, f14, show ¬ i < roots.length from by omega]
    rw [List.take_of_length_le (by omega)] at hSe
    exact ⟨t', r', ht', rfl, by rw [hSe]⟩
  ·obtain ⟨rfl, f6, t', r', ht', rfl⟩ := hE
   have hSw := Qko (QcX L roots [] ⟨List.nodup_nil, by simp⟩)
   refine QI 1000 ?_
   simp -implicitDefEqProofs (disch := omega) only [go_sem, ↓reduceIte, zA, lR, uH, gS, f6]
   refine call hT Qbd (c_Sort SO (k := 10) (T := 26) (zs := walks L roots []) (by omega) rfl rfl (by omega)) 1000 fun v σ hv => ?_
   obtain ⟨rfl, rfl⟩ := hv
   simp -implicitDefEqProofs (disch := omega) only [go_sem, ↓reduceIte, rq, zA, lR, f6]
   exact ⟨r', _, t', _, _, _, _, _, rfl, ht', by simp [QN], rfl, rfl⟩
 ·obtain ⟨r, n, t', x5, x6, x7, x8, x9, rfl, ht', rfl, rfl⟩ := hv
  refine ⟨10, r, 26, (QN L roots).map (V.int .i64), by omega, rfl, Zl _, ?_⟩
  refine ⟨by simp [Yw, gH], ?_, t', ht', ?_⟩
  ·simp only [Qc3, Qkk]
   simp [List.take_of_length_le]
  ·simp [gH, X6]
def Qk9 (D : List Int) (ps : List Int) : Int := ps.foldl (fun m p => max m (D.getD p.toNat 0)) 0
def Qy5 (D : List Int) (d : Nd) : Int := Qk9 D d.parts + 1
def QfS (L : List Nd) : List Int := L.foldl (fun D d => D ++ [Qy5 D d]) []
theorem QkO (L : List Nd) (d : Nd) : QfS (L ++ [d]) = QfS L ++ [Qy5 (QfS L) d] := by simp [QfS, List.foldl_append]
def Qdv (N : List Int) (ps : List Int) (b : Int) : Int := ps.foldl (fun m p => m + N.getD p.toNat 0) b
def Qor (fmt : Int → List UInt8) (N : List Int) (d : Nd) : Int := if 65537 < Qdv N d.parts ((d.words fmt [] []).length : Int) then 65537 else Qdv N d.parts ((d.words fmt [] []).length : Int)
def X1 (fmt : Int → List UInt8) (L : List Nd) : List Int := L.foldl (fun N d => N ++ [Qor fmt N d]) []
theorem Qe7 (fmt : Int → List UInt8) (L : List Nd) (d : Nd) : X1 fmt (L ++ [d]) = X1 fmt L ++ [Qor fmt (X1 fmt L) d] := by simp [X1, List.foldl_append]
theorem Qbp {α : Type} {p : List α → Prop} (h0 : p []) (h1 : ∀ l a, p l → p (l ++ [a])) (l : List α) : p l := by
 have : ∀ r : List α, p r.reverse := fun r => by
  induction r with
  | nil => exact h0
  | cons a r ih => rw [List.reverse_cons]; exact h1 _ _ ih
 simpa using this l.reverse
theorem QoW (L : List Nd) : (QfS L).length = L.length := by
 refine Qbp (p := fun L => (QfS L).length = L.length) rfl (fun l a h => ?_) L
 rw [QkO]; simp [h]
theorem Qco (fmt : Int → List UInt8) (L : List Nd) : (X1 fmt L).length = L.length := by
 refine Qbp (p := fun L => (X1 fmt L).length = L.length) rfl (fun l a h => ?_) L
 rw [Qe7]; simp [h]
theorem QmG {D : List Int} {b : Int} (hD : ∀ x ∈ D, 0 ≤ x ∧ x ≤ b) (h0 : 0 ≤ b) (ps : List Int) : 0 ≤ Qk9 D ps ∧ Qk9 D ps ≤ b := by
 have : ∀ (ps : List Int) (m : Int), 0 ≤ m ∧ m ≤ b → 0 ≤ ps.foldl (fun m p => max m (D.getD p.toNat 0)) m ∧ ps.foldl (fun m p => max m (D.getD p.toNat 0)) m ≤ b := fun ps => by
  induction ps with
  | nil => intro m h; exact h
  | cons p ps ih =>
    intro m h
    refine ih _ ?_
    have : 0 ≤ D.getD p.toNat 0 ∧ D.getD p.toNat 0 ≤ b := by
     rw [List.getD_eq_getElem?_getD]
     cases hx : D[p.toNat]? with
     | none => simp; exact h0
     | some x => simpa using hD x (List.mem_of_getElem? hx)
    show 0 ≤ max m (D.getD p.toNat 0) ∧ max m (D.getD p.toNat 0) ≤ b
    omega
 exact this ps 0 ⟨Int.le_refl _, h0⟩
theorem Qy4 (L : List Nd) : ∀ x ∈ QfS L, 0 ≤ x ∧ x ≤ L.length := by
 refine Qbp (p := fun L => ∀ x ∈ QfS L, 0 ≤ x ∧ x ≤ L.length) (by simp [QfS]) (fun l a h => ?_) L
 rw [QkO]
 intro x hx
 simp only [List.mem_append, List.mem_singleton] at hx
 rcases hx with hx | rfl
 ·have := h x hx; simp; omega
 ·have := QmG (b := l.length) h (by omega) a.parts
  simp [Qy5]; omega
theorem Qsb {N : List Int} (hN : ∀ x ∈ N, 0 ≤ x ∧ x ≤ 65537) (ps : List Int) (b : Int) (hb : 0 ≤ b) : 0 ≤ Qdv N ps b ∧ Qdv N ps b ≤ b + 65537 * ps.length := by
 induction ps generalizing b with
 | nil => simp [Qdv]; exact hb
 | cons p ps ih =>
   have : 0 ≤ N.getD p.toNat 0 ∧ N.getD p.toNat 0 ≤ 65537 := by
    rw [List.getD_eq_getElem?_getD]
    cases hx : N[p.toNat]? with
    | none => simp
    | some x => simpa using hN x (List.mem_of_getElem? hx)
   have h2 := ih (b + N.getD p.toNat 0) (by omega)
   simp only [Qdv, List.foldl_cons, lC] at h2 ⊢
   omega
theorem Qr9 (fmt : Int → List UInt8) (L : List Nd) : ∀ x ∈ X1 fmt L, 0 ≤ x ∧ x ≤ 65537 := by
 refine Qbp (p := fun L => ∀ x ∈ X1 fmt L, 0 ≤ x ∧ x ≤ 65537) (by simp [X1]) (fun l a h => ?_) L
 rw [Qe7]
 intro x hx
 simp only [List.mem_append, List.mem_singleton] at hx
 rcases hx with hx | rfl
 ·exact h x hx
 ·have := Qsb h a.parts ((a.words fmt [] []).length : Int) (by omega)
  unfold Qor
  split <;> omega
theorem Qyj {o : Int} (ho : 0 ≤ o ∧ o ≤ 16) : (signs.getD o.toNat []).length ≤ 3 := by
 have : o = 0 ∨ o = 1 ∨ o = 2 ∨ o = 3 ∨ o = 4 ∨ o = 5 ∨ o = 6 ∨ o = 7 ∨ o = 8 ∨ o = 9 ∨ o = 10 ∨ o = 11 ∨ o = 12 ∨ o = 13 ∨ o = 14 ∨ o = 15 ∨ o = 16 := by omega
 rcases this with h | h | h | h | h | h | h | h | h | h | h | h | h | h | h | h | h <;> rw [h] <;> decide
theorem Qx1 (F : Fmt P G) (d : Nd) (x y : List UInt8) (ho : 0 ≤ d.op ∧ d.op ≤ 16) : (d.words F.fmt x y).length ≤ x.length + y.length + 60 := by
 have l1 := F.le d.n
 have l2 := F.le d.a
 have l3 := Qyj ho
 unfold Nd.words
 split
 ·omega
 ·split
  ·simp only [lA, lC, lN]; omega
  ·split
   ·simp only [lA, lC, lN]; omega
   ·simp only [lA, lC, lN]; omega
def gG (fmt : Int → List UInt8) (v0 v1 v2 v3 v4 : Nat) (L : List Nd) : List (Option Ob) := gH v0 v1 v2 v3 v4 L (QfS L) (X1 fmt L)
theorem c_AddG (hT : Qj P tab) (F : Fmt P G) {v0 v1 v2 v3 v4 t : Nat} {L : List Nd} (d : Nd) (hL : L.length ≤ 1000000) (hn : i64 d.n) (ha : i64 d.a) :
 C P G 0 ZH [.ptr 0 v0 0, .agg d.cells] ⟨t, gG F.fmt v0 v1 v2 v3 v4 L⟩ fun v σ => v = .int .i64 (addN L d).1 ∧ ∃ t' v2' v3' v4', t ≤ t' ∧ σ = ⟨t', gG F.fmt v0 v1 v2' v3' v4' (addN L d).2⟩ := by
 have hD := QoW L
 have hN := Qco F.fmt L
 have hDb := Qy4 L
 have hNb := Qr9 F.fmt L
 have hDD := QkO L d
 have hNN := Qe7 F.fmt L d
 unfold gG
 generalize hDe : QfS L = D at hD hDb hDD ⊢
 generalize hNe : X1 F.fmt L = N at hN hNb hNN ⊢
 have hkm := Qon d 0 L
 have hki := Qkx d 0 L
 have hkk := Qqu d 0 L
 have hkl := QdA 0 L
 refine Ql 5 (zL _) (Qx hT Qw (by simp [Yu]) (Qs 1000 ?_))
 simp -implicitDefEqProofs (disch := omega) only [go_sem, ↓reduceIte, reduceCtorEq, rA, rq, zA, lR, Yu, Qvq, Qvp, Qvo, Qvn, Qvm, Qvl, Qvk, Qvj, Qvi, Qvh, Qp6, Qp5, Qp4, Qp3, Qp2, Qp1, gH, gS, Nd.cells]
 refine callE (ex := _) hT QdY (c_may (o1 := _) (o2 := _) (o3 := _) (o4 := _) hT d (zL _)) rfl (Qsk ..) (zL _) rfl 1000 fun v σ hv => ?_
 obtain ⟨rfl, t1, ht1, rfl⟩ := hv
 refine ⟨rfl, Qsk .., rfl, ?_⟩
 simp only at ht1
 cases hmay : d.may L.length
 ·simp -implicitDefEqProofs (disch := omega) only [go_sem, ↓reduceIte, reduceCtorEq, rA, rq, rL, zA, nF, gS]
  have e1 : addN L d = (-1, L) := by simp [addN, hmay]
  rw [e1]
  simp only [hDe, hNe]
  exact ⟨trivial, _, _, _, _, by omega, ⟨rfl, rfl⟩⟩
 ·simp only [Nd.cells] at hkm hki hkk
  cases hidx : idx d L with
  | some i =>
    simp -implicitDefEqProofs (disch := omega) only [go_sem, ↓reduceIte, reduceCtorEq, rA, rq, rL, rT, zA, nT, lR, Option.isSome_some, Option.getD_some, gS, hkm, hkk, hidx]
    have e1 : addN L d = ((i : Int), L) := by simp [addN, hmay, hidx]
    rw [e1]
    simp only [hDe, hNe]
    exact ⟨trivial, _, _, _, _, by omega, ⟨rfl, rfl⟩⟩
  | none =>
    simp -implicitDefEqProofs (disch := omega) only [go_sem, ↓reduceIte, reduceCtorEq, rA, rq, rL, rT, zA, aZ, nT, lR, Option.isSome_none, Option.getD_none, gS, hkm, hkk, hidx]
    have hop : 0 ≤ d.op ∧ d.op ≤ 16 := by simp only [Nd.may] at hmay; grind
    refine Qpn hT QeM (Qxh hT F d [] [] hn ha hop (by simp) (by simp)) rfl 1000 fun v hv => ?_
    subst hv
    refine ya ?_
    refine Qpn hT QeN (Qxi hT d) rfl 1000 fun v hv => ?_
    obtain ⟨z, rfl, hz⟩ := hv
    refine yS ?_
    have hpp : ∀ p ∈ d.parts, 0 ≤ p ∧ p < L.length := by simp only [Nd.may] at hmay; simp only [Nd.parts]; grind
    refine QFQ (fun m fr σ => ∃ i : Nat, i ≤ d.parts.length ∧ m = d.parts.length - i ∧ Qt fr 0 = .ptr 0 v0 0 ∧ Qt fr 3 = .ptr 5 t 0 ∧ Qt fr 7 = .int .i64 L.length ∧ Qt fr 8 = .int .i64 (Qk9 D (d.parts.take i)) ∧ Qt fr 9 = .int .i64 (Qdv N (d.parts.take i) ((d.words F.fmt [] []).length : Int)) ∧
     Qt fr 40 = .lst z (d.parts.map (V.int .i64)) true ∧ Qt fr 41 = .int .i64 d.parts.length ∧ Qt fr 42 = .int .i64 i ∧ σ = ⟨t1, gH v0 v1 v2 v3 v4 L D N ++ [some (.arr t 57 d.cells)]⟩) (fun m fr σ hJ => ?_) (m0 := d.parts.length) ⟨0, zL _, rfl, ?_⟩
    ·obtain ⟨i, hi, rfl, f0, f3, f7, f8, f9, f40, f41, f42, rfl⟩ := hJ
     refine Qs 1000 ?_
     rcases Nat.lt_or_ge i d.parts.length with hlt | hge
     ·have hz1 : z = 1 := by rcases hz with h | h; exact h; rw [h] at hlt; simp at hlt
      subst hz1
      obtain ⟨p, hp⟩ : ∃ p, d.parts[i]? = some p := ⟨_, List.getElem?_eq_getElem hlt⟩
      obtain ⟨hp0, hp1⟩ := hpp p (List.mem_of_getElem? hp)
      have hg : (d.parts.map (V.int .i64)).getD i .any = V.int .i64 p := by simp [List.getD_eq_getElem?_getD, hp]
      have hp2 : p.toNat < L.length := by omega
      obtain ⟨x, hx⟩ : ∃ x, D[p.toNat]? = some x := ⟨_, List.getElem?_eq_getElem (by omega)⟩
      obtain ⟨y, hy⟩ : ∃ y, N[p.toNat]? = some y := ⟨_, List.getElem?_eq_getElem (by omega)⟩
      have hgD : (D.map (V.int .i64)).getD p.toNat .any = V.int .i64 x := by simp [List.getD_eq_getElem?_getD, hx]
      have hgN : (N.map (V.int .i64)).getD p.toNat .any = V.int .i64 y := by simp [List.getD_eq_getElem?_getD, hy]
      simp -implicitDefEqProofs (disch := omega) only [go_sem, Qr, ↓reduceIte, reduceCtorEq, rA, rq, rL, Nat.succ_ne_zero, zA, Nat.mul_one, decide_true, lR, gt_iff_lt, gH, gS, Nd.cells, lM, f0, f8, f9, f40, f41, f42, hlt, hg, hp0, hp2, hgD, hgN]
      refine ⟨d.parts.length - (i + 1), _, _, by omega, Shift.refl _ _ _ _, i + 1, hlt, rfl, ?_⟩
      simp -implicitDefEqProofs (disch := omega) only [go_sem, ↓reduceIte, reduceCtorEq, rq, Nat.succ_ne_zero, f0, f3, f7, f40, f41]
      have hpl : d.parts.length ≤ 2 := by unfold Nd.parts; split <;> (try split) <;> simp
      have hw : IntKind.i64.wrap ((i : Int) + 1) = ((i + 1 : Nat) : Int) := by
       rw [wrap_i64 (by omega) (by omega)]; rfl
      have hpl2 : (d.parts.take i).length ≤ 2 := by rw [List.length_take]; omega
      have hA := QmG hDb (by omega) (d.parts.take i)
      have hB := Qsb hNb (d.parts.take i) ((d.words F.fmt [] []).length : Int) (by omega)
      have hxb := hDb x (List.mem_of_getElem? hx)
      have hyb := hNb y (List.mem_of_getElem? hy)
      have eA : Qk9 D (d.parts.take (i + 1)) = max (Qk9 D (d.parts.take i)) x := by
       rw [List.take_add_one, hp, Option.toList_some, Qk9, List.foldl_append]; simp [Qk9, List.getD_eq_getElem?_getD, hx]
      have eB : Qdv N (d.parts.take (i + 1)) ((d.words F.fmt [] []).length : Int) = Qdv N (d.parts.take i) ((d.words F.fmt [] []).length : Int) + y := by
       rw [List.take_add_one, hp, Option.toList_some, Qdv, List.foldl_append]; simp [Qdv, List.getD_eq_getElem?_getD, hy]
      have hwl := Qx1 F d [] [] hop
      simp only [lN] at hwl
      have hw2 : IntKind.i64.wrap (Qdv N (d.parts.take i) ((d.words F.fmt [] []).length : Int) + y) = Qdv N (d.parts.take i) ((d.words F.fmt [] []).length : Int) + y := wrap_i64 (by omega) (by omega)
      rw [hw, eA, eB, hw2]
      (repeat' (first | with_reducible refine And.intro ?_ ?_ | with_reducible intro _))
      all_goals first | rfl | (congr 1; omega) | skip
     ·simp -implicitDefEqProofs (disch := omega) only [go_sem, ↓reduceIte, decide_false, gH, gS, Nd.cells, f41, f42, show ¬ i < d.parts.length from by omega]
      refine QI 1000 ?_
      simp -implicitDefEqProofs (disch := omega) only [go_sem, Qr, ↓reduceIte, reduceCtorEq, rA, rq, rL, rT, Nat.succ_ne_zero, zA, aZ, Nat.mul_one, nT, nF, lR, zL, Option.getD_none, lM, f0, f3, f7, f8, f9, hkm, hki, hkk, hkl, hidx, Qfw, hD, hN]
      obtain ⟨hm1, hm2⟩ := QwQ L d hidx
      simp only [Nd.cells] at hm1 hm2
      refine ⟨⟨by omega, hm1⟩, ?_⟩
      simp only [addN, hmay, hidx, if_true]
      refine ⟨trivial, _, t1, t1 + 1, t1 + 1 + 1, by omega, ⟨rfl, ?_⟩⟩
      rw [hm2, hDD, hNN]
      have hi : i = d.parts.length := by omega
      subst hi
      have hA := QmG hDb (by omega) d.parts
      have hw3 : IntKind.i64.wrap (Qk9 D d.parts + 1) = Qk9 D d.parts + 1 := wrap_i64 (by omega) (by omega)
      simp [ndC, Nd.cells, Qy5, Qor, hw3]
    ·simp -implicitDefEqProofs (disch := omega) only [go_sem, ↓reduceIte, reduceCtorEq, rq, gH, gS, Nd.cells]
     exact ⟨rfl, rfl, rfl⟩
theorem QG5 (hT : Qj P tab) (d : Nd) : Pure P G ZP [.agg d.cells] fun v => v = .agg d.cells := by
 intro t
 refine Ql 0 (zL _) (Qx hT YC (by simp [XE]) (Qs 1000 ?_))
 simp -implicitDefEqProofs (disch := omega) only [go_sem, ↓reduceIte, reduceCtorEq, rA, rq, rL, zA, aZ, nF, lR, zL, XE, zqu_0, zqu_1, Nd.cells]
theorem c_New (hT : Qj P tab) {base : Nat} {t : Nat} {o : List (Option Ob)} (hb : base ≤ o.length) :
 C P G base Qib [] ⟨t, o⟩ fun v σ => ∃ v0 v1 v2 v3 v4 t' i1 i2 i3 i4, t ≤ t' ∧ v = .ptr (o.length + 1) v0 0 ∧ σ = ⟨t', o ++ [some (.map v1 []), some (.arr v0 85 [.sl i2 v2 0 6 0 none, .mp i1 v1, .sl i3 v3 0 1 0 none, .sl i4 v4 0 1 0 none]), some (.arr v2 57 []), some (.arr v3 3 []), some (.arr v4 3 [])]⟩ ∧
  i1 = o.length ∧ i2 = o.length + 2 ∧ i3 = o.length + 3 ∧ i4 = o.length + 4 := by
 refine Qzp (Q := fun v σ => v = .ptr (o.length + 1) (t + 1) 0 ∧ σ = ⟨t + 2, o ++ [some (.map t []), some (.arr (t + 1) 85 [.lst 0 [] true, .mp o.length t, .lst 0 [] true, .lst 0 [] true])]⟩) ?_ fun v σ hv => ?_
 ·refine Qx hT Qh2 (by simp [Qhc]) (Qs 1000 ?_)
  simp -implicitDefEqProofs (disch := omega) only [go_sem, ↓reduceIte, reduceCtorEq, rA, rq, rL, zA, Qhc, zqy_0, zqy_1]
  simp
 ·obtain ⟨rfl, rfl⟩ := hv
  have h1 := HShift.ownAt (G := G) 6 57 (base := base) (k := o.length + 1) (v := t + 1) (T' := 85) (p := 0) (z := 0) (cs := [.lst 0 [] true, .mp o.length t, .lst 0 [] true, .lst 0 [] true]) (t := t + 2) (o := o ++ [some (.map t []), some (.arr (t + 1) 85 [.lst 0 [] true, .mp o.length t, .lst 0 [] true, .lst 0 [] true])]) (by omega) (by simp) rfl
  simp [] at h1
  have h2 := HShift.ownAt (G := G) 1 3 (base := base) (k := o.length + 1) (v := t + 1) (T' := 85) (p := 2) (z := 0) (cs := [.sl (o.length + 2) (t + 2) 0 6 0 none, .mp o.length t, .lst 0 [] true, .lst 0 [] true]) (t := t + 2 + 1) (o := o ++ [some (.map t []), some (.arr (t + 1) 85 [.sl (o.length + 2) (t + 2) 0 6 0 none, .mp o.length t, .lst 0 [] true, .lst 0 [] true]), some (.arr (t + 2) 57 [])]) (by omega) (by simp) rfl
  simp [] at h2
  have h3 := HShift.ownAt (G := G) 1 3 (base := base) (k := o.length + 1) (v := t + 1) (T' := 85) (p := 3) (z := 0) (cs := [.sl (o.length + 2) (t + 2) 0 6 0 none, .mp o.length t, .sl (o.length + 3) (t + 2 + 1) 0 1 0 none, .lst 0 [] true]) (t := t + 2 + 1 + 1) (o := o ++ [some (.map t []), some (.arr (t + 1) 85 [.sl (o.length + 2) (t + 2) 0 6 0 none, .mp o.length t, .sl (o.length + 3) (t + 2 + 1) 0 1 0 none, .lst 0 [] true]), some (.arr (t + 2) 57 []), some (.arr (t + 2 + 1) 3 [])]) (by omega) (by simp) rfl
  simp [] at h3
  exact ⟨_, (h1.trans h2).trans h3, t + 1, t, t + 2, t + 2 + 1, t + 2 + 1 + 1, t + 2 + 1 + 1 + 1, o.length, o.length + 2, o.length + 3, o.length + 4, by omega, rfl, rfl, rfl, rfl, rfl, rfl⟩
end Go.Proofs.YtpdeoalocejodaaGreatDoor
