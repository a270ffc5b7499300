/- Reckoning calls, by name. -/
import Derived.Test.YtfgccihafnjalaaGreatDoorAmD
import Derived.Test.YtfgccihafnjalaaGreatDoorTabB
import Derived.KernelRfl
open Nat renaming reduceEqDiff → rq, reduceAdd → rA, reduceLeDiff → rL, reduceLT → rT, zero_add → zA, le_refl → lR, zero_le → zL, add_zero → aZ
open List renaming length_cons → lC, length_nil → lN, take_succ_cons → tS, length_append → lA, nil_append → nA, cons_append → cA, append_assoc → aA, take_nil → tN, take_zero → tZ, length_map → lM
open Bool renaming not_false → nF, not_true → nT
namespace Go.Proofs.YtfgccihafnjalaaGreatDoor
open Go Go.Am
theorem ya {p q:Prop} (h:q) (e:p=q:=by simp -implicitDefEqProofs (disch:=omega) only [go_sem,↓reduceIte,reduceCtorEq,rA,Nat.reduceEqDiff,rq,rL,Int.reduceLT,zA,aZ,decide_true,nT,nF,lR,zL,beq_self_eq_true,bne_self_eq_false]; rfl):p:=e▸h
theorem yb {p:Prop} (e:p:=by simp -implicitDefEqProofs (disch:=omega) only [go_sem,↓reduceIte,reduceCtorEq,rq,and_true]):p:=e
theorem yc {p q:Prop} (h:q) (e:p=q:=by simp -implicitDefEqProofs (disch:=omega) only [go_sem,↓reduceIte,reduceCtorEq,rA,rq,zA,aZ,Qgs,Qgt,Qgu,Qgv,Qgw,Qgx,Qgy,Qgz,Qi,and_true,lN,nA]; rfl):p:=e▸h
theorem yd {p q:Prop} (h:q) (e:p=q:=by simp -implicitDefEqProofs (disch:=omega) only [go_sem,↓reduceIte,reduceCtorEq,rA,rq,rL,zA,aZ,decide_true,decide_false,zL,ge_iff_le,List.getElem?_cons_zero,QW,Qg5,Qg6,Qg7,Qg8,Qg9,Qha,Qhb,Qhc,Qhd,and_true,h1,h2,lC,lN,nA,true_implies]; rfl):p:=e▸h
theorem ye {p q:Prop} (h:q) (e:p=q:=by simp -implicitDefEqProofs (disch:=omega) only [go_sem,↓reduceIte,reduceCtorEq,rq,and_true,true_and]; rfl):p:=e▸h
theorem yf {p q:Prop} (h:q) (e:p=q:=by simp -implicitDefEqProofs (disch:=omega) only [go_sem,↓reduceIte,reduceCtorEq,rq,zL,true_and]; rfl):p:=e▸h
theorem yg {p q:Prop} (h:q) (e:p=q:=by simp -implicitDefEqProofs (disch:=omega) only [go_sem,↓reduceIte,rq,zA,decide_true,Qd,XA,XI,XJ,XK,XL,XM,XN,XO,and_true,hi]; rfl):p:=e▸h
theorem yh {p q:Prop} (h:q) (e:p=q:=by simp -implicitDefEqProofs (disch:=omega) only [go_sem,↓reduceIte,rL,rT,Nat.reduceSub,decide_true,lR,dH,f46,f47]; rfl):p:=e▸h
theorem yi {p q:Prop} (h:q) (e:p=q:=by simp -implicitDefEqProofs (disch:=omega) only [go_sem,↓reduceIte,reduceCtorEq,rA,rq,rT,zA,aZ,nF,lR,Option.isSome_some,Option.isSome_none,Option.getD_some,Option.getD_none,List.drop_nil,List.drop_succ_cons,List.drop_zero,List.getElem?_cons_succ,List.getElem?_cons_zero,List.set_cons_succ,List.set_cons_zero,Qd,aA,cA,ga,ga0,hfd,hkk,hok,lA,lC,lN,nA,sa,tN,tS,tZ]; rfl):p:=e▸h
theorem yj {p q:Prop} (h:q) (e:p=q:=by simp -implicitDefEqProofs (disch:=omega) only [go_sem,↓reduceIte,rA,rq,rL,zA,lR,f1,f2,f3,f45,f46,f7,wz]; rfl):p:=e▸h
theorem yk {p q:Prop} (h:q) (e:p=q:=by simp -implicitDefEqProofs (disch:=omega) only [go_sem,↓reduceIte,reduceCtorEq,Nat.reduceEqDiff,rq,nT,nF,e2]; rfl):p:=e▸h
theorem yl {p q:Prop} (h:q) (e:p=q:=by simp -implicitDefEqProofs (disch:=omega) only [go_sem,↓reduceIte,reduceCtorEq,rq,decide_true,QaW,QaX,Qf,YG,YH,YI,hk]; rfl):p:=e▸h
theorem ym {p:Prop} (e:p:=by simp -implicitDefEqProofs (disch:=omega) only [go_sem,↓reduceIte,reduceCtorEq,Nat.reduceEqDiff,rq]):p:=e
theorem yn {p q:Prop} (h:q) (e:p=q:=by simp -implicitDefEqProofs (disch:=omega) only [go_sem,↓reduceIte,reduceCtorEq,rq,decide_false,Nat.lt_irrefl,Qf,hi,true_and]; rfl):p:=e▸h
theorem yo {p q:Prop} (h:q) (e:p=q:=by simp -implicitDefEqProofs (disch:=omega) only [go_sem,↓reduceIte,reduceCtorEq,rA,rq,rT,zA,nT,nF,lR,zL,List.drop_nil,List.drop_succ_cons,List.getD_cons_succ,List.getD_cons_zero,Qcq,QdR,Qi1,aA,and_true,cA,lA,lC,lN,nA,tZ]; rfl):p:=e▸h
theorem yp {p q:Prop} (h:q) (e:p=q:=by simp -implicitDefEqProofs (disch:=omega) only [go_sem,↓reduceIte,reduceCtorEq,rq,decide_true,decide_false,Qp1,Qp2,Qp3,Qp4,h32]; rfl):p:=e▸h
theorem yq {p q:Prop} (h:q) (e:p=q:=by simp -implicitDefEqProofs (disch:=omega) only [go_sem,↓reduceIte,reduceCtorEq,rA,rq,zA,lR,List.drop_zero,List.getElem?_cons_succ,List.getElem?_cons_zero,Nat.add_assoc,QvI,QvJ,QvK,QvL,Qy,aA,cA,ga,ga0,lA,lC,lN,nA,tN,tS]; rfl):p:=e▸h
theorem yr {p q : Prop} (h : q) (e : p = q := by simp -implicitDefEqProofs (disch := omega) only [go_sem, ↓reduceIte, reduceCtorEq, rA, rq, rL, zA, aZ, lR, zL, List.getElem?_cons_succ, List.getElem?_cons_zero, QM, Qx5, Qx6, Qx7, Qx8, Qx9, Qya, and_true, cA, h1', h2', lC, lN, nA, true_implies]; rfl) : p := e ▸ h
theorem yt {p q : Prop} (h : q) (e : p = q := by simp -implicitDefEqProofs (disch := omega) only [go_sem, ↓reduceIte, reduceCtorEq, rA, rq, rL, zA, nT, lR, List.getD_cons_succ, List.getD_cons_zero, Qd, Qf, and_true, false_implies, hD, hi, htk, hwl, k3', lC, lN, true_implies]; rfl) : p := e ▸ h
theorem yu {p q:Prop} (h:q) (e:p=q:=by simp -implicitDefEqProofs (disch:=omega) only [go_sem,↓reduceIte,reduceCtorEq,rq,QaS,QaT,QaU,QaV,Qaf,Qag,Qah,Qai,Qdv,Qdw,Qdx,Qdy,Qdz,Qi4,Qi5,Qi6,Qi7,Qi8,Qi9,Qja,Qjb,Qjc,Qjd,proofmarklaw25_RelateFresh]; rfl):p:=e▸h
theorem yv {p:Prop} (e:p:=by simp -implicitDefEqProofs (disch:=omega) only [go_sem,↓reduceIte,reduceCtorEq,rq,zA,and_true,lA,lC,lN]):p:=e
theorem yw {p q:Prop} (h:q) (e:p=q:=by simp -implicitDefEqProofs (disch:=omega) only [go_sem,↓reduceIte,reduceCtorEq,rq,decide_true,Qf,hlt]; rfl):p:=e▸h
theorem yx {p q:Prop} (h:q) (e:p=q:=by simp -implicitDefEqProofs (disch:=omega) only [go_sem,↓reduceIte,reduceCtorEq,rq,decide_true,decide_false,QlT,QlU,QlV,QrM,QrN,hb1]; rfl):p:=e▸h
theorem yy {p q:Prop} (h:q) (e:p=q:=by simp -implicitDefEqProofs (disch:=omega) only [go_sem,↓reduceIte,reduceCtorEq,Nat.reduceEqDiff,rq,decide_false,Nat.lt_irrefl,hi]; rfl):p:=e▸h
theorem yz {p q:Prop} (h:q) (e:p=q:=by simp -implicitDefEqProofs (disch:=omega) only [go_sem,↓reduceIte,reduceCtorEq,rA,rq,rL,zA,decide_true,QlW,QlX,Qo,QrO,QrP,and_true,hg,hi,hwl,true_implies]; rfl):p:=e▸h
theorem yA {p q : Prop} (h : q) (e : p = q := by simp -implicitDefEqProofs (disch := omega) only [go_sem, ↓reduceIte, reduceCtorEq, rA, rq, decide_true, lR, ge_iff_le, Qh9, Qia, Xz, and_true, h1, h2, h3', lN]; rfl) : p := e ▸ h
theorem yB {p q:Prop} (h:q) (e:p=q:=by simp -implicitDefEqProofs (disch:=omega) only [go_sem,↓reduceIte,reduceCtorEq,rA,rq,zA,decide_true,lR,Qd,Qf,and_true,false_implies,hD,hlt,lC,lN]; rfl):p:=e▸h
theorem yC {p q:Prop} (h:q) (e:p=q:=by simp -implicitDefEqProofs (disch:=omega) only [go_sem,↓reduceIte,rA,rq,rL,zA,List.drop_succ_cons,List.drop_zero,Zy,Zz,and_true,cA,lC,lN,nA,tZ]; rfl):p:=e▸h
theorem yD {p q:Prop} (h:q) (e:p=q:=by simp -implicitDefEqProofs (disch:=omega) only [go_sem,↓reduceIte,reduceCtorEq,rq,Qt0,Qt1,QtZ]; rfl):p:=e▸h
theorem yE {p q:Prop} (h:q) (e:p=q:=by simp -implicitDefEqProofs (disch:=omega) only [go_sem,↓reduceIte,reduceCtorEq,rA,rq,rL,zA,aZ,Qb8,QvA,Qvt,Qvu,Qvv,Qvw,Qvx,Qvy,Qvz,inC]; rfl):p:=e▸h
theorem yF {p q:Prop} (h:q) (e:p=q:=by simp -implicitDefEqProofs (disch:=omega) only [go_sem,↓reduceIte,rA,rq,decide_true,nT,nF,Qb0,Qb1,Qb2,Qg0,Qg1,Qg2,Qg3,Qg4,QgZ,hlt]; rfl):p:=e▸h
theorem yG {p q:Prop} (h:q) (e:p=q:=by simp -implicitDefEqProofs (disch:=omega) only [go_sem,↓reduceIte,rA,rq,rL,zA,nF,zL,QlZ]; rfl):p:=e▸h
theorem yH {p q:Prop} (h:q) (e:p=q:=by simp -implicitDefEqProofs (disch:=omega) only [go_sem,↓reduceIte,reduceCtorEq,rq,aZ,QaW,QaX,Qd5,Qib,Qic,Qp9,Qqa,Qqb,YG,YH,YI]; rfl):p:=e▸h
end Go.Proofs.YtfgccihafnjalaaGreatDoor
