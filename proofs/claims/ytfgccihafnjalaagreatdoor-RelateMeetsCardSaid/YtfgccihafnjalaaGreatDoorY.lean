/- Reckoning calls, by name. -/
import Derived.Test.YtfgccihafnjalaaGreatDoorAmD
import Derived.Test.YtfgccihafnjalaaGreatDoorTabB
import Derived.KernelRfl
open Nat renaming reduceEqDiff → rq, reduceAdd → rA, reduceLeDiff → rL, reduceLT → rT, zero_add → zA, le_refl → lR, zero_le → zL, add_zero → aZ
open List renaming length_cons → lC, length_nil → lN, take_succ_cons → tS, length_append → lA, nil_append → nA, cons_append → cA, append_assoc → aA, take_nil → tN, take_zero → tZ, length_map → lM
open Bool renaming not_false → nF, not_true → nT
namespace Go.Proofs.YtfgccihafnjalaaGreatDoor
open Go Go.Am
theorem ya {p q:Prop} (h:q) (e:p=q:=by simp -implicitDefEqProofs (disch:=omega) only [go_sem,↓reduceIte,reduceCtorEq,rA,rq,rL,Int.reduceLT,zA,aZ,decide_true,nT,nF,lR,zL,ge_iff_le,beq_self_eq_true]; rfl):p:=e▸h
theorem yb {p q:Prop} (h:q) (e:p=q:=by simp -implicitDefEqProofs (disch:=omega) only [go_sem,↓reduceIte,reduceCtorEq,rA,rq,rL,zA,aZ,decide_true,decide_false,zL,ge_iff_le,List.getElem?_cons_zero,QW,QfA,QfB,QfC,QfD,QfE,QfF,QfG,QfH,Qfz,and_true,h1,h2,lC,lN,nA,true_implies]; rfl):p:=e▸h
theorem yc {p q:Prop} (h:q) (e:p=q:=by simp -implicitDefEqProofs (disch:=omega) only [go_sem,↓reduceIte,rq,zA,decide_true,Qf,XA,XB,XC,XD,Xp,Xx,Xy,Xz,and_true,hi]; rfl):p:=e▸h
theorem yd {p q:Prop} (h:q) (e:p=q:=by simp -implicitDefEqProofs (disch:=omega) only [go_sem,↓reduceIte,rL,rT,Nat.reduceSub,decide_true,lR,dH,f46,f47]; rfl):p:=e▸h
theorem ye {p q:Prop} (h:q) (e:p=q:=by simp -implicitDefEqProofs (disch:=omega) only [go_sem,↓reduceIte,reduceCtorEq,rA,rq,rT,zA,aZ,nF,lR,Option.isSome_some,Option.isSome_none,Option.getD_some,Option.getD_none,List.drop_nil,List.drop_succ_cons,List.drop_zero,List.getElem?_cons_succ,List.getElem?_cons_zero,List.set_cons_succ,List.set_cons_zero,Qf,aA,cA,ga,ga0,hfd,hkk,hok,lA,lC,lN,nA,sa,tN,tS,tZ]; rfl):p:=e▸h
theorem yf {p q:Prop} (h:q) (e:p=q:=by simp -implicitDefEqProofs (disch:=omega) only [go_sem,↓reduceIte,reduceCtorEq,rq,zL,true_and]; rfl):p:=e▸h
theorem yg {p q:Prop} (h:q) (e:p=q:=by simp -implicitDefEqProofs (disch:=omega) only [go_sem,↓reduceIte,rA,rq,rL,zA,lR,f1,f2,f3,f45,f46,f7,wz]; rfl):p:=e▸h
theorem yh {p q:Prop} (h:q) (e:p=q:=by simp -implicitDefEqProofs (disch:=omega) only [go_sem,↓reduceIte,reduceCtorEq,rA,rq,zA,QcA,QcB,QcC,QcD,QcE,QcF,QcG,QcH,QcI,Qd]; rfl):p:=e▸h
theorem yi {p q:Prop} (h:q) (e:p=q:=by simp -implicitDefEqProofs (disch:=omega) only [go_sem,↓reduceIte,reduceCtorEq,rA,rq,zA,lR,List.drop_zero,List.getElem?_cons_succ,List.getElem?_cons_zero,Nat.add_assoc,Qtl,Qtm,Qtn,Qto,Qv,aA,cA,ga,ga0,lA,lC,lN,nA,tN,tS]; rfl):p:=e▸h
theorem yj {p q:Prop} (h:q) (e:p=q:=by simp -implicitDefEqProofs (disch:=omega) only [go_sem,↓reduceIte,reduceCtorEq,rq,decide_false,Nat.lt_irrefl,hi]; rfl):p:=e▸h
theorem yk {p q:Prop} (h:q) (e:p=q:=by simp -implicitDefEqProofs (disch:=omega) only [go_sem,↓reduceIte,reduceCtorEq,rq,zA,nF,lR,zL,List.getElem?_cons_succ,List.getElem?_cons_zero,List.set_cons_succ,List.set_cons_zero,X9,cA,lC,lN,nA]; rfl):p:=e▸h
theorem yl {p:Prop} (e:p:=by simp -implicitDefEqProofs (disch:=omega) only [go_sem,↓reduceIte,reduceCtorEq,rq]):p:=e
theorem ym {p q:Prop} (h:q) (e:p=q:=by simp -implicitDefEqProofs (disch:=omega) only [go_sem,↓reduceIte,reduceCtorEq,rq,decide_true,decide_false,QjQ,QjR,QjS,Qpl,Qpm,hb1]; rfl):p:=e▸h
theorem yn {p q : Prop} (h : q) (e : p = q := by simp -implicitDefEqProofs (disch := omega) only [go_sem, ↓reduceIte, reduceCtorEq, rA, rq, decide_true, lR, ge_iff_le, QgD, QgE, Xo, and_true, h1, h2, h3', lN]; rfl) : p := e ▸ h
theorem yo {p q:Prop} (h:q) (e:p=q:=by simp -implicitDefEqProofs (disch:=omega) only [go_sem,↓reduceIte,rA,rq,rL,zA,List.drop_succ_cons,List.drop_zero,Za,Zb,and_true,cA,lC,lN,nA,tZ]; rfl):p:=e▸h
theorem yp {p q:Prop} (h:q) (e:p=q:=by simp -implicitDefEqProofs (disch:=omega) only [go_sem,↓reduceIte,reduceCtorEq,rA,rq,rL,zA,aZ,Qbd,Qs0,Qs1,Qs2,Qs3,Qs4,Qs5,Qs6,QsZ,inC]; rfl):p:=e▸h
theorem yq {p q:Prop} (h:q) (e:p=q:=by simp -implicitDefEqProofs (disch:=omega) only [go_sem,↓reduceIte,reduceCtorEq,rq,lR,and_true]; rfl):p:=e▸h
theorem yr {p q:Prop} (h:q) (e:p=q:=by simp -implicitDefEqProofs (disch:=omega) only [go_sem,↓reduceIte,reduceCtorEq,rq,decide_true,Qk,hlt]; rfl):p:=e▸h
theorem yt {p q:Prop} (h:q) (e:p=q:=by simp -implicitDefEqProofs (disch:=omega) only [go_sem,↓reduceIte,rA,rq,rL,zA,nF,zL,QjU]; rfl):p:=e▸h
theorem yu {p q:Prop} (h:q) (e:p=q:=by simp -implicitDefEqProofs (disch:=omega) only [go_sem,↓reduceIte,reduceCtorEq,rq,zA,Q8,Qz0,Qz1,Qz2,QzT,QzU,QzV,QzW,QzX,QzY,QzZ]; rfl):p:=e▸h
theorem yv {p q:Prop} (h:q) (e:p=q:=by simp -implicitDefEqProofs (disch:=omega) only [go_sem,↓reduceIte,reduceCtorEq,rq,nT,e2]; rfl):p:=e▸h
theorem yw {p:Prop} (e:p:=by simp -implicitDefEqProofs (disch:=omega) only [go_sem,↓reduceIte,reduceCtorEq,rq,and_true]):p:=e
theorem yx {p q:Prop} (h:q) (e:p=q:=by simp -implicitDefEqProofs (disch:=omega) only [go_sem,↓reduceIte,reduceCtorEq,rq,Qk]; rfl):p:=e▸h
end Go.Proofs.YtfgccihafnjalaaGreatDoor
