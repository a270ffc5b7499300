/- Reckoning calls, by name. -/
import Derived.Test.YtfgccihafnjalaaGreatDoorAmD
import Derived.Test.YtfgccihafnjalaaGreatDoorTabB
import Derived.KernelRfl
open Nat renaming reduceEqDiff → rq, reduceAdd → rA, reduceLeDiff → rL, reduceLT → rT, zero_add → zA, le_refl → lR, zero_le → zL, add_zero → aZ
open List renaming length_cons → lC, length_nil → lN, take_succ_cons → tS, length_append → lA, nil_append → nA, cons_append → cA, append_assoc → aA, take_nil → tN, take_zero → tZ, length_map → lM
open Bool renaming not_false → nF, not_true → nT
namespace Go.Proofs.YtfgccihafnjalaaGreatDoor
open Go Go.Am
theorem ya {p q:Prop} (h:q) (e:p=q:=by simp -implicitDefEqProofs (disch:=omega) only [go_sem,↓reduceIte,reduceCtorEq,rA,rq,Nat.reduceEqDiff,rL,rT,Int.reduceToNat,Int.reduceLE,Int.reduceLT,Int.reduceEq]; rfl):p:=e▸h
theorem yb {p:Prop} (e:p:=by simp -implicitDefEqProofs (disch:=omega) only [go_sem,↓reduceIte,reduceCtorEq,rq,Nat.reduceEqDiff]):p:=e
theorem yc {p q:Prop} (h:q) (e:p=q:=by simp -implicitDefEqProofs (disch:=omega) only [go_sem,↓reduceIte,reduceCtorEq,rA,rq,hlt]; rfl):p:=e▸h
theorem yd {p q:Prop} (h:q) (e:p=q:=by simp -implicitDefEqProofs (disch:=omega) only [go_sem,↓reduceIte,reduceCtorEq,rq,Nat.reduceEqDiff,Nat.lt_irrefl,hi]; rfl):p:=e▸h
theorem ye {p q:Prop} (h:q) (e:p=q:=by simp -implicitDefEqProofs (disch:=omega) only [go_sem,↓reduceIte,reduceCtorEq,rq,hi]; rfl):p:=e▸h
theorem yf {p q:Prop} (h:q) (e:p=q:=by simp -implicitDefEqProofs (disch:=omega) only [go_sem,↓reduceIte,reduceCtorEq,rq,Nat.reduceEqDiff,e2]; rfl):p:=e▸h
theorem yg {p:Prop} (e:p:=by simp -implicitDefEqProofs (disch:=omega) only [go_sem,↓reduceIte,reduceCtorEq,rq,and_true]):p:=e
theorem yh {p q:Prop} (h:q) (e:p=q:=by simp -implicitDefEqProofs (disch:=omega) only [go_sem,↓reduceIte,rA,rq,rL,f1,f2,f3,f45,f46,f7,wz]; rfl):p:=e▸h
theorem yi {p q:Prop} (h:q) (e:p=q:=by simp -implicitDefEqProofs (disch:=omega) only [go_sem,↓reduceIte,reduceCtorEq,rq,true_and]; rfl):p:=e▸h
theorem yj {p q:Prop} (h:q) (e:p=q:=by simp -implicitDefEqProofs (disch:=omega) only [go_sem,↓reduceIte,reduceCtorEq,rA,rq,rL,List.getElem?_cons_zero,h1,h2]; rfl):p:=e▸h
theorem yk {p q:Prop} (h:q) (e:p=q:=by simp -implicitDefEqProofs (disch:=omega) only [go_sem,↓reduceIte,reduceCtorEq,rq,hk]; rfl):p:=e▸h
theorem yl {p q:Prop} (h:q) (e:p=q:=by simp -implicitDefEqProofs (disch:=omega) only [go_sem,↓reduceIte,reduceCtorEq,rq,hb1]; rfl):p:=e▸h
theorem ym {p q:Prop} (h:q) (e:p=q:=by simp -implicitDefEqProofs (disch:=omega) only [go_sem,↓reduceIte,reduceCtorEq,rq,h32]; rfl):p:=e▸h
theorem yn {p q:Prop} (h:q) (e:p=q:=by simp -implicitDefEqProofs (disch:=omega) only [go_sem,↓reduceIte,reduceCtorEq,rA,rq,Int.reduceEq,hmod]; rfl):p:=e▸h
theorem yo {p q:Prop} (h:q) (e:p=q:=by simp -implicitDefEqProofs (disch:=omega) only [go_sem,↓reduceIte,reduceCtorEq,rq,and_true,true_and]; rfl):p:=e▸h
theorem yp {p q:Prop} (h:q) (e:p=q:=by simp -implicitDefEqProofs (disch:=omega) only [go_sem,↓reduceIte,reduceCtorEq,rq,Nat.lt_irrefl,hk]; rfl):p:=e▸h
theorem yq {p q:Prop} (h:q) (e:p=q:=by simp -implicitDefEqProofs (disch:=omega) only [go_sem,↓reduceIte,reduceCtorEq,rA,rq,htk,hwl]; rfl):p:=e▸h
theorem yr {p q:Prop} (h:q) (e:p=q:=by simp -implicitDefEqProofs (disch:=omega) only [go_sem,↓reduceIte,reduceCtorEq,rq,hkl]; rfl):p:=e▸h
theorem yt {p q:Prop} (h:q) (e:p=q:=by simp -implicitDefEqProofs (disch:=omega) only [go_sem,↓reduceIte,reduceCtorEq,rA,rq,rL,List.getElem?_cons_succ,List.getElem?_cons_zero,h1',h2']; rfl):p:=e▸h
theorem yu {p q:Prop} (h:q) (e:p=q:=by simp -implicitDefEqProofs (disch:=omega) only [go_sem,↓reduceIte,reduceCtorEq,rq,lN,true_and]; rfl):p:=e▸h
theorem yv {p q:Prop} (h:q) (e:p=q:=by simp -implicitDefEqProofs (disch:=omega) only [go_sem,↓reduceIte,rA,rq,rL,List.drop_succ_cons,List.drop_zero,and_true,cA,lC,lN,nA,tZ]; rfl):p:=e▸h
theorem yw {p q:Prop} (h:q) (e:p=q:=by simp -implicitDefEqProofs (disch:=omega) only [go_sem,↓reduceIte,reduceCtorEq,rq,hlf,htf]; rfl):p:=e▸h
theorem yx {p q:Prop} (h:q) (e:p=q:=by simp -implicitDefEqProofs (disch:=omega) only [go_sem,↓reduceIte,reduceCtorEq,rA,rq,rL,lM]; rfl):p:=e▸h
theorem yy {p q:Prop} (h:q) (e:p=q:=by simp -implicitDefEqProofs (disch:=omega) only [go_sem,f4]; rfl):p:=e▸h
end Go.Proofs.YtfgccihafnjalaaGreatDoor
