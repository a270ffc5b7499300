/- Ours. -/
import Derived.Test.YtbdhjeojcpgblaaGreatDoorAmD
import Derived.Test.YtbdhjeojcpgblaaGreatDoorTabB
import Derived.KernelRfl
open Nat renaming reduceEqDiff → rq, reduceAdd → rA, reduceLeDiff → rL, reduceLT → rT, zero_add → zA, le_refl → lR, zero_le → zL, add_zero → aZ
open List renaming length_cons → lC, length_nil → lN, take_succ_cons → tSq, length_append → lA, nil_append → nA, cons_append → cA, append_assoc → aA, take_nil → tN, take_zero → tZ, length_map → lM
open Bool renaming not_false → nF, not_true → nT
namespace Go.Proofs.YtbdhjeojcpgblaaGreatDoor
open Go Go.Am
theorem ya {p q:Prop} (h:q) (e:p=q:=by simp -implicitDefEqProofs (disch:=omega) only [go_sem,↓reduceIte,reduceCtorEq,rA,rq,Nat.reduceEqDiff,rL,rT,Int.reduceToNat,Int.reduceLE,Int.reduceLT,Int.reduceEq]; rfl):p:=e▸h
theorem yb {p:Prop} (e:p:=by simp -implicitDefEqProofs (disch:=omega) only [go_sem,↓reduceIte,reduceCtorEq,rA,Nat.reduceEqDiff,rq]):p:=e
theorem yc {p q:Prop} (h:q) (e:p=q:=by simp -implicitDefEqProofs (disch:=omega) only [go_sem,↓reduceIte,reduceCtorEq,rq,and_true,false_implies,hne,not_false_eq_true,true_and,true_implies]; rfl):p:=e▸h
theorem yd {p q:Prop} (h:q) (e:p=q:=by simp -implicitDefEqProofs (disch:=omega) only [go_sem,↓reduceIte,reduceCtorEq,rA,rq,rL,hne]; rfl):p:=e▸h
theorem ye {p q:Prop} (h:q) (e:p=q:=by simp -implicitDefEqProofs (disch:=omega) only [go_sem,↓reduceIte,reduceCtorEq,rA,rq,rL,he]; rfl):p:=e▸h
theorem yf {p q:Prop} (h:q) (e:p=q:=by simp -implicitDefEqProofs (disch:=omega) only [go_sem,↓reduceIte,reduceCtorEq,rA,rq,rL,h0]; rfl):p:=e▸h
theorem yg {p q:Prop} (h:q) (e:p=q:=by simp -implicitDefEqProofs (disch:=omega) only [go_sem,↓reduceIte,reduceCtorEq,rA,rq,rL,lM]; rfl):p:=e▸h
theorem yh {p q:Prop} (h:q) (e:p=q:=by simp -implicitDefEqProofs (disch:=omega) only [go_sem,↓reduceIte,reduceCtorEq,rA,rq,rL,rT,hck,hw]; rfl):p:=e▸h
theorem yi {p q:Prop} (h:q) (e:p=q:=by simp -implicitDefEqProofs (disch:=omega) only [go_sem,↓reduceIte,reduceCtorEq,rq,Nat.lt_irrefl,hi]; rfl):p:=e▸h
theorem yj {p q:Prop} (h:q) (e:p=q:=by simp -implicitDefEqProofs (disch:=omega) only [go_sem,↓reduceIte,reduceCtorEq,rA,rq,rL,h0']; rfl):p:=e▸h
theorem yk {p q:Prop} (h:q) (e:p=q:=by simp -implicitDefEqProofs (disch:=omega) only [go_sem,↓reduceIte,reduceCtorEq,rq,Int.reduceLT,true_and]; rfl):p:=e▸h
theorem yl {p q:Prop} (h:q) (e:p=q:=by simp -implicitDefEqProofs (disch:=omega) only [go_sem,↓reduceIte,reduceCtorEq,rA,rq,rL,rT,and_true,cA,lC,lN,nA,tSq,tZ]; rfl):p:=e▸h
theorem ym {p q:Prop} (h:q) (e:p=q:=by simp -implicitDefEqProofs (disch:=omega) only [go_sem,↓reduceIte,reduceCtorEq,rA,rq,rT,h1]; rfl):p:=e▸h
theorem yn {p q:Prop} (h:q) (e:p=q:=by simp -implicitDefEqProofs (disch:=omega) only [go_sem,↓reduceIte,reduceCtorEq,rA,rq,rL,H.push]; rfl):p:=e▸h
theorem yo {p q:Prop} (h:q) (e:p=q:=by simp -implicitDefEqProofs (disch:=omega) only [go_sem,↓reduceIte,reduceCtorEq,rA,rq,hxy]; rfl):p:=e▸h
theorem yp {p q:Prop} (h:q) (e:p=q:=by simp -implicitDefEqProofs (disch:=omega) only [go_sem,↓reduceIte,reduceCtorEq,rA,rq,hmm]; rfl):p:=e▸h
theorem yq {p q:Prop} (h:q) (e:p=q:=by simp -implicitDefEqProofs (disch:=omega) only [go_sem,↓reduceIte,reduceCtorEq,rA,rq,Int.reduceEq,hbo]; rfl):p:=e▸h
theorem yr {p q:Prop} (h:q) (e:p=q:=by simp -implicitDefEqProofs (disch:=omega) only [go_sem,↓reduceIte,reduceCtorEq,rA,rq,rT,Int.reduceEq,hc1]; rfl):p:=e▸h
theorem yt {p:Prop} (e:p:=by simp -implicitDefEqProofs (disch:=omega) only [go_sem,↓reduceIte,reduceCtorEq,rq,Bool.not_not]):p:=e
theorem yu {p q:Prop} (h:q) (e:p=q:=by simp -implicitDefEqProofs (disch:=omega) only [go_sem,↓reduceIte,reduceCtorEq,rA,rq,rL,h1,h2]; rfl):p:=e▸h
theorem yv {p q:Prop} (h:q) (e:p=q:=by simp -implicitDefEqProofs (disch:=omega) only [go_sem,f4]; rfl):p:=e▸h
theorem yw {p q:Prop} (h:q) (e:p=q:=by simp -implicitDefEqProofs (disch:=omega) only [go_sem,↓reduceIte,reduceCtorEq,rA,rq,Nat.reduceEqDiff,hx]; rfl):p:=e▸h
theorem yx {p q:Prop} (h:q) (e:p=q:=by simp -implicitDefEqProofs (disch:=omega) only [go_sem,↓reduceIte,rq,Nat.reduceSub,f8]; rfl):p:=e▸h
theorem yy {p:Prop} (e:p:=by simp -implicitDefEqProofs (disch:=omega) only [go_sem,↓reduceIte,reduceCtorEq,rq,decide_eq_true_eq]):p:=e
end Go.Proofs.YtbdhjeojcpgblaaGreatDoor
