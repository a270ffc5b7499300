/- Contracts of the document: Sorted, Meet; the law's plain, same. -/
import Derived.Test.YtfgccihafnjalaaGreatDoorJ11
import Derived.Test.YtfgccihafnjalaaGreatDoorJ4
import Derived.Test.YtfgccihafnjalaaGreatDoorY
open Nat renaming reduceEqDiff → rq, reduceAdd → rA, reduceLeDiff → rL, reduceLT → rT, zero_add → zA, le_refl → lR, zero_le → zL, add_zero → aZ
open List renaming length_cons → lC, length_nil → lN, take_succ_cons → tS, length_append → lA, nil_append → nA, cons_append → cA, append_assoc → aA, take_nil → tN, take_zero → tZ, length_map → lM
open Bool renaming not_false → nF, not_true → nT
namespace Go.Proofs.YtfgccihafnjalaaGreatDoor
open Go Go.Am Go.Re
set_option maxRecDepth 100000
variable {P:Program} {G:Nat→Option V}
set_option maxHeartbeats 2000000
theorem fl_one (s:List Pr) (x:Pr):fl prC s++[V.int .i64 x.v,V.int .u8 x.k,V.int .i64 x.n]=fl prC (s++[x]):=by simp [fl,prC]
def mv (s:List Pr) (x:Pr) (k:Nat):List Pr:=s.take k++x::s.drop k
theorem Qq8 {k w:Nat} (l:List Pr):Qan k w (fl prC l) (.sl k w 0 3 l.length none)=.lst 3 (prs l) false:=by
 have:=QkF (k:=k) (w:=w) l []
 rwa [List.append_nil] at this
theorem Qk9 (hT:Qw P tab) (l:List Pr) (tg:Bool) (hl:l.length≤1000000):Am.Pure P G ZK [.lst 3 (prs l) tg] fun u=>u=.lst 3 (prs l) false:=by
 refine QnB (fun t=>?_) (by simp [Qe])
 refine Xk hT QD (by simp [Xh]) (Qu 8 ?_)
 simp -implicitDefEqProofs (disch:=omega) only [go_sem,↓reduceIte,reduceCtorEq,rq,Xh,zq6_0,zq6_1,zq6_2,zq6_3,zq6_4,zq6_5,zq6_6]
 refine QgQ (n:=33) (Shift.own (s:=3) (z:=0) (sz:=3) (T:=28) (yl) (by decide)) ?_
 simp -implicitDefEqProofs (disch:=omega) only [go_sem,↓reduceIte,reduceCtorEq,rq,H.push]
 refine Qb 12 ?_
 refine ya ?_
 refine Qcd l (fun i fr σ=>∃ t w q,q=l.take i∧Qx fr 0=.lst 3 (prs l) tg∧Qx fr 4=.int .i64 ((i:Nat):Int)∧Qx fr 3=.sl 0 w 0 3 q.length none∧σ=⟨t,[some (.arr w 28 (fl prC q))]⟩)
  (fun e fr σ=>∃ t w q,e=.ex 0∧q=l∧Qx fr 3=.sl 0 w 0 3 q.length none∧σ=⟨t,[some (.arr w 28 (fl prC q))]⟩) ⟨t+1,t,[],by simp,?_⟩ (fun i x hx fr σ hJ=>?_) (fun i hi fr σ hJ=>?_) (fun e fr σ hE=>?_)
 ·simp -implicitDefEqProofs (disch:=omega) only [go_sem,↓reduceIte,reduceCtorEq,rq,true_and,lN]
  simp [fl]
 ·obtain ⟨t,w,q,hq,f0,f4,f3,rfl⟩:=hJ
  have hlt:=(List.getElem?_eq_some_iff.1 hx).1
  have hD:=Qkh hx
  have e2:=QcJ hlt (by omega)
  have hst:=QJ hx
  rw [← hq] at hst
  have hql:q.length≤1000000:=by rw [hq,List.length_take]; omega
  simp only [prV,prC] at hD
  refine QU [(0,.lst 3 (prs l) tg),(4,.int .i64 ((i:Nat):Int)),(3,.sl 0 w 0 3 q.length none)] ⟨f0,f4,f3,trivial⟩  12 ?_
  refine yr ?_
  iterate 12 (try (refine Qb 4 ?_; simp -implicitDefEqProofs (disch:=omega) only [go_sem,Qf,↓reduceIte,reduceCtorEq,rA,rq,rL,zA,aZ,nT,lR,Qk,QN,true_implies,true_and,and_true,cA,nA,lC,lN,List.getElem?_cons_zero,List.set_cons_zero,fl_one,hlt,hD,e2]))
  refine ⟨_,_,Shift.refl _ _ _ _,t+1,t,q++[x],hst.symm,?_⟩
  simp -implicitDefEqProofs (disch:=omega) only [go_sem,↓reduceIte,reduceCtorEq,rq,zA,and_true,lA,lC,lN]
 ·obtain ⟨t,w,q,hq,f0,f4,f3,rfl⟩:=hJ
  refine QU [(0,.lst 3 (prs l) tg),(4,.int .i64 ((i:Nat):Int)),(3,.sl 0 w 0 3 q.length none)] ⟨f0,f4,f3,trivial⟩  12 ?_
  simp -implicitDefEqProofs (disch:=omega) only [go_sem,↓reduceIte,reduceCtorEq,rq,decide_false,Qk,true_and,hi,Nat.lt_irrefl]
  rw [hi,List.take_length] at hq
  refine ⟨t,w,q,hq,?_⟩
  repeat' (first | exact rfl | refine ⟨rfl,?_⟩)
 ·obtain ⟨t2,w,q,rfl,hq,f3,rfl⟩:=hE
  refine QbX [(3,.sl 0 w 0 3 q.length none)] ⟨f3,trivial⟩ 12 ?_
  refine ya ?_
  rw [← hq]
  refine ⟨0,w,28,_,rfl,Z4 prC Qn1 _,?_,?_⟩
  ·rw [Qq8]; simp [Qe]
  ·rw [Qq8]; exact .refl _
theorem Qrj (hT:Qw P tab) (a b:List Pr) (ta tb:Bool) (ha:a.length≤1000000):Am.Pure P G Qak [.lst 3 (prs a) ta,.lst 3 (prs b) tb] fun u=>u=.bool (decide (a=b)):=by
 refine fun t=>Ym 0 (zL _) (Xk hT Xd (by simp [Q8]) ?_)
 have hpl:=Qk9 (P:=P) (G:=G) hT a ta ha
 have hn:Qc [.lst 3 (prs a) ta]=true:=by simp [Qc,Qe]
 by_cases hlen:a.length=b.length
 ·have h1:(((a.length:Nat):Int) != ((b.length:Nat):Int))=false:=by simp [hlen]
  refine Qu 1000 ?_
  refine yu ?_
  refine Q3 hT QD hpl hn 1000 ?_
  simp -implicitDefEqProofs (disch:=omega) only [go_sem,↓reduceIte,reduceCtorEq,rq,Qk,h1]
  refine Qcd a (fun i fr σ=>a.take i=b.take i∧Qx fr 1=.lst 3 (prs b) tb∧Qx fr 5=.lst 3 (prs a) false∧Qx fr 6=.int .i64 ((i:Nat):Int)∧σ=⟨t,[]⟩) (fun e fr σ=>(e=.ret∧a≠b∧Qx fr 4=.bool false)∨(e=.ex 0∧a=b)) ⟨by simp,?_⟩ (fun i x hx fr σ hJ=>?_) (fun i hi fr σ hJ=>?_) (fun e fr σ hE=>?_)
  ·simp -implicitDefEqProofs (disch:=omega) only [go_sem,↓reduceIte,reduceCtorEq,rq,true_and,and_true]
   try simp
  ·obtain ⟨hok,f1,f5,f6,rfl⟩:=hJ
   have hlt:=(List.getElem?_eq_some_iff.1 hx).1
   obtain ⟨y,hy⟩:∃ y,b[i]?=some y:=⟨_,List.getElem?_eq_getElem (by omega)⟩
   have hltb:=(List.getElem?_eq_some_iff.1 hy).1
   have hD:=Qkh hx
   have hDy:=Qkh hy
   have e2:=QcJ hlt (by omega)
   simp only [prV,prC] at hD hDy
   by_cases he:x=y
   ·have hE:(x.v==y.v&&(x.k==y.k&&x.n==y.n))=true:=by rw [Qnh]; exact decide_eq_true he
    refine QU [(1,.lst 3 (prs b) tb),(5,.lst 3 (prs a) false),(6,.int .i64 ((i:Nat):Int))] ⟨f1,f5,f6,trivial⟩  12 ?_
    refine yr ?_
    iterate 12 (try (refine Qb 4 ?_; simp -implicitDefEqProofs (disch:=omega) only [go_sem,Qf,↓reduceIte,reduceCtorEq,rA,rq,zA,nT,lR,Qk,false_implies,and_true,lC,lN,hlt,hD,hDy,hltb,hE,e2]))
    refine ⟨_,_,Shift.refl _ _ _ _,?_,?_⟩
    ·rw [QJ hx,QJ hy,hok,he]
    ·exact yw
   ·have hE:(x.v==y.v&&(x.k==y.k&&x.n==y.n))=false:=by rw [Qnh]; exact decide_eq_false he
    have hne:a≠b:=fun h=>he (by rw [h,hy] at hx; injection hx with hx; exact hx.symm)
    refine QU [(1,.lst 3 (prs b) tb),(5,.lst 3 (prs a) false),(6,.int .i64 ((i:Nat):Int))] ⟨f1,f5,f6,trivial⟩  12 ?_
    refine yr ?_
    iterate 12 (try (refine Qb 4 ?_; simp -implicitDefEqProofs (disch:=omega) only [go_sem,Qf,↓reduceIte,reduceCtorEq,rA,rq,zA,nF,lR,Qk,false_implies,true_and,and_true,lC,lN,hlt,hD,hDy,hltb,hE]))
    try exact hne
  ·obtain ⟨hok,f1,f5,f6,rfl⟩:=hJ
   refine QU [(1,.lst 3 (prs b) tb),(5,.lst 3 (prs a) false),(6,.int .i64 ((i:Nat):Int))] ⟨f1,f5,f6,trivial⟩  12 ?_
   simp -implicitDefEqProofs (disch:=omega) only [go_sem,↓reduceIte,reduceCtorEq,rq,decide_false,Qk,true_and,hi,Nat.lt_irrefl]
   rw [hi,List.take_length,hlen,List.take_length] at hok
   try exact hok
  ·rcases hE with ⟨rfl,hne,f4⟩ | ⟨rfl,he⟩
   ·refine Qb 12 ?_
    simp -implicitDefEqProofs (disch:=omega) only [go_sem,zL,true_and,f4]
    try simp [hne]
   ·refine Qb 12 ?_
    refine yf ?_
    try simp [he]
 ·have h1:(((a.length:Nat):Int) != ((b.length:Nat):Int))=true:=by simp; omega
  have hne:a≠b:=fun h=>hlen (by rw [h])
  refine Qu 1000 ?_
  refine yu ?_
  refine Q3 hT QD hpl hn 1000 ?_
  simp -implicitDefEqProofs (disch:=omega) only [go_sem,↓reduceIte,reduceCtorEq,rq,lR,Qk,true_and,lN,h1]
  try simp [hne]
def Works (P:Program) (G:Nat→Option V):Prop:=Am.Pure P G X7 [] fun u=>u=.bool true
def wl:List Pr:=[⟨0,1,5⟩,⟨1,1,5⟩,⟨1,2,0⟩,⟨2,3,3⟩]
theorem QvH:QdG wl 3 2=wl:=by decide +kernel
theorem QBM (L:List Nd):Yy L (Qr (ties wl)) (frS wl 32 3).1 3 3=[.int .i64 (Z3 L (sy 33)),.int .i64 (Z3 L (sy 33)),.int .i64 (Z3 L (co 3))]:=by rfl
theorem QvI (L L0:List Nd):QH L (Qr (ties wl)) (frS wl 32 3).1 wl 2 (fun i=>Z3 L0 (sy (0+30+((i:Nat):Int)))) 2=[.int .i64 (Z3 L (sy 33)),.int .i64 (Z3 L0 (sy 31))]:=by rfl
theorem wl_reg (L L0:List Nd) (f:Nat→Int):(QH L (Qr (ties wl)) (frS wl 32 3).1 wl 1 f 32)[5]?=some (.int .i64 (Z3 L (sy 33))):=by rfl
theorem QBN (L:List Nd) (h:AllH L (frS wl 32 3).1):Hs L (sy 33)∧Hs L (co 3):=⟨h (⟨0,2,0⟩,.s 33) (by decide +kernel),h (⟨0,3,3⟩,.c 3) (by decide +kernel)⟩
theorem Qza {rg:List V} {a:V} (h:rg[5]?=some a) (tl:List V):(rg++tl)[5]?=some a:=by rw [List.getElem?_append_left (List.getElem?_eq_some_iff.1 h).1,h]
theorem QB2 {rg:List V} {a:V} (h:rg[5]?=some a) (tl:List V):(rg++tl).getD 5 V.any=a:=by rw [List.getD_eq_getElem?_getD,Qza h]; rfl
theorem QqO {rg:List V} {a:V} (h:rg.length=32) (tl:List V):(rg++a::tl)[32]?=some a:=by rw [List.getElem?_append_right (by omega),h]; rfl
theorem QtX {rg:List V} {a:V} (h:rg.length=32) (tl:List V):(rg++a::tl).getD 32 V.any=a:=by rw [List.getD_eq_getElem?_getD,QqO h]; rfl
theorem wk_r5 (hT:Qw P tab) (F:Fmt P G) {v0 v1 v2 v3 v4 t:Nat} {L:List Nd} {rg:List V} {a0 a31 lk:Int} {sure:Bool} {Q:V→Am.H→Prop} (hQ:∀ σ,Q (.bool true) σ) (hL:L.length≤100000) (hr:rg.length=32) (h5:rg[5]?=some (.int .i64 a0)) (hA2:Hs L (co 3)) (hne:a31≠a0) :
 W P G 117 0 (.seq (.reg QnK [38,39,40,41,42,43,44,45,46,47,48,49,50,51,52,53,54,55,56,57,58,59,60,61,62,63,64,65,66,67,68,69,70,71,72,73,74,75,76,77,78,79,80,81,82,83,84,85,86,87,88,89,90,91,92,93,94,95,96,97,98,99,100,101,102,103,104,105,106,107,108,109,110,111,112,113,114,115,116]) .ret) [(2,.ref (.agg [.int .u8 2,.int .i64 0]) 0),(4,.lst 3 (prs [⟨1,2,0⟩]) false),(5,.ptr 1 v0 0),(6,.ref (.agg (woF [.int .i64 a0,.int .i64 a0,.int .i64 (Z3 L (co 3))] lk rg [.int .i64 a0,.int .i64 a31] sure)) 0)] ⟨t,kG F.fmt v0 v1 v2 v3 v4 L⟩ (QCF G proofmarklaw25_works.res Q):=by
 have g1:=Qza h5
 have g2:=QB2 h5
 have g3:=fun a tl=>QqO (a:=a) hr tl
 have g4:=fun a tl=>QtX (a:=a) hr tl
 have hne':(a31 != a0)=true:=by simpa using hne
 have c1:((1:Nat):Int)=1:=rfl
 have c2:((2:Nat):Int)=2:=rfl
 have c3:((3:Nat):Int)=3:=rfl
 have eq0:(a0==a0)=true:=by simp
 have hcv:=fun t=>QpU (P:=P) (G:=G) hT F (v0:=v0) (v1:=v1) (v2:=v2) (v3:=v3) (v4:=v4) (t:=t) (L:=L) (ex:=[]) (n:=3) (by unfold i64; omega) (by omega)
 simp only [prs,prV,prC,woF,List.map_cons,List.map_nil,List.append_nil] at hcv ⊢
 refine Qu 12 ?_
 simp -implicitDefEqProofs (disch:=omega) only [go_sem,↓reduceIte,reduceCtorEq,rA,rq,rL,rT,Int.reduceToNat,Int.reduceLE,zA,lR,beq_self_eq_true,proofmarklaw25_works,QvB,QvA,Qvz,Qrw,Qrv,QnK,false_implies,and_true,lC,lN,cA,nA,tS,tZ,tN,List.drop_succ_cons,List.drop_zero,List.drop_nil,c1]
 iterate 6 (try (refine Qb 14 ?_; simp -implicitDefEqProofs (disch:=omega) only [go_sem,↓reduceIte,rA,rq,rL,rT,Int.reduceToNat,Int.reduceLE,zA,aZ,Nat.mul_one,lR,beq_self_eq_true,true_implies,and_true,lC,lN,lA,hr,g2,g4,c2,c3]))
 repeat' (first | with_reducible refine And.intro ?_ ?_ | (refine Qb 10 ?_; simp -implicitDefEqProofs (disch:=omega) only [go_sem,↓reduceIte,rA,rq]))
 all_goals
  refine CV.use 10 (CV.of hT QbV (hcv _)) fun v σ hv=>?_
  obtain ⟨L2,t2,w2,w3,w4,x1,x2,x3,x4,rfl,rfl⟩:=hv
  rw [Qdr hA2 x1]
  have eq2:(Z3 L (co 3)==Z3 L (co 3))=true:=by simp
  simp -implicitDefEqProofs (disch:=omega) only [go_sem,↓reduceIte,rA,rq,rL,rT,Int.reduceToNat,Int.reduceLE,zA,aZ,lR,beq_self_eq_true,true_implies,and_true,lC,lN,lA,hr,g4]
  iterate 8 (try (refine Qb 10 ?_; simp -implicitDefEqProofs (disch:=omega) only [go_sem,↓reduceIte,reduceCtorEq,rA,rq,rL,Int.reduceToNat,Int.reduceLE,Nat.succ_ne_zero,zA,aZ,lR,true_implies,and_true,lC,lN,lA,hr,hne']))
  exact hQ _
theorem wk_box {t:Nat} {X:V} (hX:X.cells=[X]∨True) (hn:Qe X=true) (hf:∀ k w cs,Qan k w cs X=X):Shift G 117 0 [(1,.ptr 0 t 0),(2,.ptr 1 (t+1) 0),(3,.ptr 2 (t+1+1) 0),(4,X)] ⟨t+1+1+1,[some (.arr t 62 [.int .u8 1,.int .i64 5]),some (.arr (t+1) 62 [.int .u8 2,.int .i64 0]),some (.arr (t+1+1) 62 [.int .u8 3,.int .i64 3])]⟩
 [(1,.ref (.agg [.int .u8 1,.int .i64 5]) 0),(2,.ref (.agg [.int .u8 2,.int .i64 0]) 0),(3,.ref (.agg [.int .u8 3,.int .i64 3]) 0),(4,X)] ⟨t+1+1+1,[]⟩:=by
 refine (Shift.freeze (k:=0) (zL _) rfl rfl).trans ?_
 simp only [Qfl,Qhc,hf,Qan,Q5,Ob.mapV,List.set_cons_zero,Option.map_none,Option.map_some,List.map_cons,List.map_nil,Nat.succ_ne_zero,false_and,true_and,if_true,if_false,reduceCtorEq]
 refine (Shift.freeze (k:=1) (zL _) rfl rfl).trans ?_
 simp only [Qfl,Qhc,hf,Qan,Q5,Ob.mapV,List.set_cons_zero,List.set_cons_succ,Option.map_none,Option.map_some,List.map_cons,List.map_nil,rq,false_and,true_and,if_true,if_false,reduceCtorEq]
 refine (Shift.freeze (k:=2) (zL _) rfl rfl).trans ?_
 simp only [Qfl,Qhc,hf,Qan,Q5,List.set_cons_zero,List.set_cons_succ,Option.map_none,true_and,if_true,if_false,reduceCtorEq]
 exact Shift.drop (o':=[]) trivial (lR _) (zL _)
theorem Qwn (l:List Pr) (tg:Bool) (k w:Nat) (cs:List V):Qan k w cs (.lst 3 (prs l) tg)=.lst 3 (prs l) tg:=by simp [Qan]
theorem wk_end (hT:Qw P tab) (F:Fmt P G) {v0 v1 v2 v3 v4 t w:Nat} {L L0:List Nd} {Q:V→Am.H→Prop} (hQ:∀ σ,Q (.bool true) σ) (hL:L.length≤100000) (hS:AllS L0 0 2) (hE:Ext L0 L) (hA:AllH L (frS wl 32 3).1) :
 W P G 117 0 (.seq (.reg QnK [38,39,40,41,42,43,44,45,46,47,48,49,50,51,52,53,54,55,56,57,58,59,60,61,62,63,64,65,66,67,68,69,70,71,72,73,74,75,76,77,78,79,80,81,82,83,84,85,86,87,88,89,90,91,92,93,94,95,96,97,98,99,100,101,102,103,104,105,106,107,108,109,110,111,112,113,114,115,116]) .ret) [(2,.ref (.agg [.int .u8 2,.int .i64 0]) 0),(4,.lst 3 (prs [⟨1,2,0⟩]) false),(5,.ptr 1 v0 0),(6,.ptr 5 w 0)] ⟨t,kG F.fmt v0 v1 v2 v3 v4 L++[some (.arr w 49 (frV L0 L 0 wl 32 3 2 2))]⟩ (QCF G proofmarklaw25_works.res Q):=by
 have hnl:=Qzm L0 L 0 wl 32 3 2 2
 have hsh:Shift G 117 0 [(2,.ref (.agg [.int .u8 2,.int .i64 0]) 0),(4,.lst 3 (prs [⟨1,2,0⟩]) false),(5,.ptr 1 v0 0),(6,.ptr 5 w 0)] ⟨t,kG F.fmt v0 v1 v2 v3 v4 L++[some (.arr w 49 (frV L0 L 0 wl 32 3 2 2))]⟩ [(2,.ref (.agg [.int .u8 2,.int .i64 0]) 0),(4,.lst 3 (prs [⟨1,2,0⟩]) false),(5,.ptr 1 v0 0),(6,.ref (.agg (frV L0 L 0 wl 32 3 2 2)) 0)] ⟨t,kG F.fmt v0 v1 v2 v3 v4 L⟩:=by
  refine (Shift.freeze (k:=5) (zL _) rfl hnl).trans ?_
  have hne:¬ frV L0 L 0 wl 32 3 2 2=[]:=by simp [frV,woF]
  have e:(kG F.fmt v0 v1 v2 v3 v4 L++[some (Ob.arr w 49 (frV L0 L 0 wl 32 3 2 2))]).set 5 none=kG F.fmt v0 v1 v2 v3 v4 L++[none]:=rfl
  rw [e,Qq1 (by decide)]
  simp only [Qfl,Qhc,Qan,hne,Q5,rq,false_and,and_self,if_true,if_false]
  exact Shift.drop (ZP _ _) (lR _) (zL _)
 refine QnA hsh ?_
 unfold frV
 rw [QBM,QvI]
 obtain ⟨h33,h3⟩:=QBN L hA
 refine wk_r5 hT F hQ hL (Xa _ _ _ _ _ _ _) (wl_reg L L0 _) h3 ?_
 have h31:Hs L0 (sy 31):=hS 1 (by decide)
 rw [← Qdr h31 hE]
 intro he
 have:=(Qwk (h31.ext hE) h33).1 he
 exact absurd this (by decide)
theorem QwB (hT:Qw P tab) (F:Fmt P G) (hS:Qhr P G) (hfn:Am.Pure P G QT [.int .u8 2] fun v=>v=.agg (fnC 2)):Works P G:=by
 refine fun t=>Ym 0 (zL _) (Xk hT QC (by simp [proofmarklaw25_works]) ?_)
 show W P G 117 0 (.seq (.reg QvB []) (.seq (.reg QvA [8,9,10]) (.seq (.reg Qvz [11,12,13,14,15,16,17,18,19,20,21]) (.seq (.reg Qrw [22]) (.seq (.reg Qrv [24,25,26,27,28,29,30,31,32,33,34,35,23,36,37,7]) (.seq (.reg QnK [38,39,40,41,42,43,44,45,46,47,48,49,50,51,52,53,54,55,56,57,58,59,60,61,62,63,64,65,66,67,68,69,70,71,72,73,74,75,76,77,78,79,80,81,82,83,84,85,86,87,88,89,90,91,92,93,94,95,96,97,98,99,100,101,102,103,104,105,106,107,108,109,110,111,112,113,114,115,116]) .ret)))))) _ _ (QCF G proofmarklaw25_works.res _)
 obtain ⟨T3,hT3⟩:∃ c:AC,c=.seq (.reg Qrw [22]) (.seq (.reg Qrv [24,25,26,27,28,29,30,31,32,33,34,35,23,36,37,7]) (.seq (.reg QnK [38,39,40,41,42,43,44,45,46,47,48,49,50,51,52,53,54,55,56,57,58,59,60,61,62,63,64,65,66,67,68,69,70,71,72,73,74,75,76,77,78,79,80,81,82,83,84,85,86,87,88,89,90,91,92,93,94,95,96,97,98,99,100,101,102,103,104,105,106,107,108,109,110,111,112,113,114,115,116]) .ret)):=⟨_,rfl⟩
 rw [← hT3]
 refine Qu 14 ?_
 simp -implicitDefEqProofs (disch:=omega) only [go_sem,↓reduceIte,reduceCtorEq,rA,rq,rL,zA,nF,lR,zL,proofmarklaw25_works,QvB,QvA,Qvz,Qrw,Qrv,QnK,and_true,nF,lC,lN,cA,nA,List.getElem?_cons_zero,List.getElem?_cons_succ,List.set_cons_zero,List.set_cons_succ,tS,tZ,List.drop_succ_cons,List.drop_zero,List.drop_nil]
 iterate 5 (try (refine Qb 10 ?_; simp -implicitDefEqProofs (disch:=omega) only [go_sem,↓reduceIte,reduceCtorEq,rA,rq,rL,zA,nF,lR,zL,false_implies,and_true,nF,lC,lN,cA,nA,List.getElem?_cons_zero,List.getElem?_cons_succ,List.set_cons_zero,List.set_cons_succ,tS,tZ,tN,List.drop_succ_cons,List.drop_zero,List.drop_nil]))
 refine Q3 hT Xq (Qlb hT hS [⟨0,1,5⟩,⟨1,2,0⟩] [⟨1,2,0⟩,⟨2,3,3⟩] true true (by simp) (by simp)) rfl 2 ?_
 have hm:meet [⟨0,1,5⟩,⟨1,2,0⟩] [⟨1,2,0⟩,⟨2,3,3⟩]=[⟨1,2,0⟩]:=by decide +kernel
 rw [hm]
 refine ya ?_
 refine QtW ?_
 refine Y9 [(1,.ptr 0 t 0),(2,.ptr 1 (t+1) 0),(3,.ptr 2 (t+1+1) 0),(4,.lst 3 (prs [⟨1,2,0⟩]) false)] (by simp only [QF]; simp -implicitDefEqProofs (disch:=omega) only [go_sem,↓reduceIte,reduceCtorEq,rq]; done) ?_
 refine QnA (wk_box (.inr trivial) (by rfl) (Qwn _ _)) ?_
 rw [hT3]
 obtain ⟨T5,hT5⟩:∃ c:AC,c=.seq (.reg QnK [38,39,40,41,42,43,44,45,46,47,48,49,50,51,52,53,54,55,56,57,58,59,60,61,62,63,64,65,66,67,68,69,70,71,72,73,74,75,76,77,78,79,80,81,82,83,84,85,86,87,88,89,90,91,92,93,94,95,96,97,98,99,100,101,102,103,104,105,106,107,108,109,110,111,112,113,114,115,116]) .ret:=⟨_,rfl⟩
 rw [← hT5]
 refine Qu 14 ?_
 simp -implicitDefEqProofs (disch:=omega) only [go_sem,↓reduceIte,Qrw,Qrv]
 refine call hT Qmg (c_New hT (o:=[]) (zL _)) 14 fun v σ hv=>?_
 obtain ⟨v0, v1, v2, v3, v4, t', i1, i2, i3, i4, ht', rfl, rfl, rfl, rfl, rfl, rfl⟩ := hv
 have hk0:([]:List (Option Ob))++[some (.map v1 []),some (.arr v0 93 [.sl (([]:List (Option Ob)).length+2) v2 0 6 0 none,.mp ([]:List (Option Ob)).length v1,.sl (([]:List (Option Ob)).length+3) v3 0 1 0 none,.sl (([]:List (Option Ob)).length+4) v4 0 1 0 none]),some (.arr v2 108 []),some (.arr v3 3 []),some (.arr v4 3 [])]=kG F.fmt v0 v1 v2 v3 v4 []++[]:=by
  simp [kG,QfU,ndC,Qh3,QhO]
 rw [hk0]
 simp -implicitDefEqProofs (disch:=omega) only [go_sem,↓reduceIte,reduceCtorEq,rA,rq,rL,zA,lR,false_implies,and_true,lC,lN,cA,nA,tS,tZ,tN,List.drop_succ_cons,List.drop_zero,List.drop_nil]
 have hFr:=fun (ex:List (Option Ob)) (t:Nat)=>QwG (P:=P) (G:=G) hT F hS (v0:=v0) (v1:=v1) (v2:=v2) (v3:=v3) (v4:=v4) (t:=t) (L:=[]) wl true (by decide) (by intro x hx; simp only [wl,List.mem_cons,List.not_mem_nil,or_false] at hx; rcases hx with rfl | rfl | rfl | rfl <;> (unfold i64; simp)) 3 2 (by decide) (by decide) 0 0 (by decide) (by simp) ex
 repeat' (first | with_reducible refine And.intro ?_ ?_ | (refine Q3 hT Qcb hfn rfl 14 ?_; simp -implicitDefEqProofs (disch:=omega) only [go_sem,↓reduceIte,rA,rq,rL,zA,lR,and_true,lC,lN,cA,nA,tS,tZ,tN,List.drop_succ_cons,List.drop_zero,List.drop_nil,Qel]) | (refine Qb 6 ?_; simp -implicitDefEqProofs (disch:=omega) only [go_sem,↓reduceIte,rA,rq,rL,zA,lR,and_true,lC,lN,cA,nA,lA,tS,tZ,tN,List.drop_succ_cons,List.drop_zero,List.drop_nil,Qel]))
 all_goals
  first
   | refine call hT Qca (hFr [] _) 7 fun v σ hv=>?_
   | refine call hT Qca (hFr [_] _) 6 fun v σ hv=>?_
  obtain ⟨L0, L', t2, u2, u3, u4, ps, hps, b, hb, h1, h2, h3, h4, h5, h6, rfl, rfl⟩ := hv
  have e0:max (0:Int) 0=0:=rfl
  have e1:QbB 2 0=2:=rfl
  rw [e1,QvH] at hps
  subst hps
  rw [e0,e1] at hb h3
  have hb':b=32:=by rw [hb]; rfl
  subst hb'
  rw [e0,e1]
  have hlen:(frV L0 L' 0 wl 32 3 2 2).length=36:=by simp [frV,woF,Xa]
  have hones:ones (frV L0 L' 0 wl 32 3 2 2):=by
   intro c hc
   simp only [frV,woF,QH,List.mem_cons,List.mem_append,List.mem_map,List.not_mem_nil,or_false] at hc
   rcases hc with rfl | rfl | ⟨r,_,rfl⟩ | rfl | rfl <;> rfl
  have hend:=fun (t w:Nat)=>wk_end (P:=P) (G:=G) hT F (v0:=v0) (v1:=v1) (v2:=u2) (v3:=u3) (v4:=u4) (t:=t) (w:=w) (Q:=Keep 0 fun v x=>Qe v=true∧v=V.bool true) (fun σ=>⟨zL _,rfl,rfl⟩) (L0:=L0) (L:=L') (by simp at h5; omega) h3 h4 h6
  obtain ⟨wo,hwo⟩:∃ wo,wo=frV L0 L' 0 wl 32 3 2 2:=⟨_,rfl⟩
  rw [← hwo] at hlen hones hend ⊢
  have htk:List.take 36 wo=wo:=List.take_of_length_le (by omega)
  simp -implicitDefEqProofs (disch:=omega) only [go_sem,↓reduceIte,rA,rq,rT,zA,nF,lR,zL,and_true,nF,lC,lN,nA,tZ,List.drop_succ_cons,List.drop_nil,Qel,QlH,Qge,hlen,hones,List.append_nil]
  rw [hT5]
  refine QtW (Y9 [(2,.ref (.agg [.int .u8 2,.int .i64 0]) 0),(4,.lst 3 (prs [⟨1,2,0⟩]) false),(5,.ptr 1 v0 0),(6,.ptr 5 _ 0)] (by simp only [QF]; simp -implicitDefEqProofs (disch:=omega) only [go_sem,↓reduceIte,rq]; done) (hend _ _))
end Go.Proofs.YtfgccihafnjalaaGreatDoor
