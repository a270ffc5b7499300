/- Fresh: what a place holds is asked. -/
import Derived.Test.YtfgccihafnjalaaGreatDoorJ9
import Derived.Test.YtfgccihafnjalaaGreatDoorY
open Nat renaming reduceEqDiff → rq, reduceAdd → rA, reduceLeDiff → rL, reduceLT → rT, zero_add → zA, le_refl → lR, zero_le → zL, add_zero → aZ
open List renaming length_cons → lC, length_nil → lN, take_succ_cons → tS, length_append → lA, nil_append → nA, cons_append → cA, append_assoc → aA, take_nil → tN, take_zero → tZ, length_map → lM
open Bool renaming not_false → nF, not_true → nT
namespace Go.Proofs.YtfgccihafnjalaaGreatDoor
open Go Go.Am Go.Re
set_option maxRecDepth 100000
variable {P:Program} {G:Nat→Option V}
set_option maxHeartbeats 2000000
def QH (L:List Nd) (up:List (Pr × Pr)) (H:List (Pr × Tm)) (l:List Pr) (k:Int) (f:Nat→Int) (n:Nat):List V:=(List.range n).map fun r:Nat=>.int .i64 (if l.any fun p=>decide (p.k=k∧p.n=((r:Nat):Int)) then Qax L up H ⟨0,k,((r:Nat):Int)⟩ else f r)
theorem Xa (L:List Nd) (up:List (Pr × Pr)) (H:List (Pr × Tm)) (l:List Pr) (k:Int) (f:Nat→Int) (n:Nat):(QH L up H l k f n).length=n:=by simp [QH]
theorem QhE (L:List Nd) (up:List (Pr × Pr)) (H:List (Pr × Tm)) (l:List Pr) (k:Int) (f:Nat→Int) (n j:Nat) (h:j<(QH L up H l k f n).length):(QH L up H l k f n)[j]=.int .i64 (if l.any fun p=>decide (p.k=k∧p.n=((j:Nat):Int)) then Qax L up H ⟨0,k,((j:Nat):Int)⟩ else f j):=by
 have h':j<((List.range n).map fun r:Nat=>V.int .i64 (if l.any fun p=>decide (p.k=k∧p.n=((r:Nat):Int)) then Qax L up H ⟨0,k,((r:Nat):Int)⟩ else f r)).length:=h
 show ((List.range n).map fun r:Nat=>V.int .i64 (if l.any fun p=>decide (p.k=k∧p.n=((r:Nat):Int)) then Qax L up H ⟨0,k,((r:Nat):Int)⟩ else f r))[j]'h'=_
 rw [List.getElem_map,List.getElem_range]
def Got (up:List (Pr × Pr)) (H:List (Pr × Tm)) (l:List Pr):Prop:=∀ p∈l,p.k≠3→(Re.get H (Qj up (pE p))).isSome
theorem Qpb {l:List Pr} {k:Int} {j:Nat} (h:(l.any fun p=>decide (p.k=k∧p.n=((j:Nat):Int)))=true):∃ p∈l,pE p=⟨0,k,((j:Nat):Int)⟩∧p.k=k:=by
 rw [List.any_eq_true] at h
 obtain ⟨p,hp,he⟩:=h
 simp only [decide_eq_true_eq] at he
 exact ⟨p,hp,by simp [pE,he.1,he.2],he.1⟩
theorem Qff {L L':List Nd} {up:List (Pr × Pr)} {S:List (Pr × Tm) × Int} {l:List Pr} {k:Int} {f:Nat→Int} {n:Nat} (hk3:k≠3) (hA:AllH L S.1) (hE:Ext L L') (hg:Got up S.1 l) {x:Pr} (hx:x.k≠k) (e:Pr):QH L up S.1 l k f n=QH L' up (ofT up S e).1 (l++[x]) k f n:=by
 refine List.ext_getElem (by simp [QH]) fun j h1 h2=>?_
 rw [QhE,QhE,List.any_append]
 have h0:([x].any fun p=>decide (p.k=k∧p.n=((j:Nat):Int)))=false:=by simp [hx]
 rw [h0,Bool.or_false]
 split
 ·rename_i h
  obtain ⟨p,hp,hpe,hpk⟩:=Qpb h
  rw [← hpe,QkE hA hE (hg p hp (by rw [hpk]; exact hk3)) e]
 ·rfl
theorem Qn0 {L:List Nd} {up:List (Pr × Pr)} {H:List (Pr × Tm)} {l:List Pr} {k:Int} {f:Nat→Int} {n:Nat} {x:Pr} (hx:x.k≠k):QH L up H l k f n=QH L up H (l++[x]) k f n:=by
 refine List.ext_getElem (by simp [QH]) fun j h1 h2=>?_
 rw [QhE,QhE,List.any_append]
 have h0:([x].any fun p=>decide (p.k=k∧p.n=((j:Nat):Int)))=false:=by simp [hx]
 rw [h0,Bool.or_false]
theorem QjC {L L':List Nd} {up:List (Pr × Pr)} {S:List (Pr × Tm) × Int} {l:List Pr} {k:Int} {f:Nat→Int} {n r:Nat} (hk3:k≠3) (hr:r<n) (hA:AllH L S.1) (hE:Ext L L') (hg:Got up S.1 l) {x:Pr} (hx:x.k=k) (hn:x.n=((r:Nat):Int)) {z:Int} (hz:z=Qax L' up (ofT up S (pE x)).1 (pE x)) :
 (QH L up S.1 l k f n).take r++V.int .i64 z::(QH L up S.1 l k f n).drop (r+1)=QH L' up (ofT up S (pE x)).1 (l++[x]) k f n:=by
 have e:(QH L up S.1 l k f n).take r++V.int .i64 z::(QH L up S.1 l k f n).drop (r+1)=(QH L up S.1 l k f n).set r (.int .i64 z):=by
  rw [List.set_eq_take_append_cons_drop,if_pos (by rw [Xa]; exact hr)]
 rw [e]
 refine List.ext_getElem (by simp [QH]) fun j h1 h2=>?_
 rw [List.getElem_set,QhE,QhE,List.any_append]
 by_cases hj:r=j
 ·subst hj
  have h0:([x].any fun p=>decide (p.k=k∧p.n=((r:Nat):Int)))=true:=by simp [hx,hn]
  have hp:pE x=⟨0,k,((r:Nat):Int)⟩:=by simp [pE,hx,hn]
  rw [if_pos rfl,h0,Bool.or_true,if_pos rfl,hz,← hp]
 ·have h0:([x].any fun p=>decide (p.k=k∧p.n=((j:Nat):Int)))=false:=by simp [hx,hn]; omega
  rw [if_neg hj,h0,Bool.or_false]
  split
  ·rename_i h
   obtain ⟨p,hp,hpe,hpk⟩:=Qpb h
   rw [← hpe,QkE hA hE (hg p hp (by rw [hpk]; exact hk3)) _]
  ·rfl
def y3 (y:Nat→Option Ob) (kV kW:Nat) (vr wo sr row:Option Ob):Nat→Option Ob:=fun i=>if i=kV then vr else if i=kW then wo else if i=14 then sr else if i=21 then row else y i
def frZ (v0 wg wb wu wp wm wh:Nat) (y:Nat→Option Ob) (up:List (Pr × Pr)) (L:List Nd) (H:List (Pr × Tm)) (b:Int):List (Option Ob):=[some (.arr wg 41 [.ptr 1 v0 0]),y 6,y 7,y 8,y 9,y 10,y 11,y 12,y 13,y 14,y 15,some (.arr wb 2 [.int .i64 b]),y 17,y 18,some (.map wu (upV up)),some (.arr wp 96 [.mp 19 wu]),y 21,some (.map wm (hoV L H)),some (.arr wh 101 [.mp 22 wm])]
def woC (kV wV n:Nat) (lk:Int) (rg:List V) (ws cnt:Nat) (sure:Bool):List V:=.sl kV wV 0 1 n none::.int .i64 lk::(rg++[.sl 14 ws 0 1 cnt none,.bool sure])
theorem Qy4 (R:List V) (a c v:V) (tl:List V) {r:Nat} (h:r<R.length):List.take (2+r) (a::c::(R++tl))++v::List.drop (2+r) (c::(R++tl))=a::c::((R.take r++v::R.drop (r+1))++tl):=by
 rw [show 2+r=r+1+1 by omega,tS,tS,List.drop_succ_cons,List.take_append_of_le_length (by omega),List.drop_append_of_le_length (by omega)]
 simp
theorem QCq (hT:Qw P tab) (F:Fmt P G) {v0 v1 v2 v3 v4 wg wb wu wp wm wh w21 w8 kV kW wV wW ws t i n cnt r:Nat} {y:Nat→Option Ob} {vr:Option Ob} {ps:List Pr} {cells:List V} {up:List (Pr × Pr)} {b lk:Int} {L:List Nd} {H:List (Pr × Tm)} {f g:Nat→Int} {sure:Bool} {x:Pr}
 (hk:kV=17∧kW=18∨kV=18∧kW=17) (hf:Fst up) (hA:AllH L H) (hb:0≤b∧b≤2199023255552) (hL:L.length≤100000) (hx:ps[i]?=some x) (hl:ps.length≤1000) (hg:Got up H (ps.take i)) (hx1:x.k=1) (hxr:x.n=((r:Nat):Int)) (hr:r<32) :
 W P G 157 0 (AC.seq (AC.reg Xp [])   (AC.seq (AC.cond (Arg.t 121)   AC.skip   (AC.exit 6))   (AC.seq (AC.block 7 (AC.seq (AC.reg XD [122,123])   (AC.seq (AC.reg XC [124,125])   (AC.block 8 (AC.seq (AC.reg XB [128])   (AC.cond (Arg.t 127)   (AC.reg XA [129,130,131,132,133,134,135,136,137,138,139])   (AC.seq (AC.reg Xz [141])   (AC.cond (Arg.t 140)   (AC.reg Xy [142,143,144,145,146,147,148,149,150,151,152,153])   AC.skip))))))))   (AC.reg Xx [154])))) [(12,.ptr 8 w8 0),(15,.ptr 16 wb 0),(16,.ptr kW wW 0),(26,ofV wp wh wg wb),(118,.sl 21 w21 0 3 ps.length none),(119,.int .i64 ((ps.length:Nat):Int)),(120,.int .i64 ((i:Nat):Int))] ⟨t,kG F.fmt v0 v1 v2 v3 v4 L++frZ v0 wg wb wu wp wm wh (y3 y kV kW vr (some (.arr wW 49 (woC kV wV n lk (QH L up H (ps.take i) 1 f 32) ws cnt sure))) (some (.arr ws 44 (QH L up H (ps.take i) 2 g cnt))) (some (.arr w21 64 (fl prC ps++cells)))) up L H b⟩
   (Qhz (fun fr σ => ∃ fr' σ', Shift G 157 0 fr σ fr' σ' ∧ QF fr' [(12, .ptr 8 w8 0), (15, .ptr 16 wb 0), (16, .ptr kW wW 0), (26, ofV wp wh wg wb), (118, .sl 21 w21 0 3 ps.length none), (119, .int .i64 ((ps.length : Nat) : Int)), (120, .int .i64 ((i + 1 : Nat) : Int))] ∧ ∃ L' t' v2' v3' v4', Ext L L' ∧ L'.length ≤ L.length + 1 ∧ AllH L' (ofT up (H, b) (pE x)).1 ∧ σ' = ⟨t', kG F.fmt v0 v1 v2' v3' v4' L' ++ frZ v0 wg wb wu wp wm wh (y3 y kV kW vr (some (.arr wW 49 (woC kV wV n lk (QH L' up (ofT up (H, b) (pE x)).1 (ps.take (i + 1)) 1 f 32) ws cnt sure))) (some (.arr ws 44 (QH L' up (ofT up (H, b) (pE x)).1 (ps.take (i + 1)) 2 g cnt))) (some (.arr w21 64 (fl prC ps ++ cells)))) up L' (ofT up (H, b) (pE x)).1 (ofT up (H, b) (pE x)).2⟩) fun e fr σ => False) := by
 obtain ⟨xv,xk,xn⟩:=x
 simp only at hx1 hxr
 subst hx1 hxr
 have hi:=(List.getElem?_eq_some_iff.1 hx).1
 have hD:=QaC hx cells
 have hsz:i * 3+3≤ps.length * 3+cells.length:=by omega
 have e2:IntKind.i64.wrap ((i:Int)+1)=((i+1:Nat):Int):=QcJ hi (by omega)
 have hpl:=Xa L up H (ps.take i) 1 f 32
 have hpl2:=Xa L up H (ps.take i) 2 g cnt
 have hof:=fun (y:Nat→Option Ob) (t:Nat)=>QuV (P:=P) (G:=G) hT F (v0:=v0) (v1:=v1) (v2:=v2) (v3:=v3) (v4:=v4) (wg:=wg) (wb:=wb) (wu:=wu) (wp:=wp) (wm:=wm) (wh:=wh) (t:=t) (y:=y) (b:=b) hf hA hb hL (pE ⟨xv,1,((r:Nat):Int)⟩)
 have hrI:((r:Nat):Int)<32:=by omega
 rw [QJ hx]
 rcases hk with ⟨rfl,rfl⟩ | ⟨rfl,rfl⟩
 ·have hof':=hof (fun j=>if j=24 then some (.arr t 64 [.int .i64 xv,.int .u8 1,.int .i64 ((r:Nat):Int)]) else y3 y 17 18 vr (some (.arr wW 49 (woC 17 wV n lk (QH L up H (ps.take i) 1 f 32) ws cnt sure))) (some (.arr ws 44 (QH L up H (ps.take i) 2 g cnt))) (some (.arr w21 64 (fl prC ps++cells))) j)
  simp only [frX,frZ,y3,woC,rq,if_true,if_false,prV,prC] at hof' hD ⊢
  refine Qu 12 ?_
  refine yc ?_
  iterate 10 (try (refine Qb 4 ?_; simp -implicitDefEqProofs (disch:=omega) only [go_sem,↓reduceIte,reduceCtorEq,rA,rq,rL,zA,aZ,nF,lR,zL,beq_self_eq_true,QN,Qel,QbK,Z1,YZ,false_implies,true_implies,and_true,nF,lC,lN,cA,nA,aA,lA,tS,tZ,tN,List.drop_succ_cons,List.drop_zero,List.drop_nil,hD,hsz]))
  repeat' (first | with_reducible refine And.intro ?_ ?_ | (refine Qb 12 ?_; simp -implicitDefEqProofs (disch:=omega) only [go_sem,↓reduceIte,rq]))
  all_goals
   refine CV.use 12 (CV.of hT QO (hof' (t+1))) fun v σ hv=>?_
   obtain ⟨tm,L2,t2,w2,w3,w4,x1,x2,x3,x4,x5,x6,rfl,rfl⟩:=hv
   have hset:=QjC (S:=(H,b)) (f:=f) (n:=32) (k:=1) (by decide) hr hA x2 hg (x:=⟨xv,1,((r:Nat):Int)⟩) rfl rfl (z:=Z3 L2 (tmN tm)) (XW x1).symm
   have hoth:=Qff (S:=(H,b)) (f:=g) (n:=cnt) (k:=2) (by decide) hA x2 hg (x:=⟨xv,1,((r:Nat):Int)⟩) (show (1:Int)≠2 by decide) (pE ⟨xv,1,((r:Nat):Int)⟩)
   have hws:=Qy4 (QH L up H (ps.take i) 1 f 32) (.sl 17 wV 0 1 n none) (.int .i64 lk) (.int .i64 (Z3 L2 (tmN tm))) [.sl 14 ws 0 1 cnt none,.bool sure] (r:=r) (by rw [hpl]; exact hr)
   rw [hset] at hws
   rw [hoth]
   simp -implicitDefEqProofs (disch:=omega) only [go_sem,Qf,↓reduceIte,rA,rq,rL,zA,Nat.mul_one,nF,lR,zL,QaI,ZL,Z1,true_implies,true_and,and_true,nF,lC,lN,cA,nA,aA,lA,List.drop_succ_cons,hpl,hws]
   iterate 10 (try (refine Qb 4 ?_; simp -implicitDefEqProofs (disch:=omega) only [go_sem,Qf,↓reduceIte,reduceCtorEq,rA,rq,rL,rT,Nat.reduceSub,Nat.reduceMul,Int.reduceToNat,Int.reduceLE,Int.reduceLT,Int.reduceEq,Int.reduceNe,Nat.succ_ne_zero,zA,aZ,Nat.mul_one,Nat.one_mul,Nat.zero_mul,decide_true,decide_false,nT,nF,lR,zL,ge_iff_le,gt_iff_lt,Nat.reduceBEq,Nat.reduceBNe,beq_self_eq_true,bne_self_eq_false,Option.isSome_some,Option.isSome_none,Option.getD_some,Option.getD_none,X9,QN,relate_Fresh,Qdf,Qde,Qdd,Qdc,Qdb,Qda,Qb8,Qcz,Qcy,Qcx,Zp,Zo,YU,Zh,Zg,Zf,Ze,Zd,Zc,Zb,Za,YT,Yj,Ys,Yr,Yq,Zn,Xp,XD,XC,XB,XA,Xz,Xy,Xx,ZJ,Qel,QlH,Qge,Qog,Qha,QnJ,Qfv,Qof,QeM,QlG,Qc1,Qgf,Qbv,Qg9,Qb6,Qg8,Qb5,Qg7,Qb4,Qfu,QaU,Qft,Qbu,Qdq,QaT,QaJ,ZM,QaI,ZL,Qg6,Qbt,Qd0,Qbs,QbK,Qb3,Qc0,Qal,Qci,Qbr,Z1,YZ,QdZ,Qbq,QeK,QaS,Qg5,Qb2,Qg4,Qb1,Zk,Qbw,false_implies,true_implies,true_and,and_true,not_true_eq_false,not_false_eq_true,Int.reduceBEq,nT,nF,decide_true,decide_false,lC,lN,cA,nA,aA,lA,List.getElem?_cons_zero,List.getElem?_cons_succ,List.set_cons_zero,List.set_cons_succ,tS,tZ,tN,List.drop_succ_cons,List.drop_zero,List.drop_nil,hi,hpl,hrI,hws]))
   refine ⟨_,_,Shift.drop (o':=_) (ZP (kG F.fmt v0 v1 w2 w3 w4 L2++frZ v0 wg wb wu wp wm wh (y3 y 17 18 vr (some (.arr wW 49 (woC 17 wV n lk (QH L2 up (ofT up (H,b) (pE ⟨xv,1,((r:Nat):Int)⟩)).1 (ps.take i++[⟨xv,1,((r:Nat):Int)⟩]) 1 f 32) ws cnt sure))) (some (.arr ws 44 (QH L2 up (ofT up (H,b) (pE ⟨xv,1,((r:Nat):Int)⟩)).1 (ps.take i++[⟨xv,1,((r:Nat):Int)⟩]) 2 g cnt))) (some (.arr w21 64 (fl prC ps++cells)))) up L2 (ofT up (H,b) (pE ⟨xv,1,((r:Nat):Int)⟩)).1 (ofT up (H,b) (pE ⟨xv,1,((r:Nat):Int)⟩)).2) [_]) (lR _) (zL _),?_,L2,t2,w2,w3,w4,x2,x3,x4,rfl⟩
   simp only [QF]; simp -implicitDefEqProofs (disch:=omega) only [go_sem,↓reduceIte,rq,and_true,e2]
 ·have hof':=hof (fun j=>if j=24 then some (.arr t 64 [.int .i64 xv,.int .u8 1,.int .i64 ((r:Nat):Int)]) else y3 y 18 17 vr (some (.arr wW 49 (woC 18 wV n lk (QH L up H (ps.take i) 1 f 32) ws cnt sure))) (some (.arr ws 44 (QH L up H (ps.take i) 2 g cnt))) (some (.arr w21 64 (fl prC ps++cells))) j)
  simp only [frX,frZ,y3,woC,rq,if_true,if_false,prV,prC] at hof' hD ⊢
  refine Qu 12 ?_
  refine yc ?_
  iterate 10 (try (refine Qb 4 ?_; simp -implicitDefEqProofs (disch:=omega) only [go_sem,↓reduceIte,reduceCtorEq,rA,rq,rL,zA,aZ,nF,lR,zL,beq_self_eq_true,QN,Qel,QbK,Z1,YZ,false_implies,true_implies,and_true,nF,lC,lN,cA,nA,aA,lA,tS,tZ,tN,List.drop_succ_cons,List.drop_zero,List.drop_nil,hD,hsz]))
  repeat' (first | with_reducible refine And.intro ?_ ?_ | (refine Qb 12 ?_; simp -implicitDefEqProofs (disch:=omega) only [go_sem,↓reduceIte,rq]))
  all_goals
   refine CV.use 12 (CV.of hT QO (hof' (t+1))) fun v σ hv=>?_
   obtain ⟨tm,L2,t2,w2,w3,w4,x1,x2,x3,x4,x5,x6,rfl,rfl⟩:=hv
   have hset:=QjC (S:=(H,b)) (f:=f) (n:=32) (k:=1) (by decide) hr hA x2 hg (x:=⟨xv,1,((r:Nat):Int)⟩) rfl rfl (z:=Z3 L2 (tmN tm)) (XW x1).symm
   have hoth:=Qff (S:=(H,b)) (f:=g) (n:=cnt) (k:=2) (by decide) hA x2 hg (x:=⟨xv,1,((r:Nat):Int)⟩) (show (1:Int)≠2 by decide) (pE ⟨xv,1,((r:Nat):Int)⟩)
   have hws:=Qy4 (QH L up H (ps.take i) 1 f 32) (.sl 18 wV 0 1 n none) (.int .i64 lk) (.int .i64 (Z3 L2 (tmN tm))) [.sl 14 ws 0 1 cnt none,.bool sure] (r:=r) (by rw [hpl]; exact hr)
   rw [hset] at hws
   rw [hoth]
   simp -implicitDefEqProofs (disch:=omega) only [go_sem,Qf,↓reduceIte,rA,rq,rL,zA,Nat.mul_one,nF,lR,zL,QaJ,ZM,Z1,true_implies,true_and,and_true,nF,lC,lN,cA,nA,aA,lA,List.drop_succ_cons,hpl,hws]
   iterate 10 (try (refine Qb 4 ?_; simp -implicitDefEqProofs (disch:=omega) only [go_sem,Qf,↓reduceIte,reduceCtorEq,rA,rq,rL,rT,Nat.reduceSub,Nat.reduceMul,Int.reduceToNat,Int.reduceLE,Int.reduceLT,Int.reduceEq,Int.reduceNe,Nat.succ_ne_zero,zA,aZ,Nat.mul_one,Nat.one_mul,Nat.zero_mul,decide_true,decide_false,nT,nF,lR,zL,ge_iff_le,gt_iff_lt,Nat.reduceBEq,Nat.reduceBNe,beq_self_eq_true,bne_self_eq_false,Option.isSome_some,Option.isSome_none,Option.getD_some,Option.getD_none,X9,QN,relate_Fresh,Qdf,Qde,Qdd,Qdc,Qdb,Qda,Qb8,Qcz,Qcy,Qcx,Zp,Zo,YU,Zh,Zg,Zf,Ze,Zd,Zc,Zb,Za,YT,Yj,Ys,Yr,Yq,Zn,Xp,XD,XC,XB,XA,Xz,Xy,Xx,ZJ,Qel,QlH,Qge,Qog,Qha,QnJ,Qfv,Qof,QeM,QlG,Qc1,Qgf,Qbv,Qg9,Qb6,Qg8,Qb5,Qg7,Qb4,Qfu,QaU,Qft,Qbu,Qdq,QaT,QaJ,ZM,QaI,ZL,Qg6,Qbt,Qd0,Qbs,QbK,Qb3,Qc0,Qal,Qci,Qbr,Z1,YZ,QdZ,Qbq,QeK,QaS,Qg5,Qb2,Qg4,Qb1,Zk,Qbw,false_implies,true_implies,true_and,and_true,not_true_eq_false,not_false_eq_true,Int.reduceBEq,nT,nF,decide_true,decide_false,lC,lN,cA,nA,aA,lA,List.getElem?_cons_zero,List.getElem?_cons_succ,List.set_cons_zero,List.set_cons_succ,tS,tZ,tN,List.drop_succ_cons,List.drop_zero,List.drop_nil,hi,hpl,hrI,hws]))
   refine ⟨_,_,Shift.drop (o':=_) (ZP (kG F.fmt v0 v1 w2 w3 w4 L2++frZ v0 wg wb wu wp wm wh (y3 y 18 17 vr (some (.arr wW 49 (woC 18 wV n lk (QH L2 up (ofT up (H,b) (pE ⟨xv,1,((r:Nat):Int)⟩)).1 (ps.take i++[⟨xv,1,((r:Nat):Int)⟩]) 1 f 32) ws cnt sure))) (some (.arr ws 44 (QH L2 up (ofT up (H,b) (pE ⟨xv,1,((r:Nat):Int)⟩)).1 (ps.take i++[⟨xv,1,((r:Nat):Int)⟩]) 2 g cnt))) (some (.arr w21 64 (fl prC ps++cells)))) up L2 (ofT up (H,b) (pE ⟨xv,1,((r:Nat):Int)⟩)).1 (ofT up (H,b) (pE ⟨xv,1,((r:Nat):Int)⟩)).2) [_]) (lR _) (zL _),?_,L2,t2,w2,w3,w4,x2,x3,x4,rfl⟩
   simp only [QF]; simp -implicitDefEqProofs (disch:=omega) only [go_sem,↓reduceIte,rq,and_true,e2]
theorem Qfg (L:List Nd) (up:List (Pr × Pr)) (H:List (Pr × Tm)) (l:List Pr) (k:Int) (f:Nat→Int) (a c:V):(QH L up H l k f 32++[a,c]).getD 32 V.any=a:=by
 rw [List.getD_eq_getElem?_getD,List.getElem?_append_right (by rw [Xa]; omega),Xa]; rfl
theorem Quy (hT:Qw P tab) (F:Fmt P G) {v0 v1 v2 v3 v4 wg wb wu wp wm wh w21 w8 kV kW wV wW ws t i n cnt r:Nat} {y:Nat→Option Ob} {vr:Option Ob} {ps:List Pr} {cells:List V} {up:List (Pr × Pr)} {b lk:Int} {L:List Nd} {H:List (Pr × Tm)} {f g:Nat→Int} {sure:Bool} {x:Pr}
 (hk:kV=17∧kW=18) (hf:Fst up) (hA:AllH L H) (hb:0≤b∧b≤2199023255552) (hL:L.length≤100000) (hx:ps[i]?=some x) (hl:ps.length≤1000) (hg:Got up H (ps.take i)) (hx1:x.k=2) (hxr:x.n=((r:Nat):Int)) (hr:r<cnt) (hcnt:cnt≤100) :
 W P G 157 0 (AC.seq (AC.reg Xp [])   (AC.seq (AC.cond (Arg.t 121)   AC.skip   (AC.exit 6))   (AC.seq (AC.block 7 (AC.seq (AC.reg XD [122,123])   (AC.seq (AC.reg XC [124,125])   (AC.block 8 (AC.seq (AC.reg XB [128])   (AC.cond (Arg.t 127)   (AC.reg XA [129,130,131,132,133,134,135,136,137,138,139])   (AC.seq (AC.reg Xz [141])   (AC.cond (Arg.t 140)   (AC.reg Xy [142,143,144,145,146,147,148,149,150,151,152,153])   AC.skip))))))))   (AC.reg Xx [154])))) [(12,.ptr 8 w8 0),(15,.ptr 16 wb 0),(16,.ptr kW wW 0),(26,ofV wp wh wg wb),(118,.sl 21 w21 0 3 ps.length none),(119,.int .i64 ((ps.length:Nat):Int)),(120,.int .i64 ((i:Nat):Int))] ⟨t,kG F.fmt v0 v1 v2 v3 v4 L++frZ v0 wg wb wu wp wm wh (y3 y kV kW vr (some (.arr wW 49 (woC kV wV n lk (QH L up H (ps.take i) 1 f 32) ws cnt sure))) (some (.arr ws 44 (QH L up H (ps.take i) 2 g cnt))) (some (.arr w21 64 (fl prC ps++cells)))) up L H b⟩
   (Qhz (fun fr σ => ∃ fr' σ', Shift G 157 0 fr σ fr' σ' ∧ QF fr' [(12, .ptr 8 w8 0), (15, .ptr 16 wb 0), (16, .ptr kW wW 0), (26, ofV wp wh wg wb), (118, .sl 21 w21 0 3 ps.length none), (119, .int .i64 ((ps.length : Nat) : Int)), (120, .int .i64 ((i + 1 : Nat) : Int))] ∧ ∃ L' t' v2' v3' v4', Ext L L' ∧ L'.length ≤ L.length + 1 ∧ AllH L' (ofT up (H, b) (pE x)).1 ∧ σ' = ⟨t', kG F.fmt v0 v1 v2' v3' v4' L' ++ frZ v0 wg wb wu wp wm wh (y3 y kV kW vr (some (.arr wW 49 (woC kV wV n lk (QH L' up (ofT up (H, b) (pE x)).1 (ps.take (i + 1)) 1 f 32) ws cnt sure))) (some (.arr ws 44 (QH L' up (ofT up (H, b) (pE x)).1 (ps.take (i + 1)) 2 g cnt))) (some (.arr w21 64 (fl prC ps ++ cells)))) up L' (ofT up (H, b) (pE x)).1 (ofT up (H, b) (pE x)).2⟩) fun e fr σ => False) := by
 obtain ⟨xv,xk,xn⟩:=x
 simp only at hx1 hxr
 subst hx1 hxr
 have hi:=(List.getElem?_eq_some_iff.1 hx).1
 have hD:=QaC hx cells
 have hsz:i * 3+3≤ps.length * 3+cells.length:=by omega
 have e2:IntKind.i64.wrap ((i:Int)+1)=((i+1:Nat):Int):=QcJ hi (by omega)
 have hpl:=Xa L up H (ps.take i) 1 f 32
 have hpl2:=Xa L up H (ps.take i) 2 g cnt
 have hof:=fun (y:Nat→Option Ob) (t:Nat)=>QuV (P:=P) (G:=G) hT F (v0:=v0) (v1:=v1) (v2:=v2) (v3:=v3) (v4:=v4) (wg:=wg) (wb:=wb) (wu:=wu) (wp:=wp) (wm:=wm) (wh:=wh) (t:=t) (y:=y) (b:=b) hf hA hb hL (pE ⟨xv,2,((r:Nat):Int)⟩)
 have hrI:((r:Nat):Int)<((cnt:Nat):Int):=by omega
 rw [QJ hx]
 obtain ⟨rfl,rfl⟩:=hk
 have hof':=hof (fun j=>if j=24 then some (.arr t 64 [.int .i64 xv,.int .u8 2,.int .i64 ((r:Nat):Int)]) else y3 y 17 18 vr (some (.arr wW 49 (woC 17 wV n lk (QH L up H (ps.take i) 1 f 32) ws cnt sure))) (some (.arr ws 44 (QH L up H (ps.take i) 2 g cnt))) (some (.arr w21 64 (fl prC ps++cells))) j)
 simp only [frX,frZ,y3,woC,rq,if_true,if_false,prV,prC] at hof' hD ⊢
 refine Qu 12 ?_
 refine yc ?_
 iterate 10 (try (refine Qb 4 ?_; simp -implicitDefEqProofs (disch:=omega) only [go_sem,↓reduceIte,reduceCtorEq,rA,rq,rL,zA,aZ,nF,lR,zL,beq_self_eq_true,Qfg,QN,Qel,QaI,QbK,Z1,YZ,false_implies,true_implies,and_true,Int.reduceBEq,nF,lC,lN,cA,nA,aA,lA,tS,tZ,tN,List.drop_succ_cons,List.drop_zero,List.drop_nil,hD,hsz,hpl]))
 repeat' (first | with_reducible refine And.intro ?_ ?_ | (refine Qb 12 ?_; simp -implicitDefEqProofs (disch:=omega) only [go_sem,↓reduceIte,rA,rq,rL,zA,Qfg,QaI,true_implies,and_true,lC,lN,lA,hpl]))
 all_goals
  refine CV.use 12 (CV.of hT QO (hof' (t+1))) fun v σ hv=>?_
  obtain ⟨tm,L2,t2,w2,w3,w4,x1,x2,x3,x4,x5,x6,rfl,rfl⟩:=hv
  have hset:=QjC (S:=(H,b)) (f:=g) (n:=cnt) (k:=2) (by decide) hr hA x2 hg (x:=⟨xv,2,((r:Nat):Int)⟩) rfl rfl (z:=Z3 L2 (tmN tm)) (XW x1).symm
  have hoth:=Qff (S:=(H,b)) (f:=f) (n:=32) (k:=1) (by decide) hA x2 hg (x:=⟨xv,2,((r:Nat):Int)⟩) (show (2:Int)≠1 by decide) (pE ⟨xv,2,((r:Nat):Int)⟩)
  rw [hoth]
  simp -implicitDefEqProofs (disch:=omega) only [go_sem,Qf,↓reduceIte,rA,rq,rL,zA,Nat.mul_one,nF,lR,zL,Qfg,Xa,Qfu,QaU,QaI,Z1,true_implies,true_and,and_true,nF,lC,lN,cA,nA,aA,lA,hr,hpl2,hset]
  iterate 10 (try (refine Qb 4 ?_; simp -implicitDefEqProofs (disch:=omega) only [go_sem]))
  refine ⟨_,_,Shift.drop (o':=_) (ZP (kG F.fmt v0 v1 w2 w3 w4 L2++frZ v0 wg wb wu wp wm wh (y3 y 17 18 vr (some (.arr wW 49 (woC 17 wV n lk (QH L2 up (ofT up (H,b) (pE ⟨xv,2,((r:Nat):Int)⟩)).1 (ps.take i++[⟨xv,2,((r:Nat):Int)⟩]) 1 f 32) ws cnt sure))) (some (.arr ws 44 (QH L2 up (ofT up (H,b) (pE ⟨xv,2,((r:Nat):Int)⟩)).1 (ps.take i++[⟨xv,2,((r:Nat):Int)⟩]) 2 g cnt))) (some (.arr w21 64 (fl prC ps++cells)))) up L2 (ofT up (H,b) (pE ⟨xv,2,((r:Nat):Int)⟩)).1 (ofT up (H,b) (pE ⟨xv,2,((r:Nat):Int)⟩)).2) [_]) (lR _) (zL _),?_,L2,t2,w2,w3,w4,x2,x3,x4,rfl⟩
  simp only [QF]; simp -implicitDefEqProofs (disch:=omega) only [go_sem,↓reduceIte,rq,and_true,e2]
theorem Qux (hT:Qw P tab) (F:Fmt P G) {v0 v1 v2 v3 v4 wg wb wu wp wm wh w21 w8 kV kW wV wW ws t i n cnt r:Nat} {y:Nat→Option Ob} {vr:Option Ob} {ps:List Pr} {cells:List V} {up:List (Pr × Pr)} {b lk:Int} {L:List Nd} {H:List (Pr × Tm)} {f g:Nat→Int} {sure:Bool} {x:Pr}
 (hk:kV=18∧kW=17) (hf:Fst up) (hA:AllH L H) (hb:0≤b∧b≤2199023255552) (hL:L.length≤100000) (hx:ps[i]?=some x) (hl:ps.length≤1000) (hg:Got up H (ps.take i)) (hx1:x.k=2) (hxr:x.n=((r:Nat):Int)) (hr:r<cnt) (hcnt:cnt≤100) :
 W P G 157 0 (AC.seq (AC.reg Xp [])   (AC.seq (AC.cond (Arg.t 121)   AC.skip   (AC.exit 6))   (AC.seq (AC.block 7 (AC.seq (AC.reg XD [122,123])   (AC.seq (AC.reg XC [124,125])   (AC.block 8 (AC.seq (AC.reg XB [128])   (AC.cond (Arg.t 127)   (AC.reg XA [129,130,131,132,133,134,135,136,137,138,139])   (AC.seq (AC.reg Xz [141])   (AC.cond (Arg.t 140)   (AC.reg Xy [142,143,144,145,146,147,148,149,150,151,152,153])   AC.skip))))))))   (AC.reg Xx [154])))) [(12,.ptr 8 w8 0),(15,.ptr 16 wb 0),(16,.ptr kW wW 0),(26,ofV wp wh wg wb),(118,.sl 21 w21 0 3 ps.length none),(119,.int .i64 ((ps.length:Nat):Int)),(120,.int .i64 ((i:Nat):Int))] ⟨t,kG F.fmt v0 v1 v2 v3 v4 L++frZ v0 wg wb wu wp wm wh (y3 y kV kW vr (some (.arr wW 49 (woC kV wV n lk (QH L up H (ps.take i) 1 f 32) ws cnt sure))) (some (.arr ws 44 (QH L up H (ps.take i) 2 g cnt))) (some (.arr w21 64 (fl prC ps++cells)))) up L H b⟩
   (Qhz (fun fr σ => ∃ fr' σ', Shift G 157 0 fr σ fr' σ' ∧ QF fr' [(12, .ptr 8 w8 0), (15, .ptr 16 wb 0), (16, .ptr kW wW 0), (26, ofV wp wh wg wb), (118, .sl 21 w21 0 3 ps.length none), (119, .int .i64 ((ps.length : Nat) : Int)), (120, .int .i64 ((i + 1 : Nat) : Int))] ∧ ∃ L' t' v2' v3' v4', Ext L L' ∧ L'.length ≤ L.length + 1 ∧ AllH L' (ofT up (H, b) (pE x)).1 ∧ σ' = ⟨t', kG F.fmt v0 v1 v2' v3' v4' L' ++ frZ v0 wg wb wu wp wm wh (y3 y kV kW vr (some (.arr wW 49 (woC kV wV n lk (QH L' up (ofT up (H, b) (pE x)).1 (ps.take (i + 1)) 1 f 32) ws cnt sure))) (some (.arr ws 44 (QH L' up (ofT up (H, b) (pE x)).1 (ps.take (i + 1)) 2 g cnt))) (some (.arr w21 64 (fl prC ps ++ cells)))) up L' (ofT up (H, b) (pE x)).1 (ofT up (H, b) (pE x)).2⟩) fun e fr σ => False) := by
 obtain ⟨xv,xk,xn⟩:=x
 simp only at hx1 hxr
 subst hx1 hxr
 have hi:=(List.getElem?_eq_some_iff.1 hx).1
 have hD:=QaC hx cells
 have hsz:i * 3+3≤ps.length * 3+cells.length:=by omega
 have e2:IntKind.i64.wrap ((i:Int)+1)=((i+1:Nat):Int):=QcJ hi (by omega)
 have hpl:=Xa L up H (ps.take i) 1 f 32
 have hpl2:=Xa L up H (ps.take i) 2 g cnt
 have hof:=fun (y:Nat→Option Ob) (t:Nat)=>QuV (P:=P) (G:=G) hT F (v0:=v0) (v1:=v1) (v2:=v2) (v3:=v3) (v4:=v4) (wg:=wg) (wb:=wb) (wu:=wu) (wp:=wp) (wm:=wm) (wh:=wh) (t:=t) (y:=y) (b:=b) hf hA hb hL (pE ⟨xv,2,((r:Nat):Int)⟩)
 have hrI:((r:Nat):Int)<((cnt:Nat):Int):=by omega
 rw [QJ hx]
 obtain ⟨rfl,rfl⟩:=hk
 have hof':=hof (fun j=>if j=24 then some (.arr t 64 [.int .i64 xv,.int .u8 2,.int .i64 ((r:Nat):Int)]) else y3 y 18 17 vr (some (.arr wW 49 (woC 18 wV n lk (QH L up H (ps.take i) 1 f 32) ws cnt sure))) (some (.arr ws 44 (QH L up H (ps.take i) 2 g cnt))) (some (.arr w21 64 (fl prC ps++cells))) j)
 simp only [frX,frZ,y3,woC,rq,if_true,if_false,prV,prC] at hof' hD ⊢
 refine Qu 12 ?_
 refine yc ?_
 iterate 10 (try (refine Qb 4 ?_; simp -implicitDefEqProofs (disch:=omega) only [go_sem,↓reduceIte,reduceCtorEq,rA,rq,rL,zA,aZ,nF,lR,zL,beq_self_eq_true,Qfg,QN,Qel,QaJ,QbK,Z1,YZ,false_implies,true_implies,and_true,Int.reduceBEq,nF,lC,lN,cA,nA,aA,lA,tS,tZ,tN,List.drop_succ_cons,List.drop_zero,List.drop_nil,hD,hsz,hpl]))
 repeat' (first | with_reducible refine And.intro ?_ ?_ | (refine Qb 12 ?_; simp -implicitDefEqProofs (disch:=omega) only [go_sem,↓reduceIte,rA,rq,rL,zA,Qfg,QaJ,true_implies,and_true,lC,lN,lA,hpl]))
 all_goals
  refine CV.use 12 (CV.of hT QO (hof' (t+1))) fun v σ hv=>?_
  obtain ⟨tm,L2,t2,w2,w3,w4,x1,x2,x3,x4,x5,x6,rfl,rfl⟩:=hv
  have hset:=QjC (S:=(H,b)) (f:=g) (n:=cnt) (k:=2) (by decide) hr hA x2 hg (x:=⟨xv,2,((r:Nat):Int)⟩) rfl rfl (z:=Z3 L2 (tmN tm)) (XW x1).symm
  have hoth:=Qff (S:=(H,b)) (f:=f) (n:=32) (k:=1) (by decide) hA x2 hg (x:=⟨xv,2,((r:Nat):Int)⟩) (show (2:Int)≠1 by decide) (pE ⟨xv,2,((r:Nat):Int)⟩)
  rw [hoth]
  simp -implicitDefEqProofs (disch:=omega) only [go_sem,Qf,↓reduceIte,rA,rq,rL,zA,Nat.mul_one,nF,lR,zL,Qfg,Xa,Qfu,QaU,QaJ,Z1,true_implies,true_and,and_true,nF,lC,lN,cA,nA,aA,lA,hr,hpl2,hset]
  iterate 10 (try (refine Qb 4 ?_; simp -implicitDefEqProofs (disch:=omega) only [go_sem]))
  refine ⟨_,_,Shift.drop (o':=_) (ZP (kG F.fmt v0 v1 w2 w3 w4 L2++frZ v0 wg wb wu wp wm wh (y3 y 18 17 vr (some (.arr wW 49 (woC 18 wV n lk (QH L2 up (ofT up (H,b) (pE ⟨xv,2,((r:Nat):Int)⟩)).1 (ps.take i++[⟨xv,2,((r:Nat):Int)⟩]) 1 f 32) ws cnt sure))) (some (.arr ws 44 (QH L2 up (ofT up (H,b) (pE ⟨xv,2,((r:Nat):Int)⟩)).1 (ps.take i++[⟨xv,2,((r:Nat):Int)⟩]) 2 g cnt))) (some (.arr w21 64 (fl prC ps++cells)))) up L2 (ofT up (H,b) (pE ⟨xv,2,((r:Nat):Int)⟩)).1 (ofT up (H,b) (pE ⟨xv,2,((r:Nat):Int)⟩)).2) [_]) (lR _) (zL _),?_,L2,t2,w2,w3,w4,x2,x3,x4,rfl⟩
  simp only [QF]; simp -implicitDefEqProofs (disch:=omega) only [go_sem,↓reduceIte,rq,and_true,e2]
theorem QCr (hT:Qw P tab) (F:Fmt P G) {v0 v1 v2 v3 v4 wg wb wu wp wm wh w21 w8 kV kW wV wW ws t i n cnt r:Nat} {y:Nat→Option Ob} {vr:Option Ob} {ps:List Pr} {cells:List V} {up:List (Pr × Pr)} {b lk:Int} {L:List Nd} {H:List (Pr × Tm)} {f g:Nat→Int} {sure:Bool} {x:Pr}
 (hk:kV=17∧kW=18∨kV=18∧kW=17) (hf:Fst up) (hA:AllH L H) (hb:0≤b∧b≤2199023255552) (hL:L.length≤100000) (hx:ps[i]?=some x) (hl:ps.length≤1000) (hg:Got up H (ps.take i)) (hx1:x.k=3) :
 W P G 157 0 (AC.seq (AC.reg Xp [])   (AC.seq (AC.cond (Arg.t 121)   AC.skip   (AC.exit 6))   (AC.seq (AC.block 7 (AC.seq (AC.reg XD [122,123])   (AC.seq (AC.reg XC [124,125])   (AC.block 8 (AC.seq (AC.reg XB [128])   (AC.cond (Arg.t 127)   (AC.reg XA [129,130,131,132,133,134,135,136,137,138,139])   (AC.seq (AC.reg Xz [141])   (AC.cond (Arg.t 140)   (AC.reg Xy [142,143,144,145,146,147,148,149,150,151,152,153])   AC.skip))))))))   (AC.reg Xx [154])))) [(12,.ptr 8 w8 0),(15,.ptr 16 wb 0),(16,.ptr kW wW 0),(26,ofV wp wh wg wb),(118,.sl 21 w21 0 3 ps.length none),(119,.int .i64 ((ps.length:Nat):Int)),(120,.int .i64 ((i:Nat):Int))] ⟨t,kG F.fmt v0 v1 v2 v3 v4 L++frZ v0 wg wb wu wp wm wh (y3 y kV kW vr (some (.arr wW 49 (woC kV wV n lk (QH L up H (ps.take i) 1 f 32) ws cnt sure))) (some (.arr ws 44 (QH L up H (ps.take i) 2 g cnt))) (some (.arr w21 64 (fl prC ps++cells)))) up L H b⟩
   (Qhz (fun fr σ => ∃ fr' σ', Shift G 157 0 fr σ fr' σ' ∧ QF fr' [(12, .ptr 8 w8 0), (15, .ptr 16 wb 0), (16, .ptr kW wW 0), (26, ofV wp wh wg wb), (118, .sl 21 w21 0 3 ps.length none), (119, .int .i64 ((ps.length : Nat) : Int)), (120, .int .i64 ((i + 1 : Nat) : Int))] ∧ ∃ t', σ' = ⟨t', kG F.fmt v0 v1 v2 v3 v4 L ++ frZ v0 wg wb wu wp wm wh (y3 y kV kW vr (some (.arr wW 49 (woC kV wV n lk (QH L up H (ps.take (i + 1)) 1 f 32) ws cnt sure))) (some (.arr ws 44 (QH L up H (ps.take (i + 1)) 2 g cnt))) (some (.arr w21 64 (fl prC ps ++ cells)))) up L H b⟩) fun e fr σ => False) := by
 have hi:=(List.getElem?_eq_some_iff.1 hx).1
 have hD:=QaC hx cells
 have hsz:i * 3+3≤ps.length * 3+cells.length:=by omega
 have e2:IntKind.i64.wrap ((i:Int)+1)=((i+1:Nat):Int):=QcJ hi (by omega)
 have hk1:(x.k==1)=false:=by simp [hx1]
 have hk2:(x.k==2)=false:=by simp [hx1]
 rw [QJ hx,← Qn0 (k:=1) (by omega),← Qn0 (k:=2) (by omega)]
 rcases hk with ⟨rfl,rfl⟩ | ⟨rfl,rfl⟩
 ·simp only [frZ,y3,woC,rq,if_true,if_false] at hD ⊢
  refine Qu 12 ?_
  refine yc ?_
  iterate 10 (try (refine Qb 4 ?_; simp -implicitDefEqProofs (disch:=omega) only [go_sem,↓reduceIte,reduceCtorEq,rA,rq,rL,zA,aZ,nF,lR,zL,QN,Qel,QbK,Z1,YZ,false_implies,true_implies,and_true,nF,lC,lN,cA,nA,aA,lA,tZ,List.drop_succ_cons,List.drop_nil,hD,hsz,hk1,hk2]))
  iterate 10 (try (refine Qb 4 ?_; simp -implicitDefEqProofs (disch:=omega) only [go_sem,Qf,↓reduceIte,reduceCtorEq,rA,rq,rL,rT,Nat.reduceSub,Nat.reduceMul,Int.reduceToNat,Int.reduceLE,Int.reduceLT,Int.reduceEq,Int.reduceNe,Nat.succ_ne_zero,zA,aZ,Nat.mul_one,Nat.one_mul,Nat.zero_mul,decide_true,decide_false,nT,nF,lR,zL,ge_iff_le,gt_iff_lt,Nat.reduceBEq,Nat.reduceBNe,beq_self_eq_true,bne_self_eq_false,Option.isSome_some,Option.isSome_none,Option.getD_some,Option.getD_none,X9,Xa,QN,relate_Fresh,Qdf,Qde,Qdd,Qdc,Qdb,Qda,Qb8,Qcz,Qcy,Qcx,Zp,Zo,YU,Zh,Zg,Zf,Ze,Zd,Zc,Zb,Za,YT,Yj,Ys,Yr,Yq,Zn,Xp,XD,XC,XB,XA,Xz,Xy,Xx,ZJ,Qel,QlH,Qge,Qog,Qha,QnJ,Qfv,Qof,QeM,QlG,Qc1,Qgf,Qbv,Qg9,Qb6,Qg8,Qb5,Qg7,Qb4,Qfu,QaU,Qft,Qbu,Qdq,QaT,QaJ,ZM,QaI,ZL,Qg6,Qbt,Qd0,Qbs,QbK,Qb3,Qc0,Qal,Qci,Qbr,Z1,YZ,QdZ,Qbq,QeK,QaS,Qg5,Qb2,Qg4,Qb1,Zk,Qbw,false_implies,true_implies,true_and,and_true,not_true_eq_false,not_false_eq_true,Int.reduceBEq,nT,nF,decide_true,decide_false,lC,lN,cA,nA,aA,lA,List.getElem?_cons_zero,List.getElem?_cons_succ,List.set_cons_zero,List.set_cons_succ,tS,tZ,tN,List.drop_succ_cons,List.drop_zero,List.drop_nil,hi,hD,hsz,hk1,hk2]))
  refine ⟨_,_,Shift.drop (o':=_) (ZP (kG F.fmt v0 v1 v2 v3 v4 L++frZ v0 wg wb wu wp wm wh (y3 y 17 18 vr (some (.arr wW 49 (woC 17 wV n lk (QH L up H (ps.take i) 1 f 32) ws cnt sure))) (some (.arr ws 44 (QH L up H (ps.take i) 2 g cnt))) (some (.arr w21 64 (fl prC ps++cells)))) up L H b) [_]) (lR _) (zL _),?_,_,rfl⟩
  simp only [QF]; simp -implicitDefEqProofs (disch:=omega) only [go_sem,↓reduceIte,rq,and_true,e2]
 ·simp only [frZ,y3,woC,rq,if_true,if_false] at hD ⊢
  refine Qu 12 ?_
  refine yc ?_
  iterate 10 (try (refine Qb 4 ?_; simp -implicitDefEqProofs (disch:=omega) only [go_sem,↓reduceIte,reduceCtorEq,rA,rq,rL,zA,aZ,nF,lR,zL,QN,Qel,QbK,Z1,YZ,false_implies,true_implies,and_true,nF,lC,lN,cA,nA,aA,lA,tZ,List.drop_succ_cons,List.drop_nil,hD,hsz,hk1,hk2]))
  iterate 10 (try (refine Qb 4 ?_; simp -implicitDefEqProofs (disch:=omega) only [go_sem,Qf,↓reduceIte,reduceCtorEq,rA,rq,rL,rT,Nat.reduceSub,Nat.reduceMul,Int.reduceToNat,Int.reduceLE,Int.reduceLT,Int.reduceEq,Int.reduceNe,Nat.succ_ne_zero,zA,aZ,Nat.mul_one,Nat.one_mul,Nat.zero_mul,decide_true,decide_false,nT,nF,lR,zL,ge_iff_le,gt_iff_lt,Nat.reduceBEq,Nat.reduceBNe,beq_self_eq_true,bne_self_eq_false,Option.isSome_some,Option.isSome_none,Option.getD_some,Option.getD_none,X9,Xa,QN,relate_Fresh,Qdf,Qde,Qdd,Qdc,Qdb,Qda,Qb8,Qcz,Qcy,Qcx,Zp,Zo,YU,Zh,Zg,Zf,Ze,Zd,Zc,Zb,Za,YT,Yj,Ys,Yr,Yq,Zn,Xp,XD,XC,XB,XA,Xz,Xy,Xx,ZJ,Qel,QlH,Qge,Qog,Qha,QnJ,Qfv,Qof,QeM,QlG,Qc1,Qgf,Qbv,Qg9,Qb6,Qg8,Qb5,Qg7,Qb4,Qfu,QaU,Qft,Qbu,Qdq,QaT,QaJ,ZM,QaI,ZL,Qg6,Qbt,Qd0,Qbs,QbK,Qb3,Qc0,Qal,Qci,Qbr,Z1,YZ,QdZ,Qbq,QeK,QaS,Qg5,Qb2,Qg4,Qb1,Zk,Qbw,false_implies,true_implies,true_and,and_true,not_true_eq_false,not_false_eq_true,Int.reduceBEq,nT,nF,decide_true,decide_false,lC,lN,cA,nA,aA,lA,List.getElem?_cons_zero,List.getElem?_cons_succ,List.set_cons_zero,List.set_cons_succ,tS,tZ,tN,List.drop_succ_cons,List.drop_zero,List.drop_nil,hi,hD,hsz,hk1,hk2]))
  refine ⟨_,_,Shift.drop (o':=_) (ZP (kG F.fmt v0 v1 v2 v3 v4 L++frZ v0 wg wb wu wp wm wh (y3 y 18 17 vr (some (.arr wW 49 (woC 18 wV n lk (QH L up H (ps.take i) 1 f 32) ws cnt sure))) (some (.arr ws 44 (QH L up H (ps.take i) 2 g cnt))) (some (.arr w21 64 (fl prC ps++cells)))) up L H b) [_]) (lR _) (zL _),?_,_,rfl⟩
  simp only [QF]; simp -implicitDefEqProofs (disch:=omega) only [go_sem,↓reduceIte,rq,and_true,e2]
def Qdz:Nat→AC→AC
 | 0,c=>c
 | k+1,.seq _ c=>Qdz k c
 | _,c=>c
abbrev QhU (G:Nat→Option V) (Q:V→Am.H→Prop):=QCF G relate_Fresh.res Q
theorem QBL {kV wV n ws cnt:Nat} {lk:Int} {rg:List V} {sure:Bool} (h:rg.length=32):(woC kV wV n lk rg ws cnt sure).length=36:=by simp [woC,h]
theorem QvG {kV wV n ws cnt:Nat} {lk:Int} {L:List Nd} {up:List (Pr × Pr)} {H:List (Pr × Tm)} {l:List Pr} {k:Int} {f:Nat→Int} {sure:Bool}:ones (woC kV wV n lk (QH L up H l k f 32) ws cnt sure):=by
 intro c hc
 simp only [woC,QH,List.mem_cons,List.mem_append,List.mem_map,List.not_mem_nil,or_false] at hc
 rcases hc with rfl | rfl | ⟨r,_,rfl⟩ | rfl | rfl <;> rfl
theorem fr_D {fmt:Int→List UInt8} {v0 v1 v2 v3 v4 wg wb wu wp wm wh w8 kV kW wV wW ws t n cnt:Nat} {y:Nat→Option Ob} {vr sr row:Option Ob} {up up':List (Pr × Pr)} {b lk:Int} {L L':List Nd} {H H':List (Pr × Tm)} {l:List Pr} {f:Nat→Int} {sure:Bool} {z8:List V} {Q:V→Am.H→Prop}
 (hk:kV=17∧kW=18∨kV=18∧kW=17) (h8:y 8=some (.arr w8 49 z8)) (hz:z8.length=36)
 (hQ : ∀ y', Q (.tup [.agg (woC kV wV n lk (QH L' up' H' l 1 f 32) ws cnt sure), .int .i64 b]) ⟨t, kG fmt v0 v1 v2 v3 v4 L ++ frZ v0 wg wb wu wp wm wh (y3 y' kV kW vr (some (.arr wW 49 (woC kV wV n lk (QH L' up' H' l 1 f 32) ws cnt sure))) sr row) up L H b⟩) :
 W P G 157 0 (Qdz 12 relate_Fresh.body) [(12,.ptr 8 w8 0),(15,.ptr 16 wb 0),(16,.ptr kW wW 0)] ⟨t,kG fmt v0 v1 v2 v3 v4 L++frZ v0 wg wb wu wp wm wh (y3 y kV kW vr (some (.arr wW 49 (woC kV wV n lk (QH L' up' H' l 1 f 32) ws cnt sure))) sr row) up L H b⟩ (QhU G Q):=by
 have hlen:=QBL (kV:=kV) (wV:=wV) (n:=n) (ws:=ws) (cnt:=cnt) (lk:=lk) (sure:=sure) (Xa L' up' H' l 1 f 32)
 have hones:=QvG (kV:=kV) (wV:=wV) (n:=n) (lk:=lk) (L:=L') (up:=up') (H:=H') (l:=l) (k:=1) (f:=f) (ws:=ws) (cnt:=cnt) (sure:=sure)
 have hq:=hQ fun i=>if i=8 then some (.arr w8 49 (woC kV wV n lk (QH L' up' H' l 1 f 32) ws cnt sure)) else y i
 generalize woC kV wV n lk (QH L' up' H' l 1 f 32) ws cnt sure=wo at *
 have htk:List.take 36 wo=wo:=List.take_of_length_le (by omega)
 have hdz:List.drop 36 z8=[]:=List.drop_of_length_le (by omega)
 have happ:wo++List.drop 36 z8=wo:=by rw [hdz,List.append_nil]
 show W P G 157 0 (.seq (.reg ZJ [155,156]) .ret) _ _ _
 rcases hk with ⟨rfl,rfl⟩ | ⟨rfl,rfl⟩
 ·simp only [frZ,y3,h8,rq,if_true,if_false] at hq ⊢
  refine Qu 12 ?_
  simp -implicitDefEqProofs (disch:=omega) only [go_sem,↓reduceIte,reduceCtorEq,rq,zA,nF,lR,zL,relate_Fresh,Qdf,Qde,Qdd,Qdc,Qdb,Qda,Qb8,Qcz,Qcy,Qcx,Zp,Zo,YU,Zh,Zg,Zf,Ze,Zd,Zc,Zb,Za,YT,Yj,Ys,Yr,Yq,Zn,Xp,XD,XC,XB,XA,Xz,Xy,Xx,ZJ,Qof,QeM,Qdq,QaI,false_implies,true_implies,and_true,nF,lC,lN,nA,tZ,List.drop_zero,hlen,hones,htk,hz,hdz,QhU]
  repeat' (first | with_reducible refine And.intro ?_ ?_ | (refine Qb 12 ?_; simp -implicitDefEqProofs (disch:=omega) only [go_sem,Qf,↓reduceIte,reduceCtorEq,rA,rq,rL,rT,Nat.reduceSub,Nat.reduceMul,Int.reduceToNat,Int.reduceLE,Int.reduceLT,Int.reduceEq,Int.reduceNe,Nat.succ_ne_zero,zA,aZ,Nat.mul_one,Nat.one_mul,Nat.zero_mul,decide_true,decide_false,nT,nF,lR,zL,ge_iff_le,gt_iff_lt,Nat.reduceBEq,Nat.reduceBNe,beq_self_eq_true,bne_self_eq_false,Option.isSome_some,Option.isSome_none,Option.getD_some,Option.getD_none,X9,Xa,QN,relate_Fresh,Qdf,Qde,Qdd,Qdc,Qdb,Qda,Qb8,Qcz,Qcy,Qcx,Zp,Zo,YU,Zh,Zg,Zf,Ze,Zd,Zc,Zb,Za,YT,Yj,Ys,Yr,Yq,Zn,Xp,XD,XC,XB,XA,Xz,Xy,Xx,ZJ,Qel,QlH,Qge,Qog,Qha,QnJ,Qfv,Qof,QeM,QlG,Qc1,Qgf,Qbv,Qg9,Qb6,Qg8,Qb5,Qg7,Qb4,Qfu,QaU,Qft,Qbu,Qdq,QaT,QaJ,ZM,QaI,ZL,Qg6,Qbt,Qd0,Qbs,QbK,Qb3,Qc0,Qal,Qci,Qbr,Z1,YZ,QdZ,Qbq,QeK,QaS,Qg5,Qb2,Qg4,Qb1,Zk,Qbw,false_implies,true_implies,true_and,and_true,not_true_eq_false,not_false_eq_true,Int.reduceBEq,nT,nF,decide_true,decide_false,lC,lN,cA,nA,aA,lA,List.getElem?_cons_zero,List.getElem?_cons_succ,List.set_cons_zero,List.set_cons_succ,tS,tZ,tN,List.drop_succ_cons,List.drop_zero,List.drop_nil,hlen,hones,htk,hz,hdz,happ,QhU]))
  all_goals exact hq
 ·simp only [frZ,y3,h8,rq,if_true,if_false] at hq ⊢
  refine Qu 12 ?_
  simp -implicitDefEqProofs (disch:=omega) only [go_sem,↓reduceIte,reduceCtorEq,rq,zA,nF,lR,zL,relate_Fresh,Qdf,Qde,Qdd,Qdc,Qdb,Qda,Qb8,Qcz,Qcy,Qcx,Zp,Zo,YU,Zh,Zg,Zf,Ze,Zd,Zc,Zb,Za,YT,Yj,Ys,Yr,Yq,Zn,Xp,XD,XC,XB,XA,Xz,Xy,Xx,ZJ,Qof,QeM,Qdq,QaJ,false_implies,true_implies,and_true,nF,lC,lN,nA,tZ,List.drop_zero,hlen,hones,htk,hz,hdz,QhU]
  repeat' (first | with_reducible refine And.intro ?_ ?_ | (refine Qb 12 ?_; simp -implicitDefEqProofs (disch:=omega) only [go_sem,Qf,↓reduceIte,reduceCtorEq,rA,rq,rL,rT,Nat.reduceSub,Nat.reduceMul,Int.reduceToNat,Int.reduceLE,Int.reduceLT,Int.reduceEq,Int.reduceNe,Nat.succ_ne_zero,zA,aZ,Nat.mul_one,Nat.one_mul,Nat.zero_mul,decide_true,decide_false,nT,nF,lR,zL,ge_iff_le,gt_iff_lt,Nat.reduceBEq,Nat.reduceBNe,beq_self_eq_true,bne_self_eq_false,Option.isSome_some,Option.isSome_none,Option.getD_some,Option.getD_none,X9,Xa,QN,relate_Fresh,Qdf,Qde,Qdd,Qdc,Qdb,Qda,Qb8,Qcz,Qcy,Qcx,Zp,Zo,YU,Zh,Zg,Zf,Ze,Zd,Zc,Zb,Za,YT,Yj,Ys,Yr,Yq,Zn,Xp,XD,XC,XB,XA,Xz,Xy,Xx,ZJ,Qel,QlH,Qge,Qog,Qha,QnJ,Qfv,Qof,QeM,QlG,Qc1,Qgf,Qbv,Qg9,Qb6,Qg8,Qb5,Qg7,Qb4,Qfu,QaU,Qft,Qbu,Qdq,QaT,QaJ,ZM,QaI,ZL,Qg6,Qbt,Qd0,Qbs,QbK,Qb3,Qc0,Qal,Qci,Qbr,Z1,YZ,QdZ,Qbq,QeK,QaS,Qg5,Qb2,Qg4,Qb1,Zk,Qbw,false_implies,true_implies,true_and,and_true,not_true_eq_false,not_false_eq_true,Int.reduceBEq,nT,nF,decide_true,decide_false,lC,lN,cA,nA,aA,lA,List.getElem?_cons_zero,List.getElem?_cons_succ,List.set_cons_zero,List.set_cons_succ,tS,tZ,tN,List.drop_succ_cons,List.drop_zero,List.drop_nil,hlen,hones,htk,hz,hdz,happ,QhU]))
  all_goals exact hq
def vEs (i:Nat):List Pr:=(List.range i).map fun j:Nat=>vE ((j:Nat):Int)
theorem QvM (i:Nat):vEs (i+1)=vEs i++[vE ((i:Nat):Int)]:=by simp [vEs,List.range_succ]
theorem QBQ {i j:Nat} (h:j<i):vE ((j:Nat):Int)∈vEs i:=List.mem_map.2 ⟨j,List.mem_range.2 h,rfl⟩
def plE (l:List Pr):List Pr:=(l.filter fun p=>decide (p.k≠3)).map pE
theorem QB3 {l:List Pr} {x:Pr} (h:x.k=3):plE (l++[x])=plE l:=by simp [plE,List.filter_append,h]
theorem Qn2 {l:List Pr} {x:Pr} (h:x.k≠3):plE (l++[x])=plE l++[pE x]:=by simp [plE,List.filter_append,h]
theorem QB4 {l:List Pr} {x:Pr} (hx:x∈l) (h:x.k≠3):pE x∈plE l:=List.mem_map.2 ⟨x,List.mem_filter.2 ⟨hx,by simpa using h⟩,rfl⟩
theorem QB5 (l:List Pr):(plE l).length≤l.length:=by unfold plE; rw [lM]; exact List.length_filter_le _ _
theorem Qij (up:List (Pr × Pr)) (S:List (Pr × Tm) × Int) (es:List Pr) (e:Pr):asked up S (es++[e])=ofT up (asked up S es) e:=by simp [asked,List.foldl_append]
theorem Qt8 (up:List (Pr × Pr)) (S:List (Pr × Tm) × Int) (e:Pr):S.2≤(ofT up S e).2∧(ofT up S e).2≤S.2+1:=by
 unfold ofT; split
 ·exact ⟨by show S.2≤S.2+1; omega,Int.le_refl _⟩
 ·exact ⟨Int.le_refl _,by omega⟩
theorem QjP (up:List (Pr × Pr)):∀ (es:List Pr) (S:List (Pr × Tm) × Int),S.2≤(asked up S es).2∧(asked up S es).2≤S.2+(es.length:Nat)
 | [],S=>by simp [asked]
 | e::es,S=>by
   have h1:=Qt8 up S e
   have h2:=QjP up es (ofT up S e)
   have:asked up S (e::es)=asked up (ofT up S e) es:=rfl
   rw [this]
   simp only [lC]
   omega
theorem QhT {L L':List Nd} {up:List (Pr × Pr)} {S:List (Pr × Tm) × Int} {e:Pr} (hA:AllH L S.1) (hE:Ext L L') (h:(Re.get S.1 (Qj up e)).isSome) (es:List Pr):Qax L' up (asked up S es).1 e=Qax L up S.1 e:=by
 obtain ⟨t,ht⟩:=Option.isSome_iff_exists.1 h
 rw [XW ht,XW (Qa8 (up:=up) ht),Qdr (hA.get ht) hE]
theorem QrC {L L':List Nd} {up:List (Pr × Pr)} {S:List (Pr × Tm) × Int} {n:Nat} (hA:AllH L S.1) (hE:Ext L L') (h:∀ j,j<n→(Re.get S.1 (Qj up (vE ((j:Nat):Int)))).isSome) (es:List Pr):Yy L up S.1 n n=Yy L' up (asked up S es).1 n n:=by
 unfold Yy
 refine List.map_congr_left fun j hj=>?_
 have:=List.mem_range.1 hj
 rw [if_pos this,if_pos this,QhT hA hE (h j this)]
theorem Qab {L L':List Nd} {up up':List (Pr × Pr)} {H H':List (Pr × Tm)} {k:Int} {f:Nat→Int} {n:Nat}:QH L up H [] k f n=QH L' up' H' [] k f n:=by simp [QH]
def QDc (cnt:Nat) (x:Pr):Prop:=(x.k=1∧∃ r:Nat,x.n=((r:Nat):Int)∧r<32)∨(x.k=2∧∃ r:Nat,x.n=((r:Nat):Int)∧r<cnt)∨x.k=3
theorem fr_C3 (hT:Qw P tab) (F:Fmt P G) {v0 v1 v2 v3 v4 wg wb wu wp wm wh w21 w8 kV kW wV wW ws t n cnt:Nat} {y:Nat→Option Ob} {vr:Option Ob} {ps:List Pr} {cells:List V} {up:List (Pr × Pr)} {S:List (Pr × Tm) × Int} {lk:Int} {L:List Nd} {f g:Nat→Int} {sure:Bool} {z8:List V} {Q:V→Am.H→Prop}
 (hk:kV=17∧kW=18∨kV=18∧kW=17) (hf:Fst up) (hA:AllH L S.1) (hb:0≤S.2∧S.2≤1199023255552) (hL:L.length≤50000) (hl:ps.length≤1000) (hcnt:cnt≤100) (hps:∀ x∈ps,QDc cnt x) (h8:y 8=some (.arr w8 49 z8)) (hz:z8.length=36)
 (hQ : ∀ y' L' t' u2 u3 u4, Ext L L' → L'.length ≤ L.length + ps.length → AllH L' (asked up S (plE ps)).1 → Q (.tup [.agg (woC kV wV n lk (QH L' up (asked up S (plE ps)).1 ps 1 f 32) ws cnt sure), .int .i64 (asked up S (plE ps)).2]) ⟨t', kG F.fmt v0 v1 u2 u3 u4 L' ++ frZ v0 wg wb wu wp wm wh (y3 y' kV kW vr (some (.arr wW 49 (woC kV wV n lk (QH L' up (asked up S (plE ps)).1 ps 1 f 32) ws cnt sure))) (some (.arr ws 44 (QH L' up (asked up S (plE ps)).1 ps 2 g cnt))) (some (.arr w21 64 (fl prC ps ++ cells)))) up L' (asked up S (plE ps)).1 (asked up S (plE ps)).2⟩) :
 W P G 157 0 (Qdz 11 relate_Fresh.body) [(1,.sl 21 w21 0 3 ps.length none),(12,.ptr 8 w8 0),(15,.ptr 16 wb 0),(16,.ptr kW wW 0),(26,ofV wp wh wg wb)] ⟨t,kG F.fmt v0 v1 v2 v3 v4 L++frZ v0 wg wb wu wp wm wh (y3 y kV kW vr (some (.arr wW 49 (woC kV wV n lk (QH L up S.1 [] 1 f 32) ws cnt sure))) (some (.arr ws 44 (QH L up S.1 [] 2 g cnt))) (some (.arr w21 64 (fl prC ps++cells)))) up L S.1 S.2⟩ (QhU G Q):=by
 show W P G 157 0 (.seq (.seq (.reg Zn []) (.block 6 (.loop (AC.seq (AC.reg Xp [])   (AC.seq (AC.cond (Arg.t 121)   AC.skip   (AC.exit 6))   (AC.seq (AC.block 7 (AC.seq (AC.reg XD [122,123])   (AC.seq (AC.reg XC [124,125])   (AC.block 8 (AC.seq (AC.reg XB [128])   (AC.cond (Arg.t 127)   (AC.reg XA [129,130,131,132,133,134,135,136,137,138,139])   (AC.seq (AC.reg Xz [141])   (AC.cond (Arg.t 140)   (AC.reg Xy [142,143,144,145,146,147,148,149,150,151,152,153])   AC.skip))))))))   (AC.reg Xx [154]))))))) (Qdz 12 relate_Fresh.body)) _ _ _
 refine Qu 12 ?_
 simp -implicitDefEqProofs (disch:=omega) only [go_sem,↓reduceIte,rq,Zn]
 refine Qcd ps (fun i fr σ => ∃ L' t' u2 u3 u4, Ext L L' ∧ L'.length ≤ L.length + i ∧ AllH L' (asked up S (plE (ps.take i))).1 ∧ QF fr [(12, .ptr 8 w8 0), (15, .ptr 16 wb 0), (16, .ptr kW wW 0), (26, ofV wp wh wg wb), (118, .sl 21 w21 0 3 ps.length none), (119, .int .i64 ((ps.length : Nat) : Int)), (120, .int .i64 ((i : Nat) : Int))] ∧ σ = ⟨t', kG F.fmt v0 v1 u2 u3 u4 L' ++ frZ v0 wg wb wu wp wm wh (y3 y kV kW vr (some (.arr wW 49 (woC kV wV n lk (QH L' up (asked up S (plE (ps.take i))).1 (ps.take i) 1 f 32) ws cnt sure))) (some (.arr ws 44 (QH L' up (asked up S (plE (ps.take i))).1 (ps.take i) 2 g cnt))) (some (.arr w21 64 (fl prC ps ++ cells)))) up L' (asked up S (plE (ps.take i))).1 (asked up S (plE (ps.take i))).2⟩)
  (fun e fr σ => e = .ex 6 ∧ ∃ L' t' u2 u3 u4, Ext L L' ∧ L'.length ≤ L.length + ps.length ∧ AllH L' (asked up S (plE ps)).1 ∧ QF fr [(12, .ptr 8 w8 0), (15, .ptr 16 wb 0), (16, .ptr kW wW 0), (26, ofV wp wh wg wb), (118, .sl 21 w21 0 3 ps.length none), (119, .int .i64 ((ps.length : Nat) : Int))] ∧ σ = ⟨t', kG F.fmt v0 v1 u2 u3 u4 L' ++ frZ v0 wg wb wu wp wm wh (y3 y kV kW vr (some (.arr wW 49 (woC kV wV n lk (QH L' up (asked up S (plE ps)).1 ps 1 f 32) ws cnt sure))) (some (.arr ws 44 (QH L' up (asked up S (plE ps)).1 ps 2 g cnt))) (some (.arr w21 64 (fl prC ps ++ cells)))) up L' (asked up S (plE ps)).1 (asked up S (plE ps)).2⟩)
  ⟨L,t,v2,v3,v4,Ext.refl L,by omega,hA,?_,rfl⟩ (fun i x hx fr σ hJ=>?_) (fun i hi fr σ hJ=>?_) (fun e fr σ hE=>?_)
 ·simp only [QF]; simp -implicitDefEqProofs (disch:=omega) only [go_sem,↓reduceIte,rq]; try rfl
 ·obtain ⟨L1,t1,u2,u3,u4,hE,hLl,hA1,hh,rfl⟩:=hJ
  have hi:=(List.getElem?_eq_some_iff.1 hx).1
  have hxm:=List.mem_of_getElem? hx
  have hg:Got up (asked up S (plE (ps.take i))).1 (ps.take i):=fun p hp hp3=>Qhq (QB4 hp hp3)
  have hle:=QjP up (plE (ps.take i)) S
  have hpl:(plE (ps.take i)).length≤1000:=Nat.le_trans (QB5 _) (by rw [List.length_take]; omega)
  rcases hps x hxm with ⟨h1,r,hr,hr2⟩ | ⟨h1,r,hr,hr2⟩ | h3
  ·have hS:asked up S (plE (ps.take (i+1)))=ofT up (asked up S (plE (ps.take i))) (pE x):=by rw [QJ hx,Qn2 (by omega),Qij]
   refine (Y9 _ hh (QCq hT F hk hf hA1 (by omega) (by omega) hx hl hg h1 hr hr2)).conseq fun e fr σ h=>?_
   cases e with
   | nrm =>
     obtain ⟨fr', σ', q1, q2, L2, t2, w2, w3, w4, q3, q4, q5, q6⟩ := h
     exact ⟨fr', σ', q1, L2, t2, w2, w3, w4, hE.trans q3, by omega, by rw [hS]; exact q5, q2, by rw [hS]; exact q6⟩
   | ex id=>exact h.elim
   | ret=>exact h.elim
  ·have hS:asked up S (plE (ps.take (i+1)))=ofT up (asked up S (plE (ps.take i))) (pE x):=by rw [QJ hx,Qn2 (by omega),Qij]
   rcases hk with hk' | hk'
   ·refine (Y9 _ hh (Quy hT F hk' hf hA1 (by omega) (by omega) hx hl hg h1 hr hr2 hcnt)).conseq fun e fr σ h=>?_
    cases e with
    | nrm =>
      obtain ⟨fr', σ', q1, q2, L2, t2, w2, w3, w4, q3, q4, q5, q6⟩ := h
      exact ⟨fr', σ', q1, L2, t2, w2, w3, w4, hE.trans q3, by omega, by rw [hS]; exact q5, q2, by rw [hS]; exact q6⟩
    | ex id=>exact h.elim
    | ret=>exact h.elim
   ·refine (Y9 _ hh (Qux hT F hk' hf hA1 (by omega) (by omega) hx hl hg h1 hr hr2 hcnt)).conseq fun e fr σ h=>?_
    cases e with
    | nrm =>
      obtain ⟨fr', σ', q1, q2, L2, t2, w2, w3, w4, q3, q4, q5, q6⟩ := h
      exact ⟨fr', σ', q1, L2, t2, w2, w3, w4, hE.trans q3, by omega, by rw [hS]; exact q5, q2, by rw [hS]; exact q6⟩
    | ex id=>exact h.elim
    | ret=>exact h.elim
  ·have hS:asked up S (plE (ps.take (i+1)))=asked up S (plE (ps.take i)):=by rw [QJ hx,QB3 h3]
   refine (Y9 _ hh (QCr (r:=0) hT F hk hf hA1 (by omega) (by omega) hx hl hg h3)).conseq fun e fr σ h=>?_
   cases e with
   | nrm =>
     obtain ⟨fr', σ', q1, q2, t2, q6⟩ := h
     exact ⟨fr', σ', q1, L1, t2, u2, u3, u4, hE, by omega, by rw [hS]; exact hA1, q2, by rw [hS]; exact q6⟩
   | ex id=>exact h.elim
   | ret=>exact h.elim
 ·obtain ⟨L1,t1,u2,u3,u4,hE,hLl,hA1,hh,rfl⟩:=hJ
  rw [hi,List.take_length] at hA1 ⊢
  refine QU _ hh 12 ?_
  simp -implicitDefEqProofs (disch:=omega) only [go_sem,↓reduceIte,rq,decide_false,Xp,hi,Nat.lt_irrefl]
  refine ⟨L1,t1,u2,u3,u4,hE,by omega,hA1,?_,rfl,rfl⟩
  simp only [QF]; simp -implicitDefEqProofs (disch:=omega) only [go_sem,↓reduceIte,rq]
 ·obtain ⟨rfl,L1,t1,u2,u3,u4,hE,hLl,hA1,hh,rfl⟩:=hE
  refine QgR [(12,.ptr 8 w8 0),(15,.ptr 16 wb 0),(16,.ptr kW wW 0)] ?_ (fr_D hk h8 hz fun y'=>hQ y' L1 t1 u2 u3 u4 hE hLl hA1)
  simp only [QF] at hh ⊢
  exact ⟨hh.1,hh.2.1,hh.2.2.1,trivial⟩
end Go.Proofs.YtfgccihafnjalaaGreatDoor
