/- Contracts: odd, either, one of two. -/
import Derived.Test.YtoeicjlflmmmcaaGreatDoorJ4
import Derived.Test.YtoeicjlflmmmcaaGreatDoorAmD
open Nat renaming reduceEqDiff → rq, reduceAdd → rA, reduceLeDiff → rL, reduceLT → rT, zero_add → zA, le_refl → lR, zero_le → zL, add_zero → aZ
open List renaming length_cons → lC, length_nil → lN, take_succ_cons → tSq, length_append → lA, nil_append → nA, cons_append → cA, append_assoc → aA, take_nil → tN, take_zero → tZ, length_map → lM
open Bool renaming not_false → nFq, not_true → nT
namespace Go.Proofs.YtoeicjlflmmmcaaGreatDoor
open Go Go.Am Go.Bl
set_option maxRecDepth 100000
variable {P:Program} {G:Nat→Option V} {I:Int→Int→Bool}
set_option maxHeartbeats 2000000
section
attribute [local go_sem] cA lC lN List.map_cons List.map_nil nA lR zA and_true Q8 Qau beq_self_eq_true Zo QFu QFt YT QCz QCy XM QFs QFr QvI QvH QvG QvF QvE QvD QvC QvB QvA QFq QFp QFo QFn QFm QFl QFk QFj decide_false decide_true false_implies gt_iff_lt not_false_eq_true true_and true_implies
structure Rd (I:Int→Int→Bool) (S:St) (c g:Nat):Prop where
 ok:Ok I S
 cl:S.cs.length+c≤1048576
 gl:S.gs.length+g≤9000000
variable {c c' g' t:Nat} {S:St}
theorem Rd.go {S':St} {g n m:Nat} (h:Rd I S c g) (k:Goes I n m S S') (hc:n+c'≤c) (hg:m+g'≤g):Rd I S' c' g' :=
 ⟨k.ok,by have:=k.cl; have:=h.cl; omega,by have:=k.gl; have:=h.gl; omega⟩
theorem Rd.less {g:Nat} (h:Rd I S c g) (hc:c'≤c) (hg:g'≤g):Rd I S c' g':=⟨h.ok,by have:=h.cl; omega,by have:=h.gl; omega⟩
theorem Rd.sm {S:St} {c g:Nat} {x:Int} (h:Rd I S c g) (k:lit S.gs.length x):sm x:=by
 have:=h.gl
 obtain ⟨k1,k2,k3⟩:=k
 unfold Go.Proofs.YtoeicjlflmmmcaaGreatDoor.sm
 omega
theorem Rd.pos {S:St} {c g:Nat} (h:Rd I S c g):1≤S.gs.length:=h.ok.wf.pos
theorem Rd.lt {g:Nat} (h:Rd I S c g):S.gs.length<10000000:=by have:=h.gl; omega
variable {x y:Int} {E:Ev} {K:List (Int × List Int)} {B:Bv} {g:Gr}
theorem QAe (hT:Qe P tab) (h:Rd I S 3 1) (hx:lit S.gs.length x) (hy:lit S.gs.length y) :
 C P G 5 Zg [.ptr 7 g.b 0,.int .i64 x,.int .i64 y] ⟨t,bH g B S K E⟩ fun v σ=>v=.int .i64 (Qd3 S x y).1∧∃ t' B',t≤t'∧σ=⟨t',bH g B' (Qd3 S x y).2 K E⟩ :=
 c_and hT h.pos h.lt h.cl (h.sm hx) (h.sm hy)
theorem w_1 {v:Int} (h:sm v):IntKind.i64.wrap (v * -1)=-v:=by unfold sm at h; rw [wrap_i64 (by omega) (by omega)]; omega
theorem w_2 {v:Int} (h:sm v):IntKind.i64.wrap (-v)=-v:=by unfold sm at h; exact wrap_i64 (by omega) (by omega)
theorem w_3 {v:Int} (h:sm v):IntKind.i64.wrap v=v:=by unfold sm at h; exact wrap_i64 (by omega) (by omega)
theorem QAN (hT:Qe P tab) (hp:1≤S.gs.length) (hg:S.gs.length<10000000) (hc:S.cs.length+4≤1048576) (hx:sm x) (hy:sm y) (hx0:¬ x<0) (hy0:¬ y<0) :
 C P G 5 Xz [.ptr 7 g.b 0,.int .i64 x,.int .i64 y] ⟨t,bH g B S K E⟩ fun v σ=>v=.int .i64 (Qd5 S x y).1∧∃ t' B',t≤t'∧σ=⟨t',bH g B' (Qd5 S x y).2 K E⟩:=by
 have nx:=wng hx
 have ny:=wng hy
 have done0:∃ t' B',t≤t'∧t=t'∧bH g B S K E=bH g B' S K E:=⟨t,B,lR _,rfl,rfl⟩
 have ax:ab x=x:=if_neg hx0
 have ay:ab y=y:=if_neg hy0
 have as:sg x * sg y=1:=by unfold sg; rw [if_neg hx0,if_neg hy0]; rfl
 have sa:sm x:=by unfold sm at *; omega
 have sb:sm y:=by unfold sm at *; omega
 have na:=wng sa
 have nb:=wng sb
 have wa:=w_1 (v:=-x) (by unfold sm at *; omega)
 have wb:=w_1 (v:=-y) (by unfold sm at *; omega)
 have va:=w_2 sa
 have vb:=w_2 sb
 have ua:=w_3 sa
 have ub:=w_3 sb
 have w01:IntKind.i64.wrap (0 - 1)=-1:=by decide
 have w02:IntKind.i64.wrap (0 - -1)=1:=by decide
 have q1:IntKind.i64.wrap (-1 * 1)=-1 * 1:=by decide
 have qa:IntKind.i64.wrap (-x * 1)=-x * 1:=by unfold sm at sa; exact wrap_i64 (by omega) (by omega)
 have qb:IntKind.i64.wrap (-y * 1)=-y * 1:=by unfold sm at sb; exact wrap_i64 (by omega) (by omega)
 refine Qj 12 (by decide) (Qo hT Xa (by simp [XM]) (Qm 1000 ?_))
 unfold Qd5
 rw [ax,ay,as]
 by_cases h1:x=y
 ·rw [if_pos h1]
  have d1:decide (x=y)=true:=decide_eq_true h1
  simp -implicitDefEqProofs (disch:=omega) only [go_sem,↓reduceIte,reduceCtorEq,rA,rq,rL,hx0,hy0,nx,ny,q1]
  first | exact done0 | exact ⟨fun _=>done0,fun h=>absurd h1 h⟩
 have d1:decide (x=y)=false:=decide_eq_false h1
 rw [if_neg h1]
 by_cases h2:x=1
 ·rw [if_pos h2]
  have e1:¬ 1=y:=h2▸h1
  have e2:decide (1=y)=false:=decide_eq_false e1
  simp -implicitDefEqProofs (disch:=omega) only [go_sem,↓reduceIte,reduceCtorEq,rA,rq,Int.reduceLT,hy0,ny,h2,qb,e1]
  first | exact done0
 rw [if_neg h2]
 by_cases h3:y=1
 ·rw [if_pos h3]
  simp -implicitDefEqProofs (disch:=omega) only [go_sem,↓reduceIte,reduceCtorEq,rA,rq,Int.reduceLT,hx0,nx,w01,h2,h3,qa]
  first | exact done0
 rw [if_neg h3]
 have hM:=fun t=>QmA (P:=P) (G:=G) (B:=B) (K:=K) (E:=E) (t:=t) hT (g:=g) (S:=S) ⟨2,min x y,max x y⟩ hp hg
 simp only [Gtc] at hM
 simp -implicitDefEqProofs (disch:=omega) only [go_sem,↓reduceIte,reduceCtorEq,rA,rq,rL,hx0,hy0,nx,ny,h1,h2,h3]
 rw [Qpu,Qpv]
 refine call hT Xm (hM t) 1000 fun v σ hv=>?_
 obtain ⟨rfl,t1,B1,ht1,rfl⟩:=hv
 obtain ⟨m1,m2,m3,m4⟩:=Qpc S.gs ⟨2,min x y,max x y⟩
 generalize mkG S.gs ⟨2,min x y,max x y⟩=q at m1 m2 m3 m4 ⊢
 obtain ⟨v,fr,gs⟩:=q
 simp only at m1 m2 m3 m4
 have sv:sm v:=by unfold sm; omega
 have nv:=wng sv
 have qv:IntKind.i64.wrap (v * 1)=v * 1:=by unfold sm at sv; exact wrap_i64 (by omega) (by omega)
 cases fr with
 | false =>
   simp -implicitDefEqProofs (disch:=omega) only [go_sem,↓reduceIte,reduceCtorEq,rA,rq,rT,put,Bool.false_eq_true,qv]
   first | exact ⟨t1,B1,ht1,rfl,rfl⟩
 | true =>
   have hA:=fun t B (cs:List (List Int)) l (h:cs.length<1048576)=>QrU (P:=P) (G:=G) (g:=g) (B:=B) (K:=K) (E:=E) (t:=t) (S:=⟨gs,cs⟩) hT l h
   have hA1:=fun t B=>hA t B S.cs [-v,x,y] (by omega)
   have hA2:=fun t B=>hA t B (S.cs++[[-v,x,y]]) [-v,-x,-y] (by simp; omega)
   have hA3:=fun t B=>hA t B (S.cs++[[-v,x,y]]++[[-v,-x,-y]]) [v,-x,y] (by simp; omega)
   have hA4:=fun t B=>hA t B (S.cs++[[-v,x,y]]++[[-v,-x,-y]]++[[v,-x,y]]) [v,x,-y] (by simp; omega)
   simp only [trw,List.map_cons,List.map_nil] at hA1 hA2 hA3 hA4
   simp -implicitDefEqProofs (disch:=omega) only [go_sem,↓reduceIte,reduceCtorEq,rA,rq,rL,rT,nv]
   refine call hT Qk (hA1 _ _) 1000 fun v2 σ hv=>?_
   obtain ⟨rfl,t2,B2,ht2,rfl⟩:=hv
   simp -implicitDefEqProofs (disch:=omega) only [go_sem,↓reduceIte,reduceCtorEq,rA,rq,rL,nv,na,nb]
   refine call hT Qk (hA2 _ _) 1000 fun v2 σ hv=>?_
   obtain ⟨rfl,t3,B3,ht3,rfl⟩:=hv
   simp -implicitDefEqProofs (disch:=omega) only [go_sem,↓reduceIte,reduceCtorEq,rA,rq,rL,na]
   refine call hT Qk (hA3 _ _) 1000 fun v2 σ hv=>?_
   obtain ⟨rfl,t4,B4,ht4,rfl⟩:=hv
   simp -implicitDefEqProofs (disch:=omega) only [go_sem,↓reduceIte,reduceCtorEq,rA,rq,rL,nb]
   refine call hT Qk (hA4 _ _) 1000 fun v2 σ hv=>?_
   obtain ⟨rfl,t5,B5,ht5,rfl⟩:=hv
   simp -implicitDefEqProofs (disch:=omega) only [go_sem,↓reduceIte,reduceCtorEq,rq,put,aA,qv]
   first | exact ⟨t5,B5,by omega,rfl,rfl⟩
theorem QAP (hT:Qe P tab) (hp:1≤S.gs.length) (hg:S.gs.length<10000000) (hc:S.cs.length+4≤1048576) (hx:sm x) (hy:sm y) (hx0:x<0) (hy0:¬ y<0) :
 C P G 5 Xz [.ptr 7 g.b 0,.int .i64 x,.int .i64 y] ⟨t,bH g B S K E⟩ fun v σ=>v=.int .i64 (Qd5 S x y).1∧∃ t' B',t≤t'∧σ=⟨t',bH g B' (Qd5 S x y).2 K E⟩:=by
 have nx:=wng hx
 have ny:=wng hy
 have done0:∃ t' B',t≤t'∧t=t'∧bH g B S K E=bH g B' S K E:=⟨t,B,lR _,rfl,rfl⟩
 have ax:ab x=-x:=if_pos hx0
 have ay:ab y=y:=if_neg hy0
 have as:sg x * sg y=-1:=by unfold sg; rw [if_pos hx0,if_neg hy0]; rfl
 obtain ⟨a,ha⟩:∃ a,a=-x:=⟨_,rfl⟩
 have sa:sm a:=by unfold sm at *; omega
 have sb:sm y:=by unfold sm at *; omega
 have na:=wng sa
 have nb:=wng sb
 have wa:=w_1 (v:=-a) (by unfold sm at *; omega)
 have wb:=w_1 (v:=-y) (by unfold sm at *; omega)
 have va:=w_2 sa
 have vb:=w_2 sb
 have ua:=w_3 sa
 have ub:=w_3 sb
 have w01:IntKind.i64.wrap (0 - 1)=-1:=by decide
 have w02:IntKind.i64.wrap (0 - -1)=1:=by decide
 have q1:IntKind.i64.wrap (-1 * -1)=-1 * -1:=by decide
 have qa:IntKind.i64.wrap (-a * -1)=-a * -1:=by unfold sm at sa; exact wrap_i64 (by omega) (by omega)
 have qb:IntKind.i64.wrap (-y * -1)=-y * -1:=by unfold sm at sb; exact wrap_i64 (by omega) (by omega)
 refine Qj 12 (by decide) (Qo hT Xa (by simp [XM]) (Qm 1000 ?_))
 unfold Qd5
 rw [ax,ay,as,← ha]
 by_cases h1:a=y
 ·rw [if_pos h1]
  have d1:decide (a=y)=true:=decide_eq_true h1
  simp -implicitDefEqProofs (disch:=omega) only [go_sem,↓reduceIte,reduceCtorEq,rA,rq,rL,hx0,hy0,nx,ny,w01,← ha,q1]
  first | exact done0 | exact ⟨fun _=>done0,fun h=>absurd h1 h⟩
 have d1:decide (a=y)=false:=decide_eq_false h1
 rw [if_neg h1]
 by_cases h2:a=1
 ·rw [if_pos h2]
  have e1:¬ 1=y:=h2▸h1
  have e2:decide (1=y)=false:=decide_eq_false e1
  simp -implicitDefEqProofs (disch:=omega) only [go_sem,↓reduceIte,reduceCtorEq,rA,rq,hx0,hy0,nx,ny,w01,← ha,h2,qb,e1]
  first | exact done0
 rw [if_neg h2]
 by_cases h3:y=1
 ·rw [if_pos h3]
  simp -implicitDefEqProofs (disch:=omega) only [go_sem,↓reduceIte,reduceCtorEq,rA,rq,Int.reduceLT,hx0,nx,w01,← ha,h2,h3,na,qa]
  first | exact done0
 rw [if_neg h3]
 have hM:=fun t=>QmA (P:=P) (G:=G) (B:=B) (K:=K) (E:=E) (t:=t) hT (g:=g) (S:=S) ⟨2,min a y,max a y⟩ hp hg
 simp only [Gtc] at hM
 simp -implicitDefEqProofs (disch:=omega) only [go_sem,↓reduceIte,reduceCtorEq,rA,rq,rL,hx0,hy0,nx,ny,w01,← ha,h1,h2,h3]
 rw [Qpu,Qpv]
 refine call hT Xm (hM t) 1000 fun v σ hv=>?_
 obtain ⟨rfl,t1,B1,ht1,rfl⟩:=hv
 obtain ⟨m1,m2,m3,m4⟩:=Qpc S.gs ⟨2,min a y,max a y⟩
 generalize mkG S.gs ⟨2,min a y,max a y⟩=q at m1 m2 m3 m4 ⊢
 obtain ⟨v,fr,gs⟩:=q
 simp only at m1 m2 m3 m4
 have sv:sm v:=by unfold sm; omega
 have nv:=wng sv
 have qv:IntKind.i64.wrap (v * -1)=v * -1:=by unfold sm at sv; exact wrap_i64 (by omega) (by omega)
 cases fr with
 | false =>
   simp -implicitDefEqProofs (disch:=omega) only [go_sem,↓reduceIte,reduceCtorEq,rA,rq,rT,put,Bool.false_eq_true,qv]
   first | exact ⟨t1,B1,ht1,rfl,rfl⟩
 | true =>
   have hA:=fun t B (cs:List (List Int)) l (h:cs.length<1048576)=>QrU (P:=P) (G:=G) (g:=g) (B:=B) (K:=K) (E:=E) (t:=t) (S:=⟨gs,cs⟩) hT l h
   have hA1:=fun t B=>hA t B S.cs [-v,a,y] (by omega)
   have hA2:=fun t B=>hA t B (S.cs++[[-v,a,y]]) [-v,-a,-y] (by simp; omega)
   have hA3:=fun t B=>hA t B (S.cs++[[-v,a,y]]++[[-v,-a,-y]]) [v,-a,y] (by simp; omega)
   have hA4:=fun t B=>hA t B (S.cs++[[-v,a,y]]++[[-v,-a,-y]]++[[v,-a,y]]) [v,a,-y] (by simp; omega)
   simp only [trw,List.map_cons,List.map_nil] at hA1 hA2 hA3 hA4
   simp -implicitDefEqProofs (disch:=omega) only [go_sem,↓reduceIte,reduceCtorEq,rA,rq,rL,rT,nv]
   refine call hT Qk (hA1 _ _) 1000 fun v2 σ hv=>?_
   obtain ⟨rfl,t2,B2,ht2,rfl⟩:=hv
   simp -implicitDefEqProofs (disch:=omega) only [go_sem,↓reduceIte,reduceCtorEq,rA,rq,rL,nv,na,nb]
   refine call hT Qk (hA2 _ _) 1000 fun v2 σ hv=>?_
   obtain ⟨rfl,t3,B3,ht3,rfl⟩:=hv
   simp -implicitDefEqProofs (disch:=omega) only [go_sem,↓reduceIte,reduceCtorEq,rA,rq,rL,na]
   refine call hT Qk (hA3 _ _) 1000 fun v2 σ hv=>?_
   obtain ⟨rfl,t4,B4,ht4,rfl⟩:=hv
   simp -implicitDefEqProofs (disch:=omega) only [go_sem,↓reduceIte,reduceCtorEq,rA,rq,rL,nb]
   refine call hT Qk (hA4 _ _) 1000 fun v2 σ hv=>?_
   obtain ⟨rfl,t5,B5,ht5,rfl⟩:=hv
   simp -implicitDefEqProofs (disch:=omega) only [go_sem,↓reduceIte,reduceCtorEq,rq,put,aA,qv]
   first | exact ⟨t5,B5,by omega,rfl,rfl⟩
theorem QAO (hT:Qe P tab) (hp:1≤S.gs.length) (hg:S.gs.length<10000000) (hc:S.cs.length+4≤1048576) (hx:sm x) (hy:sm y) (hx0:¬ x<0) (hy0:y<0) :
 C P G 5 Xz [.ptr 7 g.b 0,.int .i64 x,.int .i64 y] ⟨t,bH g B S K E⟩ fun v σ=>v=.int .i64 (Qd5 S x y).1∧∃ t' B',t≤t'∧σ=⟨t',bH g B' (Qd5 S x y).2 K E⟩:=by
 have nx:=wng hx
 have ny:=wng hy
 have done0:∃ t' B',t≤t'∧t=t'∧bH g B S K E=bH g B' S K E:=⟨t,B,lR _,rfl,rfl⟩
 have ax:ab x=x:=if_neg hx0
 have ay:ab y=-y:=if_pos hy0
 have as:sg x * sg y=-1:=by unfold sg; rw [if_neg hx0,if_pos hy0]; rfl
 obtain ⟨b,hb⟩:∃ b,b=-y:=⟨_,rfl⟩
 have sa:sm x:=by unfold sm at *; omega
 have sb:sm b:=by unfold sm at *; omega
 have na:=wng sa
 have nb:=wng sb
 have wa:=w_1 (v:=-x) (by unfold sm at *; omega)
 have wb:=w_1 (v:=-b) (by unfold sm at *; omega)
 have va:=w_2 sa
 have vb:=w_2 sb
 have ua:=w_3 sa
 have ub:=w_3 sb
 have w01:IntKind.i64.wrap (0 - 1)=-1:=by decide
 have w02:IntKind.i64.wrap (0 - -1)=1:=by decide
 have q1:IntKind.i64.wrap (-1 * -1)=-1 * -1:=by decide
 have qa:IntKind.i64.wrap (-x * -1)=-x * -1:=by unfold sm at sa; exact wrap_i64 (by omega) (by omega)
 have qb:IntKind.i64.wrap (-b * -1)=-b * -1:=by unfold sm at sb; exact wrap_i64 (by omega) (by omega)
 refine Qj 12 (by decide) (Qo hT Xa (by simp [XM]) (Qm 1000 ?_))
 unfold Qd5
 rw [ax,ay,as,← hb]
 by_cases h1:x=b
 ·rw [if_pos h1]
  have d1:decide (x=b)=true:=decide_eq_true h1
  simp -implicitDefEqProofs (disch:=omega) only [go_sem,↓reduceIte,reduceCtorEq,rA,rq,rL,hx0,hy0,nx,ny,w01,← hb,q1]
  first | exact done0 | exact ⟨fun _=>done0,fun h=>absurd h1 h⟩
 have d1:decide (x=b)=false:=decide_eq_false h1
 rw [if_neg h1]
 by_cases h2:x=1
 ·rw [if_pos h2]
  have e1:¬ 1=b:=h2▸h1
  have e2:decide (1=b)=false:=decide_eq_false e1
  simp -implicitDefEqProofs (disch:=omega) only [go_sem,↓reduceIte,reduceCtorEq,rA,rq,Int.reduceLT,hy0,ny,w01,← hb,h2,nb,qb,e1]
  first | exact done0
 rw [if_neg h2]
 by_cases h3:b=1
 ·rw [if_pos h3]
  simp -implicitDefEqProofs (disch:=omega) only [go_sem,↓reduceIte,reduceCtorEq,rA,rq,hx0,hy0,nx,ny,w01,← hb,h2,h3,qa]
  first | exact done0
 rw [if_neg h3]
 have hM:=fun t=>QmA (P:=P) (G:=G) (B:=B) (K:=K) (E:=E) (t:=t) hT (g:=g) (S:=S) ⟨2,min x b,max x b⟩ hp hg
 simp only [Gtc] at hM
 simp -implicitDefEqProofs (disch:=omega) only [go_sem,↓reduceIte,reduceCtorEq,rA,rq,rL,hx0,hy0,nx,ny,w01,← hb,h1,h2,h3]
 rw [Qpu,Qpv]
 refine call hT Xm (hM t) 1000 fun v σ hv=>?_
 obtain ⟨rfl,t1,B1,ht1,rfl⟩:=hv
 obtain ⟨m1,m2,m3,m4⟩:=Qpc S.gs ⟨2,min x b,max x b⟩
 generalize mkG S.gs ⟨2,min x b,max x b⟩=q at m1 m2 m3 m4 ⊢
 obtain ⟨v,fr,gs⟩:=q
 simp only at m1 m2 m3 m4
 have sv:sm v:=by unfold sm; omega
 have nv:=wng sv
 have qv:IntKind.i64.wrap (v * -1)=v * -1:=by unfold sm at sv; exact wrap_i64 (by omega) (by omega)
 cases fr with
 | false =>
   simp -implicitDefEqProofs (disch:=omega) only [go_sem,↓reduceIte,reduceCtorEq,rA,rq,rT,put,Bool.false_eq_true,qv]
   first | exact ⟨t1,B1,ht1,rfl,rfl⟩
 | true =>
   have hA:=fun t B (cs:List (List Int)) l (h:cs.length<1048576)=>QrU (P:=P) (G:=G) (g:=g) (B:=B) (K:=K) (E:=E) (t:=t) (S:=⟨gs,cs⟩) hT l h
   have hA1:=fun t B=>hA t B S.cs [-v,x,b] (by omega)
   have hA2:=fun t B=>hA t B (S.cs++[[-v,x,b]]) [-v,-x,-b] (by simp; omega)
   have hA3:=fun t B=>hA t B (S.cs++[[-v,x,b]]++[[-v,-x,-b]]) [v,-x,b] (by simp; omega)
   have hA4:=fun t B=>hA t B (S.cs++[[-v,x,b]]++[[-v,-x,-b]]++[[v,-x,b]]) [v,x,-b] (by simp; omega)
   simp only [trw,List.map_cons,List.map_nil] at hA1 hA2 hA3 hA4
   simp -implicitDefEqProofs (disch:=omega) only [go_sem,↓reduceIte,reduceCtorEq,rA,rq,rL,rT,nv]
   refine call hT Qk (hA1 _ _) 1000 fun v2 σ hv=>?_
   obtain ⟨rfl,t2,B2,ht2,rfl⟩:=hv
   simp -implicitDefEqProofs (disch:=omega) only [go_sem,↓reduceIte,reduceCtorEq,rA,rq,rL,nv,na,nb]
   refine call hT Qk (hA2 _ _) 1000 fun v2 σ hv=>?_
   obtain ⟨rfl,t3,B3,ht3,rfl⟩:=hv
   simp -implicitDefEqProofs (disch:=omega) only [go_sem,↓reduceIte,reduceCtorEq,rA,rq,rL,na]
   refine call hT Qk (hA3 _ _) 1000 fun v2 σ hv=>?_
   obtain ⟨rfl,t4,B4,ht4,rfl⟩:=hv
   simp -implicitDefEqProofs (disch:=omega) only [go_sem,↓reduceIte,reduceCtorEq,rA,rq,rL,nb]
   refine call hT Qk (hA4 _ _) 1000 fun v2 σ hv=>?_
   obtain ⟨rfl,t5,B5,ht5,rfl⟩:=hv
   simp -implicitDefEqProofs (disch:=omega) only [go_sem,↓reduceIte,reduceCtorEq,rq,put,aA,qv]
   first | exact ⟨t5,B5,by omega,rfl,rfl⟩
theorem QAQ (hT:Qe P tab) (hp:1≤S.gs.length) (hg:S.gs.length<10000000) (hc:S.cs.length+4≤1048576) (hx:sm x) (hy:sm y) (hx0:x<0) (hy0:y<0) :
 C P G 5 Xz [.ptr 7 g.b 0,.int .i64 x,.int .i64 y] ⟨t,bH g B S K E⟩ fun v σ=>v=.int .i64 (Qd5 S x y).1∧∃ t' B',t≤t'∧σ=⟨t',bH g B' (Qd5 S x y).2 K E⟩:=by
 have nx:=wng hx
 have ny:=wng hy
 have done0:∃ t' B',t≤t'∧t=t'∧bH g B S K E=bH g B' S K E:=⟨t,B,lR _,rfl,rfl⟩
 have ax:ab x=-x:=if_pos hx0
 have ay:ab y=-y:=if_pos hy0
 have as:sg x * sg y=1:=by unfold sg; rw [if_pos hx0,if_pos hy0]; rfl
 obtain ⟨a,ha⟩:∃ a,a=-x:=⟨_,rfl⟩
 obtain ⟨b,hb⟩:∃ b,b=-y:=⟨_,rfl⟩
 have sa:sm a:=by unfold sm at *; omega
 have sb:sm b:=by unfold sm at *; omega
 have na:=wng sa
 have nb:=wng sb
 have wa:=w_1 (v:=-a) (by unfold sm at *; omega)
 have wb:=w_1 (v:=-b) (by unfold sm at *; omega)
 have va:=w_2 sa
 have vb:=w_2 sb
 have ua:=w_3 sa
 have ub:=w_3 sb
 have w01:IntKind.i64.wrap (0 - 1)=-1:=by decide
 have w02:IntKind.i64.wrap (0 - -1)=1:=by decide
 have q1:IntKind.i64.wrap (-1 * 1)=-1 * 1:=by decide
 have qa:IntKind.i64.wrap (-a * 1)=-a * 1:=by unfold sm at sa; exact wrap_i64 (by omega) (by omega)
 have qb:IntKind.i64.wrap (-b * 1)=-b * 1:=by unfold sm at sb; exact wrap_i64 (by omega) (by omega)
 refine Qj 12 (by decide) (Qo hT Xa (by simp [XM]) (Qm 1000 ?_))
 unfold Qd5
 rw [ax,ay,as,← ha,← hb]
 by_cases h1:a=b
 ·rw [if_pos h1]
  have d1:decide (a=b)=true:=decide_eq_true h1
  simp -implicitDefEqProofs (disch:=omega) only [go_sem,↓reduceIte,reduceCtorEq,rA,rq,rL,hx0,hy0,nx,ny,w01,w02,← ha,← hb,q1]
  first | exact done0 | exact ⟨fun _=>done0,fun h=>absurd h1 h⟩
 have d1:decide (a=b)=false:=decide_eq_false h1
 rw [if_neg h1]
 by_cases h2:a=1
 ·rw [if_pos h2]
  have e1:¬ 1=b:=h2▸h1
  have e2:decide (1=b)=false:=decide_eq_false e1
  simp -implicitDefEqProofs (disch:=omega) only [go_sem,↓reduceIte,reduceCtorEq,rA,rq,hx0,hy0,nx,ny,w01,w02,← ha,← hb,h2,nb,qb,e1]
  first | exact done0
 rw [if_neg h2]
 by_cases h3:b=1
 ·rw [if_pos h3]
  simp -implicitDefEqProofs (disch:=omega) only [go_sem,↓reduceIte,reduceCtorEq,rA,rq,hx0,hy0,nx,ny,w01,w02,← ha,← hb,h2,h3,na,qa]
  first | exact done0
 rw [if_neg h3]
 have hM:=fun t=>QmA (P:=P) (G:=G) (B:=B) (K:=K) (E:=E) (t:=t) hT (g:=g) (S:=S) ⟨2,min a b,max a b⟩ hp hg
 simp only [Gtc] at hM
 simp -implicitDefEqProofs (disch:=omega) only [go_sem,↓reduceIte,reduceCtorEq,rA,rq,rL,hx0,hy0,nx,ny,w01,w02,← ha,← hb,h1,h2,h3]
 rw [Qpu,Qpv]
 refine call hT Xm (hM t) 1000 fun v σ hv=>?_
 obtain ⟨rfl,t1,B1,ht1,rfl⟩:=hv
 obtain ⟨m1,m2,m3,m4⟩:=Qpc S.gs ⟨2,min a b,max a b⟩
 generalize mkG S.gs ⟨2,min a b,max a b⟩=q at m1 m2 m3 m4 ⊢
 obtain ⟨v,fr,gs⟩:=q
 simp only at m1 m2 m3 m4
 have sv:sm v:=by unfold sm; omega
 have nv:=wng sv
 have qv:IntKind.i64.wrap (v * 1)=v * 1:=by unfold sm at sv; exact wrap_i64 (by omega) (by omega)
 cases fr with
 | false =>
   simp -implicitDefEqProofs (disch:=omega) only [go_sem,↓reduceIte,reduceCtorEq,rA,rq,rT,put,Bool.false_eq_true,qv]
   first | exact ⟨t1,B1,ht1,rfl,rfl⟩
 | true =>
   have hA:=fun t B (cs:List (List Int)) l (h:cs.length<1048576)=>QrU (P:=P) (G:=G) (g:=g) (B:=B) (K:=K) (E:=E) (t:=t) (S:=⟨gs,cs⟩) hT l h
   have hA1:=fun t B=>hA t B S.cs [-v,a,b] (by omega)
   have hA2:=fun t B=>hA t B (S.cs++[[-v,a,b]]) [-v,-a,-b] (by simp; omega)
   have hA3:=fun t B=>hA t B (S.cs++[[-v,a,b]]++[[-v,-a,-b]]) [v,-a,b] (by simp; omega)
   have hA4:=fun t B=>hA t B (S.cs++[[-v,a,b]]++[[-v,-a,-b]]++[[v,-a,b]]) [v,a,-b] (by simp; omega)
   simp only [trw,List.map_cons,List.map_nil] at hA1 hA2 hA3 hA4
   simp -implicitDefEqProofs (disch:=omega) only [go_sem,↓reduceIte,reduceCtorEq,rA,rq,rL,rT,nv]
   refine call hT Qk (hA1 _ _) 1000 fun v2 σ hv=>?_
   obtain ⟨rfl,t2,B2,ht2,rfl⟩:=hv
   simp -implicitDefEqProofs (disch:=omega) only [go_sem,↓reduceIte,reduceCtorEq,rA,rq,rL,nv,na,nb]
   refine call hT Qk (hA2 _ _) 1000 fun v2 σ hv=>?_
   obtain ⟨rfl,t3,B3,ht3,rfl⟩:=hv
   simp -implicitDefEqProofs (disch:=omega) only [go_sem,↓reduceIte,reduceCtorEq,rA,rq,rL,na]
   refine call hT Qk (hA3 _ _) 1000 fun v2 σ hv=>?_
   obtain ⟨rfl,t4,B4,ht4,rfl⟩:=hv
   simp -implicitDefEqProofs (disch:=omega) only [go_sem,↓reduceIte,reduceCtorEq,rA,rq,rL,nb]
   refine call hT Qk (hA4 _ _) 1000 fun v2 σ hv=>?_
   obtain ⟨rfl,t5,B5,ht5,rfl⟩:=hv
   simp -implicitDefEqProofs (disch:=omega) only [go_sem,↓reduceIte,reduceCtorEq,rq,put,aA,qv]
   first | exact ⟨t5,B5,by omega,rfl,rfl⟩
theorem k_xor (hT:Qe P tab) (h:Rd I S 4 1) (hx:lit S.gs.length x) (hy:lit S.gs.length y) :
 C P G 5 Xz [.ptr 7 g.b 0,.int .i64 x,.int .i64 y] ⟨t,bH g B S K E⟩ fun v σ=>v=.int .i64 (Qd5 S x y).1∧∃ t' B',t≤t'∧σ=⟨t',bH g B' (Qd5 S x y).2 K E⟩:=by
 by_cases h1:x<0 <;> by_cases h2:y<0
 ·exact QAQ hT h.pos h.lt h.cl (h.sm hx) (h.sm hy) h1 h2
 ·exact QAP hT h.pos h.lt h.cl (h.sm hx) (h.sm hy) h1 h2
 ·exact QAO hT h.pos h.lt h.cl (h.sm hx) (h.sm hy) h1 h2
 ·exact QAN hT h.pos h.lt h.cl (h.sm hx) (h.sm hy) h1 h2
theorem k_or (hT:Qe P tab) (h:Rd I S 3 1) (hx:lit S.gs.length x) (hy:lit S.gs.length y) :
 C P G 5 QaO [.ptr 7 g.b 0,.int .i64 x,.int .i64 y] ⟨t,bH g B S K E⟩ fun v σ=>v=.int .i64 (orS S x y).1∧∃ t' B',t≤t'∧σ=⟨t',bH g B' (orS S x y).2 K E⟩:=by
 have nx:=wng (h.sm hx)
 have ny:=wng (h.sm hy)
 have hA:=QAe (P:=P) (G:=G) (K:=K) (E:=E) (g:=g) (B:=B) (t:=t) hT h (QC hx) (QC hy)
 obtain ⟨o1,o2,-⟩:=Qdp h.ok (QC hx) (QC hy)
 have nz:=wng ((h.go (c':=0) (g':=0) o1 (by omega) (by omega)).sm o2)
 refine Qj 12 (by decide) (Qo hT YL (by simp [Zo]) (Qm 1000 ?_))
 simp -implicitDefEqProofs (disch:=omega) only [go_sem,↓reduceIte,reduceCtorEq,rA,rq,nx,ny]
 refine call hT Xb hA 1000 fun v σ hv=>?_
 obtain ⟨rfl,t1,B1,ht1,rfl⟩:=hv
 simp -implicitDefEqProofs (disch:=omega) only [go_sem,↓reduceIte,reduceCtorEq,rq,nz]
 exact ⟨rfl,t1,B1,ht1,rfl,rfl⟩
theorem k_pick (hT:Qe P tab) {c:Int} (h:Rd I S 9 3) (hc:lit S.gs.length c) (hx:lit S.gs.length x) (hy:lit S.gs.length y) :
 C P G 5 Z9 [.ptr 7 g.b 0,.int .i64 c,.int .i64 x,.int .i64 y] ⟨t,bH g B S K E⟩ fun v σ=>v=.int .i64 (QcM S c x y).1∧∃ t' B',t≤t'∧σ=⟨t',bH g B' (QcM S c x y).2 K E⟩:=by
 have nc:=wng (h.sm hc)
 obtain ⟨a1,a2,-⟩:=Qdp h.ok hc hx
 obtain ⟨b1,b2,-⟩:=Qdp a1.ok (QC (a1.lit hc)) (a1.lit hy)
 have hA:=QAe (P:=P) (G:=G) (K:=K) (E:=E) (g:=g) (B:=B) (t:=t) hT (h.less (by omega) (by omega)) hc hx
 have hB:=fun t B=>QAe (P:=P) (G:=G) (K:=K) (E:=E) (g:=g) (B:=B) (t:=t) hT (h.go a1 (by omega) (by omega)) (QC (a1.lit hc)) (a1.lit hy)
 have hC:=fun t B=>k_or (P:=P) (G:=G) (K:=K) (E:=E) (g:=g) (B:=B) (t:=t) hT ((h.go (c':=6) (g':=2) a1 (by omega) (by omega)).go b1 (by omega) (by omega)) (b1.lit a2) b2
 refine Qj 12 (by decide) (Qo hT Ye (by simp [YT]) (Qm 1000 ?_))
 simp -implicitDefEqProofs (disch:=omega) only [go_sem,↓reduceIte,reduceCtorEq,rA,rq]
 refine call hT Xb hA 1000 fun v σ hv=>?_
 obtain ⟨rfl,t1,B1,ht1,rfl⟩:=hv
 simp -implicitDefEqProofs (disch:=omega) only [go_sem,↓reduceIte,reduceCtorEq,rq,nc]
 refine call hT Xb (hB _ _) 1000 fun v σ hv=>?_
 obtain ⟨rfl,t2,B2,ht2,rfl⟩:=hv
 simp -implicitDefEqProofs (disch:=omega) only [go_sem,↓reduceIte,reduceCtorEq,rq]
 refine call hT YL (hC _ _) 1000 fun v σ hv=>?_
 obtain ⟨rfl,t3,B3,ht3,rfl⟩:=hv
 simp -implicitDefEqProofs (disch:=omega) only [go_sem,↓reduceIte,reduceCtorEq,rq]
 exact ⟨rfl,t3,B3,by omega,rfl,rfl⟩
end
end Go.Proofs.YtoeicjlflmmmcaaGreatDoor
namespace Go.Proofs.YtoeicjlflmmmcaaGreatDoor
open Go Go.Am
set_option maxRecDepth 100000
set_option maxHeartbeats 2000000
theorem Ya (k:Nat):(0:Int)<2 ^ k:=Int.pow_pos (by omega)
theorem QfP (k:Nat):((2 ^ k:Nat):Int)=2 ^ k:=by simp
variable {k m:Nat}
theorem QsZ (h:k≤64):(2:Int) ^ k≤18446744073709551616:=by
 have h1:=Nat.pow_le_pow_right (n:=2) (by omega) h
 have h3:(2:Nat) ^ 64=18446744073709551616:=rfl
 rw [h3] at h1
 rw [← QfP]
 omega
theorem Z0 (a:Int) (k:Nat):a % 2 ^ (k+1)=a % 2 ^ k+2 ^ k * ((a / 2 ^ k) % 2):=by
 have hp:=Ya k
 rw [Int.pow_succ,Int.emod_def a (2 ^ k * 2),Int.emod_def a (2 ^ k),Int.emod_def (a / 2 ^ k) 2,Int.ediv_ediv_of_nonneg (Int.le_of_lt hp)]
 rw [Int.mul_sub,Int.mul_assoc]
 omega
theorem Qim (a:Int) (k:Nat):0≤a / 2 ^ k % 2∧a / 2 ^ k % 2≤1:=by omega
variable {x a y u:Int}
theorem or_bit {out:Int} (hk:k<64) (h0:0≤out) (h1:out<2 ^ k) (hx:0≤x∧x≤1):orI .u64 out (x * 2 ^ k)=out+x * 2 ^ k:=by
 have hp:=Ya k
 have hs:=QsZ (k:=k+1) (by omega)
 rw [Int.pow_succ] at hs
 have hm:IntKind.u64.max=18446744073709551615:=by decide
 have hxp:x * 2 ^ k≤2 ^ k:=by
  rcases (show x=0∨x=1 by omega) with rfl | rfl <;> omega
 have hxn:0≤x * 2 ^ k:=Int.mul_nonneg hx.1 (by omega)
 exact QKS .u64 k out (x * 2 ^ k) h0 hxn h1 (by rw [Int.mul_emod_left]) (by rw [hm]; omega)
theorem Qzd (h0:0≤x) (h1:x<18446744073709551616):IntKind.u64.wrap x=x:=by
 apply QgN
 ·have:IntKind.u64.min=0:=by decide
  omega
 ·have:IntKind.u64.max=18446744073709551615:=by decide
  omega
theorem QbM (x:Int):IntKind.u64.wrap x=x % 18446744073709551616:=by
 simp [IntKind.wrap,IntKind.bits,IntKind.signed]
theorem QtN (x:Int):IntKind.i64.wrap x % 18446744073709551616=x % 18446744073709551616:=by
 rw [IntKind.wrap_i64]
 omega
theorem QKI (hk:k<64):(IntKind.u64.wrap a).fdiv (2 ^ k) % 2=a / 2 ^ k % 2:=by
 have hp:=Ya k
 rw [QbM,Int.fdiv_eq_ediv_of_nonneg _ (Int.le_of_lt hp)]
 have e:(18446744073709551616:Int)=2 ^ k * (2 * 2 ^ (63 - k)):=by
  have e1:(2:Int) ^ 64=2 ^ k * 2 ^ (64 - k):=by rw [← Int.pow_add]; congr 1; omega
  have e2:(2:Int) ^ (64 - k)=2 * 2 ^ (63 - k):=by rw [show 64 - k=(63 - k)+1 by omega,Int.pow_succ,Int.mul_comm]
  rw [← e2,← e1]; rfl
 rw [e,Int.emod_def a (2 ^ k * (2 * 2 ^ (63 - k))),show a - 2 ^ k * (2 * 2 ^ (63 - k)) * (a / (2 ^ k * (2 * 2 ^ (63 - k))))=a+2 ^ k * (-(2 * (2 ^ (63 - k) * (a / (2 ^ k * (2 * 2 ^ (63 - k))))))) by
  rw [Int.mul_neg,← Int.sub_eq_add_neg,Int.mul_assoc,Int.mul_assoc]]
 rw [Int.add_mul_ediv_left _ _ (by omega)]
 omega
def cg (x y:Int):Prop:=x % 18446744073709551616=y % 18446744073709551616
theorem cg.refl (x:Int):cg x x:=rfl
theorem cg.symm {x y:Int} (h:cg x y):cg y x:=Eq.symm h
theorem cg.trans {x y z:Int} (h:cg x y) (k:cg y z):cg x z:=Eq.trans h k
theorem cg.add {v:Int} (h:cg x y) (k:cg u v):cg (x+u) (y+v):=by unfold cg at *; omega
theorem cg.neg (h:cg x y):cg (-x) (-y):=by unfold cg at *; omega
theorem cg.mul {v:Int} (h:cg x y) (k:cg u v):cg (x * u) (y * v):=by
 unfold cg at *
 rw [Int.mul_emod,h,k,← Int.mul_emod]
theorem Qnz (x:Int):cg (IntKind.i64.wrap x) x:=QtN x
theorem cg_wU (x:Int):cg (IntKind.u64.wrap x) x:=by unfold cg; rw [QbM]; omega
theorem wU_cg (h:cg x y):IntKind.u64.wrap x=IntKind.u64.wrap y:=by rw [QbM,QbM]; exact h
theorem QzK {b:Int} (h1:¬ b / 2 ^ k % 2=1):a * (b % 2 ^ (k+1))=a * (b % 2 ^ k):=by
 have:b / 2 ^ k % 2=0:=by omega
 rw [Z0,this,Int.mul_zero,Int.add_zero]
theorem wU_rg (a:Int):0≤IntKind.u64.wrap a∧IntKind.u64.wrap a<18446744073709551616:=by rw [QbM]; omega
theorem ubit (hk:k<64):IntKind.u64.wrap a / 2 ^ k % 2=a / 2 ^ k % 2:=by
 have:=QKI (a:=a) hk
 rwa [Int.fdiv_eq_ediv_of_nonneg _ (Int.le_of_lt (Ya k))] at this
theorem QwF (hk:k<64) (hx:0≤x∧x≤1):IntKind.u64.wrap (x * 2 ^ k)=x * 2 ^ k:=by
 have hp:=Ya k
 have hp64:=QsZ (k:=k+1) (by omega)
 rw [Int.pow_succ] at hp64
 rcases (show x=0∨x=1 by omega) with h | h <;> rw [h] <;> exact Qzd (by omega) (by omega)
theorem Qzi {T:Int} (hk:k<64) (hx:T / 2 ^ k % 2=x):orI .u64 (T % 2 ^ k) (x * 2 ^ k)=T % 2 ^ (k+1):=by
 have hp:=Ya k
 have hb:=Qim T k
 rw [or_bit hk (Int.emod_nonneg _ (by omega)) (Int.emod_lt_of_pos _ hp) (by omega),Z0,hx,Int.mul_comm]
theorem QtG:a * 2 ^ m / 2 ^ k % 2=if k<m then 0 else a / 2 ^ (k - m) % 2:=by
 have hp:=Ya k
 have hm:=Ya m
 split
 ·rename_i h
  have e:(2:Int) ^ m=2 ^ k * (2 * 2 ^ (m - k - 1)):=by
   rw [show m=k+((m - k - 1)+1) by omega,Int.pow_add,Int.pow_succ,show k+(m - k - 1+1) - k - 1=m - k - 1 by omega,Int.mul_comm (2 ^ (m - k - 1)) 2]
  rw [e,show a * (2 ^ k * (2 * 2 ^ (m - k - 1)))=2 ^ k * (2 * (a * 2 ^ (m - k - 1))) by rw [Int.mul_left_comm,Int.mul_left_comm a 2],Int.mul_ediv_cancel_left _ (by omega),Int.mul_emod_right]
 ·rename_i h
  have e:(2:Int) ^ k=2 ^ m * 2 ^ (k - m):=by rw [← Int.pow_add]; congr 1; omega
  rw [e,← Int.ediv_ediv_of_nonneg (by omega),Int.mul_ediv_cancel _ (by omega)]
theorem QA3:a / 2 ^ m / 2 ^ k=a / 2 ^ (k+m):=by
 rw [Int.ediv_ediv_of_nonneg (Int.le_of_lt (Ya m)),← Int.pow_add,Nat.add_comm]
theorem Qtw (ha:-9223372036854775808≤a∧a≤9223372036854775807) (hk:63≤k):a / 2 ^ k=if a<0 then -1 else 0:=by
 have h1:(9223372036854775808:Int)≤2 ^ k:=by
  have h2:=Nat.pow_le_pow_right (n:=2) (by omega) hk
  have h3:(2:Nat) ^ 63=9223372036854775808:=rfl
  rw [h3] at h2
  rw [← QfP]
  omega
 generalize (2:Int) ^ k=p at *
 split
 ·have e:a=(a+p)+p * (-1):=by omega
  rw [e,Int.add_mul_ediv_left _ _ (by omega),Int.ediv_eq_zero_of_lt (by omega) (by omega)]
  rfl
 ·exact Int.ediv_eq_zero_of_lt (by omega) (by omega)
theorem Qzg (a:Int) (hk:64≤k):IntKind.u64.wrap a / 2 ^ k=0:=by
 have h:=wU_rg a
 have h1:(18446744073709551616:Int)≤2 ^ k:=by
  have h2:=Nat.pow_le_pow_right (n:=2) (by omega) hk
  have h3:(2:Nat) ^ 64=18446744073709551616:=rfl
  rw [h3] at h2
  rw [← QfP]
  omega
 exact Int.ediv_eq_zero_of_lt h.1 (by omega)
def Qll (x:Int):Prop:=-9223372036854775808≤x∧x≤9223372036854775807
end Go.Proofs.YtoeicjlflmmmcaaGreatDoor
namespace Go.Proofs.YtoeicjlflmmmcaaGreatDoor
open Go Go.Am Go.Bl
set_option maxRecDepth 100000
variable {I:Int→Int→Bool}
set_option maxHeartbeats 2000000
def Zc (a:Int) (k:Nat):Bool:=decide (a / 2 ^ k % 2=1)
abbrev gi (x:List Int) (k:Nat):Int:=x.getD k 0
variable {k n m:Nat} {x y:List Int}
theorem QLD (h:k<x.length):x[k]?=some (gi x k):=by
 rw [List.getElem?_eq_getElem h,gi,List.getD_eq_getElem?_getD,List.getElem?_eq_getElem h]; rfl
theorem QxQ (h:k<x.length):gi (x++y) k=gi x k:=by
 rw [gi,gi,List.getD_eq_getElem?_getD,List.getD_eq_getElem?_getD,List.getElem?_append_left h]
variable {a b c:Int}
theorem QxP:gi (x++[a]) x.length=a:=by
 rw [gi,List.getD_eq_getElem?_getD,List.getElem?_append_right (lR _)]; simp
theorem QIk (f:Int→Int) (h:k<x.length):gi (x.map f) k=f (gi x k):=by
 rw [gi,gi,List.getD_eq_getElem?_getD,List.getD_eq_getElem?_getD,List.getElem?_map,List.getElem?_eq_getElem h]; rfl
structure Nb (n:Nat) (x:List Int):Prop where
 len:x.length=64
 all:∀ k,k<64→lit n (gi x k)
def Tl (M:List Bool) (x:List Int) (a:Int):Prop:=∀ k,k<64→lv M (gi x k)=Zc a k
theorem Nb.mono (h:Nb n x) (hm:n≤m):Nb m x:=⟨h.len,fun k hk=>QcF (h.all k hk) hm⟩
variable {S S':St}
theorem Nb.goes (h:Nb S.gs.length x) (g:Goes I n m S S'):Nb S'.gs.length x:=h.mono g.pre.length_le
theorem Tl.goes (t:Tl (mdl I S.gs) x a) (h:Nb S.gs.length x) (g:Goes I n m S S'):Tl (mdl I S'.gs) x a:=fun k hk=>by rw [g.lv (h.all k hk)]; exact t k hk
theorem Qhq (h:cg a b) (hk:k<64):Zc a k=Zc b k:=by
 unfold Zc
 rw [← ubit hk,← ubit (a:=b) hk,wU_cg h]
variable {M:List Bool}
theorem Tl.cg (t:Tl M x a) (h:cg a b):Tl M x b:=fun k hk=>by rw [t k hk,Qhq h hk]
def fo {σ:Type} (step:σ→Nat→Int × σ):Nat→σ→List Int × σ
 | 0,s=>([],s)
 | n+1,s=>((fo step n s).1++[(step (fo step n s).2 n).1],(step (fo step n s).2 n).2)
theorem Y5 {σ:Type} {step:σ→Nat→Int × σ} {s:σ}:∀ n,(fo step n s).1.length=n
 | 0=>rfl
 | n+1=>by simp [fo,Y5 n]
def it {σ:Type} (step:σ→Nat→σ):Nat→σ→σ
 | 0,s=>s
 | n+1,s=>step (it step n s) n
def QgQ (x y:List Int) (s:St × Int) (k:Nat):Int × (St × Int) :=
 let p:=Qd5 s.1 (gi x k) (gi y k)
 let z:=Qd5 p.2 p.1 s.2
 let q:=Qd3 z.2 (gi x k) (gi y k)
 let r:=Qd3 q.2 p.1 s.2
 let d:=orS r.2 q.1 r.1
 (z.1,(d.2,d.1))
theorem QKE (h:Ok I S) (hx:lit S.gs.length (gi x k)) (hy:lit S.gs.length (gi y k)) (hc:lit S.gs.length c) :
 Goes I 17 5 S (QgQ x y (S,c) k).2.1∧lit (QgQ x y (S,c) k).2.1.gs.length (QgQ x y (S,c) k).1∧lit (QgQ x y (S,c) k).2.1.gs.length (QgQ x y (S,c) k).2.2 ∧
 lv (mdl I (QgQ x y (S,c) k).2.1.gs) (QgQ x y (S,c) k).1=((lv (mdl I S.gs) (gi x k) != lv (mdl I S.gs) (gi y k)) != lv (mdl I S.gs) c) ∧
 lv (mdl I (QgQ x y (S,c) k).2.1.gs) (QgQ x y (S,c) k).2.2=((lv (mdl I S.gs) (gi x k)&&lv (mdl I S.gs) (gi y k)) || ((lv (mdl I S.gs) (gi x k) != lv (mdl I S.gs) (gi y k))&&lv (mdl I S.gs) c)):=by
 obtain ⟨p1,p2,p3⟩:=Qjs h hx hy
 obtain ⟨z1,z2,z3⟩:=Qjs p1.ok p2 (p1.lit hc)
 have g2:=p1.trans z1
 obtain ⟨q1,q2,q3⟩:=Qdp z1.ok (g2.lit hx) (g2.lit hy)
 have g3:=g2.trans q1
 obtain ⟨r1,r2,r3⟩:=Qdp q1.ok ((z1.trans q1).lit p2) (g3.lit hc)
 have g4:=g3.trans r1
 obtain ⟨d1,d2,d3⟩:=Qw3 r1.ok (r1.lit q2) r2
 have g5:=g4.trans d1
 refine ⟨g5.more (by omega) (by omega),((q1.trans r1).trans d1).lit z2,d2,?_,?_⟩
 ·show lv (mdl I (orS _ _ _).2.gs) (Qd5 _ _ _).1=_
  rw [((q1.trans r1).trans d1).lv z2,z3,p3,p1.lv hc]
 ·show lv (mdl I (orS _ _ _).2.gs) (orS _ _ _).1=_
  rw [d3,r3,r1.lv q2,q3,g2.lv hx,g2.lv hy,(z1.trans q1).lv p2,p3,g3.lv hc]
def Qeb (S:St) (x y:List Int) (c:Int):List Int × (St × Int):=fo (QgQ x y) 64 (S,c)
def car (a b c:Int) (k:Nat):Int:=(a % 2 ^ k+b % 2 ^ k+c) / 2 ^ k
theorem car_0:car a b c 0=c:=by unfold car; simp [Int.emod_one]
theorem car_rg (h0:0≤c) (h1:c≤1) (k:Nat):0≤car a b c k∧car a b c k≤1:=by
 have hp:=Ya k
 have a1:=Int.emod_nonneg a (show (2:Int) ^ k≠0 by omega)
 have a2:=Int.emod_lt_of_pos a hp
 have b1:=Int.emod_nonneg b (show (2:Int) ^ k≠0 by omega)
 have b2:=Int.emod_lt_of_pos b hp
 unfold car
 refine ⟨Int.ediv_nonneg (by omega) (by omega),?_⟩
 have:=(Int.ediv_lt_iff_lt_mul (a:=a % 2 ^ k+b % 2 ^ k+c) (b:=2) hp).2 (by omega)
 omega
theorem QAM (k:Nat):car a b c (k+1)=(a / 2 ^ k % 2+b / 2 ^ k % 2+car a b c k) / 2:=by
 have hp:=Ya k
 unfold car
 rw [Z0,Z0,Int.pow_succ,← Int.ediv_ediv_of_nonneg (by omega)]
 rw [show a % 2 ^ k+2 ^ k * (a / 2 ^ k % 2)+(b % 2 ^ k+2 ^ k * (b / 2 ^ k % 2))+c=(a % 2 ^ k+b % 2 ^ k+c)+2 ^ k * (a / 2 ^ k % 2+b / 2 ^ k % 2) by rw [Int.mul_add]; omega]
 rw [Int.add_mul_ediv_left _ _ (by omega)]
 congr 1; omega
theorem QMl (k:Nat):(a+b+c) / 2 ^ k % 2=(a / 2 ^ k % 2+b / 2 ^ k % 2+car a b c k) % 2:=by
 have hp:=Ya k
 unfold car
 have ha:=Int.emod_def a (2 ^ k)
 have hb:=Int.emod_def b (2 ^ k)
 rw [show a+b+c=(a % 2 ^ k+b % 2 ^ k+c)+2 ^ k * (a / 2 ^ k+b / 2 ^ k) by rw [Int.mul_add]; omega,Int.add_mul_ediv_left _ _ (by omega)]
 omega
theorem QwO {x y:List Int} {S:St} {c a b:Int} (h:Ok I S) (hx:Nb S.gs.length x) (hy:Nb S.gs.length y) (hc:lit S.gs.length c) (tx:Tl (mdl I S.gs) x a) (ty:Tl (mdl I S.gs) y b) {c0:Int} (hc0:c0=if lv (mdl I S.gs) c=true then 1 else 0) :
 ∀ n,n≤64→Goes I (17 * n) (5 * n) S (fo (QgQ x y) n (S,c)).2.1∧lit (fo (QgQ x y) n (S,c)).2.1.gs.length (fo (QgQ x y) n (S,c)).2.2 ∧
   (lv (mdl I (fo (QgQ x y) n (S,c)).2.1.gs) (fo (QgQ x y) n (S,c)).2.2=decide (car a b c0 n=1)) ∧
   ∀ k,k<n→lit (fo (QgQ x y) n (S,c)).2.1.gs.length (gi (fo (QgQ x y) n (S,c)).1 k)∧lv (mdl I (fo (QgQ x y) n (S,c)).2.1.gs) (gi (fo (QgQ x y) n (S,c)).1 k)=Zc (a+b+c0) k
 | 0,_=>⟨Goes.refl h _ _,hc,by rw [car_0,hc0]; show lv (mdl I S.gs) c=_; cases lv (mdl I S.gs) c <;> rfl,fun k hk=>absurd hk (by omega)⟩
 | n+1,hn=>by
   obtain ⟨h1,h2,h3,h4⟩:=QwO h hx hy hc tx ty hc0 n (by omega)
   obtain ⟨s1,s2,s3,s4,s5⟩:=QKE (x:=x) (y:=y) (k:=n) h1.ok (h1.lit (hx.all n (by omega))) (h1.lit (hy.all n (by omega))) h2
   have hl:=Y5 (step:=QgQ x y) (s:=(S,c)) n
   simp only [fo]
   generalize fo (QgQ x y) n (S,c)=r at *
   obtain ⟨zs,S1,c1⟩:=r
   simp only at *
   have hcr:=car_rg (a:=a) (b:=b) (show 0≤c0 by rw [hc0]; split <;> omega) (show c0≤1 by rw [hc0]; split <;> omega) n
   have ba:=Qim a n
   have bb:=Qim b n
   rw [h1.lv (hx.all n (by omega)),h1.lv (hy.all n (by omega)),tx n (by omega),ty n (by omega),h3] at s4 s5
   refine ⟨(h1.trans s1).more (by omega) (by omega),s3,?_,fun k hk=>?_⟩
   ·rw [s5,QAM]
    unfold Zc
    generalize a / 2 ^ n % 2=u at *
    generalize b / 2 ^ n % 2=v at *
    generalize car a b c0 n=w at *
    rcases (show u=0∨u=1 by omega) with rfl | rfl <;> rcases (show v=0∨v=1 by omega) with rfl | rfl <;> rcases (show w=0∨w=1 by omega) with rfl | rfl <;> rfl
   ·rcases Nat.lt_or_ge k n with hk1 | hk1
    ·obtain ⟨e1,e2⟩:=h4 k hk1
     rw [QxQ (by omega)]
     exact ⟨s1.lit e1,by rw [s1.lv e1,e2]⟩
    ·have:k=n:=by omega
     subst this
     have e:gi (zs++[(QgQ x y (S1,c1) k).1]) k=(QgQ x y (S1,c1) k).1:=by
      have:=QxP (x:=zs) (a:=(QgQ x y (S1,c1) k).1)
      rwa [hl] at this
     rw [e]
     refine ⟨s2,?_⟩
     rw [s4]
     unfold Zc
     rw [QMl]
     generalize a / 2 ^ k % 2=u at *
     generalize b / 2 ^ k % 2=v at *
     generalize car a b c0 k=w at *
     rcases (show u=0∨u=1 by omega) with rfl | rfl <;> rcases (show v=0∨v=1 by omega) with rfl | rfl <;> rcases (show w=0∨w=1 by omega) with rfl | rfl <;> rfl
theorem QoZ (h:Ok I S) (hx:Nb S.gs.length x) (hy:Nb S.gs.length y) (hc:lit S.gs.length c) (tx:Tl (mdl I S.gs) x a) (ty:Tl (mdl I S.gs) y b) {c0:Int} (hc0:c0=if lv (mdl I S.gs) c=true then 1 else 0) :
 Goes I 1088 320 S (Qeb S x y c).2.1∧Nb (Qeb S x y c).2.1.gs.length (Qeb S x y c).1∧Tl (mdl I (Qeb S x y c).2.1.gs) (Qeb S x y c).1 (a+b+c0) ∧
 lit (Qeb S x y c).2.1.gs.length (Qeb S x y c).2.2∧lv (mdl I (Qeb S x y c).2.1.gs) (Qeb S x y c).2.2=decide (car a b c0 64=1):=by
 obtain ⟨h1,h2,h3,h4⟩:=QwO h hx hy hc tx ty hc0 64 (by omega)
 exact ⟨h1,⟨Y5 64,fun k hk=>(h4 k hk).1⟩,fun k hk=>(h4 k hk).2,h2,h3⟩
def QlO (x:List Int):List Int:=x.map fun l=>-l
theorem QMn (a:Int) (k:Nat):Zc (-a - 1) k = !Zc a k:=by
 have hp:=Ya k
 have e:(-a - 1) / 2 ^ k=-(a / 2 ^ k) - 1:=by
  have h1:=Int.emod_def a (2 ^ k)
  have a1:=Int.emod_nonneg a (show (2:Int) ^ k≠0 by omega)
  have a2:=Int.emod_lt_of_pos a hp
  rw [show -a - 1=(2 ^ k - 1 - a % 2 ^ k)+2 ^ k * (-(a / 2 ^ k) - 1) by rw [Int.mul_sub,Int.mul_neg,Int.mul_one]; omega,Int.add_mul_ediv_left _ _ (by omega),Int.ediv_eq_zero_of_lt (by omega) (by omega)]
  omega
 unfold Zc
 rw [e]
 have:=Qim a k
 rcases (show a / 2 ^ k % 2=0∨a / 2 ^ k % 2=1 by omega) with h | h
 ·rw [h,decide_eq_true (by omega),decide_eq_false (by omega)]; rfl
 ·rw [h,decide_eq_false (by omega),decide_eq_true (by omega)]; rfl
theorem Qm6 (h:Nb n x):Nb n (QlO x):=⟨by simp [QlO,h.len],fun k hk=>by rw [QlO,QIk _ (by rw [h.len]; exact hk)]; exact QC (h.all k hk)⟩
theorem Qxd (h:Nb n x) (t:Tl M x a):Tl M (QlO x) (-a - 1):=fun k hk=>by
 rw [QlO,QIk _ (by rw [h.len]; exact hk),Yk (h.all k hk).1,t k hk,QMn]
def Qdq (a:Int):List Int:=(List.range 64).map fun k=>if Zc a k=true then 1 else -1
theorem QxO (a:Int) (hk:k<64):gi (Qdq a) k=if Zc a k=true then 1 else -1:=by
 rw [gi,List.getD_eq_getElem?_getD,Qdq,List.getElem?_map,List.getElem?_range hk]; rfl
variable {gs:List Gt}
theorem QiE (h:Wf gs) (a:Int):Nb gs.length (Qdq a):=⟨by simp [Qdq],fun k hk=>by rw [QxO a hk]; split; exact YA h; exact QC (YA h)⟩
theorem Qm5 (h:Wf gs) (a:Int):Tl (mdl I gs) (Qdq a) a:=fun k hk=>by
 rw [QxO a hk]
 cases Zc a k with
 | true=>rw [if_pos rfl,h.yes]
 | false=>rw [if_neg (by decide),h.no]
end Go.Proofs.YtoeicjlflmmmcaaGreatDoor
