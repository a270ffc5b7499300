/- slices.Grow, of nothing. -/
import Derived.Test.YtoeicjlflmmmcaaGreatDoorJ11
import Derived.Test.YtoeicjlflmmmcaaGreatDoorShG
import Derived.Laws.AppendOwn
import Derived.Test.YtoeicjlflmmmcaaGreatDoorJ10
import Derived.Test.YtoeicjlflmmmcaaGreatDoorAmD
open Nat renaming reduceEqDiff → rq, reduceAdd → rA, reduceLeDiff → rL, reduceLT → rT, zero_add → zA, le_refl → lR, zero_le → zL, add_zero → aZ
open List renaming length_cons → lC, length_nil → lN, take_succ_cons → tSq, length_append → lA, nil_append → nA, cons_append → cA, append_assoc → aA, take_nil → tN, take_zero → tZ, length_map → lM
open Bool renaming not_false → nFq, not_true → nT
namespace Go.Proofs.YtoeicjlflmmmcaaGreatDoor
open Go Go.Am
set_option maxRecDepth 100000
variable {G:Nat→Option V}
set_option maxHeartbeats 1000000
theorem c_Grow {base t n:Nat} {o:List (Option Ob)} (hn:0<n) (hl:n≤2000000) :
 C Tryz.prog G base Qbj [.lst 0 [] true,.int .i64 n] ⟨t,o⟩ fun r σ'=>r=.sl o.length t 0 1 0 none∧σ'=⟨t+1,o++[some (.arr t 42 [])]⟩:=by
 obtain ⟨i0,hi0,hz0,hs0,hb0⟩:∃ i0,Tryz.prog.info? 42=some i0∧i0.zero=some (.slice none 0 0)∧i0.size=1∧i0.bytes=24:=⟨_,rfl,rfl,rfl,rfl⟩
 refine C_grow fun a w=>?_
 refine (Any8.slices_Grow_grow Tryz.growI i0 (.slice none 0 0) hi0 hz0 (by omega) a 0 0 n [] w (lR _) (by omega) (by rw [hb0]; omega) (by omega) (by simp) (fun _=>rfl) (fun a _ j v h=>by simp at h)).mono fun e w' ⟨h1,h2⟩=>?_
 have hge:=grownCap_ge w (0+n) 0 42
 refine ⟨_,_,?_,h2⟩
 rw [h1]
 congr 2
 simp only [Array.size_append,size_zeroCells,List.size_toArray,lN]
 show _=0+(0+n - 0) * 1+(_ - (0+n)) * 1
 have:Tryz.growI_ren.t 25=42:=rfl
 rw [this]
 omega
end Go.Proofs.YtoeicjlflmmmcaaGreatDoor
namespace Go.Proofs.YtoeicjlflmmmcaaGreatDoor
open Go Go.Am Go.Bl
set_option maxRecDepth 100000
variable {G:Nat→Option V}
set_option maxHeartbeats 1000000
section
attribute [local go_sem] nT aZ lR Nat.mul_one zA decide_false decide_true Q3 X5 zqw_0 zqw_1 QBj QBi QBh QBg QBf QBe zqw_2 zqw_3 zqw_4 zqw_5 zqw_6 zqw_7 zqw_8 zqw_9
def row (c:List Int):V:=.lst 1 (Qb c) false
def bN (g:Gr) (B:Bv) (S:St) (K:List (Int × List Int)) (E:Ev) (v:Nat) (N:List (List Int)):List (Option Ob) :=
 g.o++[some (.map g.m (byE S.gs)),some (.map g.k (kEn K)),some (.arr g.b 76 [.ptr 1 g.v0 0,.sl 8 B.g 0 3 S.gs.length none,.mp 5 g.m,.sl 9 B.c 0 1 S.cs.length none,.mp 6 g.k,.sl 10 E.v 0 1 E.l.length none,.sl 11 v 0 1 N.length none,.bool false]),some (.arr B.g 78 (gC S.gs)),some (.arr B.c 42 (S.cs.map trw)),some (.arr E.v 37 (E.l.map (V.int .i64))),some (.arr v 42 (N.map row))]
section
variable {g:Gr} {B:Bv} {S:St} {K:List (Int × List Int)} {E:Ev} {v:Nat} {N:List (List Int)} {ex y:List (Option Ob)} {x0 x1 x2 x3 x4 z:Option Ob}
theorem m_7:(bN g B S K E v N++ex)[7]?=some (some (.arr g.b 76 [.ptr 1 g.v0 0,.sl 8 B.g 0 3 S.gs.length none,.mp 5 g.m,.sl 9 B.c 0 1 S.cs.length none,.mp 6 g.k,.sl 10 E.v 0 1 E.l.length none,.sl 11 v 0 1 N.length none,.bool false])):=rfl
theorem m7:(bN g B S K E v N)[7]?=some (some (.arr g.b 76 [.ptr 1 g.v0 0,.sl 8 B.g 0 3 S.gs.length none,.mp 5 g.m,.sl 9 B.c 0 1 S.cs.length none,.mp 6 g.k,.sl 10 E.v 0 1 E.l.length none,.sl 11 v 0 1 N.length none,.bool false])):=rfl
theorem m_9:(bN g B S K E v N++ex)[9]?=some (some (.arr B.c 42 (S.cs.map trw))):=rfl
theorem m_11:(bN g B S K E v N++ex)[11]?=some (some (.arr v 42 (N.map row))):=rfl
theorem m11:(bN g B S K E v N)[11]?=some (some (.arr v 42 (N.map row))):=rfl
theorem QaQ:(bN g B S K E v N).length=12:=rfl
theorem Qxt:(bN g B S K E v N++ex)++y=bN g B S K E v N++(ex++y):=aA ..
theorem m12:(bN g B S K E v N++x0::ex)[12]?=some x0:=rfl
theorem m13:(bN g B S K E v N++x0::x1::ex)[13]?=some x1:=rfl
theorem m14:(bN g B S K E v N++x0::x1::x2::ex)[14]?=some x2:=rfl
theorem m15:(bN g B S K E v N++x0::x1::x2::x3::ex)[15]?=some x3:=rfl
theorem m16:(bN g B S K E v N++x0::x1::x2::x3::x4::ex)[16]?=some x4:=rfl
theorem ms12:(bN g B S K E v N++x0::ex).set 12 z=bN g B S K E v N++z::ex:=rfl
theorem ms13:(bN g B S K E v N++x0::x1::ex).set 13 z=bN g B S K E v N++x0::z::ex:=rfl
theorem ms14:(bN g B S K E v N++x0::x1::x2::ex).set 14 z=bN g B S K E v N++x0::x1::z::ex:=rfl
theorem ms16:(bN g B S K E v N++x0::x1::x2::x3::x4::ex).set 16 z=bN g B S K E v N++x0::x1::x2::x3::z::ex:=rfl
end
def nOf (i n m:Nat):Nat:=if i=0 then 0 else if i=1 then n else n+m
def cOf (i:Nat) (l m:List V):List V:=if i=0 then [] else if i=1 then l else l++m
variable {l:List (List Int)}
theorem takeR:List.take l.length (l.map row)=l.map row:=by rw [List.take_of_length_le]; simp
theorem w1:IntKind.i64.wrap 1=((1:Nat):Int):=rfl
theorem w01:IntKind.i64.wrap (0+1)=((1:Nat):Int):=rfl
theorem w11:IntKind.i64.wrap (1+1)=((2:Nat):Int):=rfl
theorem takeT:List.take l.length (l.map trw)=l.map trw:=by rw [List.take_of_length_le]; simp
theorem QAW (hT:Qe Tryz.prog tab) {g:Gr} {B:Bv} {S:St} {K:List (Int × List Int)} {E:Ev} {t w T vn:Nat} {N:List (List Int)} {o12 o13 o14:Option Ob} (h0:0<S.cs.length) (hl:S.cs.length+N.length≤1048576) :
 C Tryz.prog G 12 QaK [.sl 15 w 0 1 2 none] ⟨t,bN g B S K E vn N++[o12,o13,o14,some (.arr w T [.sl 9 B.c 0 1 S.cs.length none,.sl 11 vn 0 1 N.length none])]⟩ fun v σ=>∃ t' u,t≤t'∧v=.sl 16 u 0 1 (S.cs.length+N.length) none∧σ=⟨t',bN g B S K E vn N++[o12,o13,o14,some (.arr w T [.sl 9 B.c 0 1 S.cs.length none,.sl 11 vn 0 1 N.length none]),some (.arr u 42 (S.cs.map trw++N.map row))]⟩:=by
 refine Qo hT QaH (by simp [X5]) (Qm 1000 ?_)
 simp -implicitDefEqProofs (disch:=omega) only [go_sem,↓reduceIte,reduceCtorEq,rq]
 refine XQ 2 (fun i fr σ=>Qd fr 0=.sl 15 w 0 1 2 none∧Qd fr 3=.int .i64 (nOf i S.cs.length N.length:Nat)∧Qd fr 9=.sl 15 w 0 1 2 none∧Qd fr 10=.int .i64 2∧Qd fr 11=.int .i64 ((i:Nat):Int)∧σ=⟨t,bN g B S K E vn N++[o12,o13,o14,some (.arr w T [.sl 9 B.c 0 1 S.cs.length none,.sl 11 vn 0 1 N.length none])]⟩) (fun e fr σ=>e=.ex 0∧Qd fr 0=.sl 15 w 0 1 2 none∧Qd fr 3=.int .i64 ((S.cs.length+N.length:Nat):Int)∧σ=⟨t,bN g B S K E vn N++[o12,o13,o14,some (.arr w T [.sl 9 B.c 0 1 S.cs.length none,.sl 11 vn 0 1 N.length none])]⟩) ⟨by simp -implicitDefEqProofs (disch:=omega) only [go_sem,↓reduceIte],by simp -implicitDefEqProofs (disch:=omega) only [go_sem,↓reduceIte,reduceCtorEq,rq]; rfl,by simp -implicitDefEqProofs (disch:=omega) only [go_sem,↓reduceIte,reduceCtorEq,rq],by simp -implicitDefEqProofs (disch:=omega) only [go_sem,↓reduceIte,reduceCtorEq,rq]; rfl,by simp -implicitDefEqProofs (disch:=omega) only [go_sem,↓reduceIte,reduceCtorEq,rq]; rfl,rfl⟩ (fun i hi fr σ hJ=>?_) (fun i hi fr σ hJ=>?_) (fun e fr σ hE=>?_)
 ·obtain ⟨f0,f3,f9,f10,f11,rfl⟩:=hJ
  have hn:¬ ((S.cs.length:Nat):Int)<0:=by omega
  have hn2:¬ ((S.cs.length+N.length:Nat):Int)<0:=by omega
  have hw0:IntKind.i64.wrap ((S.cs.length:Int))=(S.cs.length:Int):=wrap_i64 (by omega) (by omega)
  have hw1:IntKind.i64.wrap ((S.cs.length:Int)+(N.length:Int))=((S.cs.length+N.length:Nat):Int):=by rw [wrap_i64 (by omega) (by omega)]; omega
  rcases (show i=0∨i=1 by omega) with rfl | rfl
  ·have e0:nOf 0 S.cs.length N.length=0:=rfl
   have e1:nOf (0+1) S.cs.length N.length=S.cs.length:=rfl
   rw [e0] at f3
   refine Qh [(0,.sl 15 w 0 1 2 none),(3,.int .i64 0),(9,.sl 15 w 0 1 2 none),(10,.int .i64 2),(11,.int .i64 0)] ⟨f0,f3,f9,f10,f11,trivial⟩ 1000 ?_
   simp -implicitDefEqProofs (disch:=omega) only [go_sem,↓reduceIte,reduceCtorEq,rA,rq,rL,Int.reduceToNat,Int.reduceLE,Int.reduceLT,m15,lC,lN,true_implies,and_true,hn,hw0,Int.zero_add]
   refine ⟨_,_,Shift.refl _ _ _ _,?_⟩
   simp -implicitDefEqProofs (disch:=omega) only [go_sem,↓reduceIte,reduceCtorEq,rq,e1,w1]
  ·have e0:nOf 1 S.cs.length N.length=S.cs.length:=rfl
   have e1:nOf (1+1) S.cs.length N.length=S.cs.length+N.length:=rfl
   rw [e0] at f3
   refine Qh [(0,.sl 15 w 0 1 2 none),(3,.int .i64 S.cs.length),(9,.sl 15 w 0 1 2 none),(10,.int .i64 2),(11,.int .i64 1)] ⟨f0,f3,f9,f10,f11,trivial⟩ 1000 ?_
   simp -implicitDefEqProofs (disch:=omega) only [go_sem,↓reduceIte,reduceCtorEq,rA,rq,rT,Int.reduceToNat,Int.reduceLE,Int.reduceLT,m15,lC,lN,true_implies,and_true,hn2,hw1,w11]
   refine ⟨_,_,Shift.refl _ _ _ _,?_⟩
   simp -implicitDefEqProofs (disch:=omega) only [go_sem,↓reduceIte,reduceCtorEq,rq,e1]
 ·obtain ⟨f0,f3,f9,f10,f11,rfl⟩:=hJ
  subst hi
  have e0:nOf 2 S.cs.length N.length=S.cs.length+N.length:=rfl
  rw [e0] at f3
  refine Qh [(0,.sl 15 w 0 1 2 none),(3,.int .i64 (S.cs.length+N.length:Nat)),(9,.sl 15 w 0 1 2 none),(10,.int .i64 2),(11,.int .i64 2)] ⟨f0,f3,f9,f10,f11,trivial⟩ 1000 ?_
  simp -implicitDefEqProofs (disch:=omega) only [go_sem,↓reduceIte,reduceCtorEq,rq,Int.reduceLT,and_true]
 ·obtain ⟨rfl,f0,f3,rfl⟩:=hE
  refine XN [(0,.sl 15 w 0 1 2 none),(3,.int .i64 ((S.cs.length+N.length:Nat):Int))] ⟨f0,f3,trivial⟩ 1000 ?_
  simp -implicitDefEqProofs (disch:=omega) only [go_sem,↓reduceIte,reduceCtorEq,rq]
  refine call hT QeO (c_Grow (show 0<S.cs.length+N.length by omega) (by omega)) 1000 fun u σ hu=>?_
  obtain ⟨rfl,rfl⟩:=hu
  simp -implicitDefEqProofs (disch:=omega) only [go_sem,↓reduceIte,reduceCtorEq,rA,rq,QaQ,Qxt,lA,lC,lN,cA,nA]
  refine XQ 2 (fun i fr σ=>∃ t' u,t≤t'∧Qd fr 6=.sl 16 u 0 1 (nOf i S.cs.length N.length) none∧Qd fr 25=.sl 15 w 0 1 2 none∧Qd fr 26=.int .i64 2∧Qd fr 27=.int .i64 ((i:Nat):Int)∧σ=⟨t',bN g B S K E vn N++[o12,o13,o14,some (.arr w T [.sl 9 B.c 0 1 S.cs.length none,.sl 11 vn 0 1 N.length none]),some (.arr u 42 (cOf i (S.cs.map trw) (N.map row)))]⟩) (fun e fr σ=>e=.ex 2∧∃ t' u,t≤t'∧Qd fr 6=.sl 16 u 0 1 (S.cs.length+N.length) none∧σ=⟨t',bN g B S K E vn N++[o12,o13,o14,some (.arr w T [.sl 9 B.c 0 1 S.cs.length none,.sl 11 vn 0 1 N.length none]),some (.arr u 42 (S.cs.map trw++N.map row))]⟩) ⟨t+1,t,by omega,by simp -implicitDefEqProofs (disch:=omega) only [go_sem,↓reduceIte,reduceCtorEq,rq]; rfl,by simp -implicitDefEqProofs (disch:=omega) only [go_sem,↓reduceIte,reduceCtorEq,rq],by simp -implicitDefEqProofs (disch:=omega) only [go_sem,↓reduceIte,reduceCtorEq,rq]; rfl,by simp -implicitDefEqProofs (disch:=omega) only [go_sem,↓reduceIte,reduceCtorEq,rq]; rfl,rfl⟩ (fun i hi fr σ hJ=>?_) (fun i hi fr σ hJ=>?_) (fun e fr σ hE=>?_)
  ·obtain ⟨t',u,ht,f6,f25,f26,f27,rfl⟩:=hJ
   rcases (show i=0∨i=1 by omega) with rfl | rfl
   ·have e0:nOf 0 S.cs.length N.length=0:=rfl
    have e1:nOf (0+1) S.cs.length N.length=S.cs.length:=rfl
    have e2:cOf 0 (S.cs.map trw) (N.map row)=[]:=rfl
    have e3:cOf (0+1) (S.cs.map trw) (N.map row)=S.cs.map trw:=rfl
    rw [e0] at f6
    rw [e2]
    refine Qh [(6,.sl 16 u 0 1 0 none),(25,.sl 15 w 0 1 2 none),(26,.int .i64 2),(27,.int .i64 0)] ⟨f6,f25,f26,f27,trivial⟩ 1000 ?_
    simp -implicitDefEqProofs (disch:=omega) only [go_sem,↓reduceIte,rA,rq,rL,Int.reduceToNat,Int.reduceLE,Int.reduceLT,takeT,m_9,m15,m16,ms16,lM,lC,lN,nA,true_implies,true_and,and_true,w01]
    refine ⟨_,_,Shift.refl _ _ _ _,t'+1,t',by omega,?_⟩
    simp -implicitDefEqProofs (disch:=omega) only [go_sem,↓reduceIte,rq,e1,e3]
   ·have e0:nOf 1 S.cs.length N.length=S.cs.length:=rfl
    have e1:nOf (1+1) S.cs.length N.length=S.cs.length+N.length:=rfl
    have e2:cOf 1 (S.cs.map trw) (N.map row)=S.cs.map trw:=rfl
    have e3:cOf (1+1) (S.cs.map trw) (N.map row)=S.cs.map trw++N.map row:=rfl
    rw [e0] at f6
    rw [e2]
    refine Qh [(6,.sl 16 u 0 1 S.cs.length none),(25,.sl 15 w 0 1 2 none),(26,.int .i64 2),(27,.int .i64 1)] ⟨f6,f25,f26,f27,trivial⟩ 1000 ?_
    simp -implicitDefEqProofs (disch:=omega) only [go_sem,↓reduceIte,rA,rq,rL,rT,Int.reduceToNat,Int.reduceLE,Int.reduceLT,takeR,m_11,m15,m16,ms16,lM,lC,lN,true_implies,true_and,and_true,w11]
    refine ⟨_,_,Shift.refl _ _ _ _,t'+1,t',by omega,?_⟩
    simp -implicitDefEqProofs (disch:=omega) only [go_sem,↓reduceIte,rq,e1,e3]
  ·obtain ⟨t',u,ht,f6,f25,f26,f27,rfl⟩:=hJ
   subst hi
   have e0:nOf 2 S.cs.length N.length=S.cs.length+N.length:=rfl
   have e2:cOf 2 (S.cs.map trw) (N.map row)=S.cs.map trw++N.map row:=rfl
   rw [e0] at f6
   rw [e2]
   refine Qh [(6,.sl 16 u 0 1 (S.cs.length+N.length) none),(25,.sl 15 w 0 1 2 none),(26,.int .i64 2),(27,.int .i64 2)] ⟨f6,f25,f26,f27,trivial⟩ 1000 ?_
   simp -implicitDefEqProofs (disch:=omega) only [go_sem,↓reduceIte,rq,Int.reduceLT,true_and]
   exact ⟨t',u,ht,rfl,rfl,rfl⟩
  ·obtain ⟨rfl,t',u,ht,f6,rfl⟩:=hE
   refine XN [(6,.sl 16 u 0 1 (S.cs.length+N.length) none)] ⟨f6,trivial⟩ 1000 ?_
   simp -implicitDefEqProofs (disch:=omega) only [go_sem,↓reduceIte,rq]
   exact ⟨t',u,ht,rfl,rfl,rfl⟩
end
end Go.Proofs.YtoeicjlflmmmcaaGreatDoor
namespace Go.Proofs.YtoeicjlflmmmcaaGreatDoor
open Go Go.Am Go.Bl
set_option maxRecDepth 100000
variable {P:Program} {G:Nat→Option V}
set_option maxHeartbeats 1000000
section
attribute [local go_sem] lR zA Qal YR QFg QFf zqy_0 zqy_1 YB Qwn Qwm decide_false decide_true ge_iff_le Xe Qr Qsu Qst QFi QFh XG Qw Qss Qsr Qsq Qsp Qso Qsn Qsm Qsl QCY QCX QCW QCV QCU QCT QCS QCR
def fml (v:Int) (F:List (List Int)):V:=.agg [.int .i64 v,.lst 1 (F.map row) false]
variable {c:List Int} {i base t:Nat}
theorem QwV {F:List (List Int)} (h:F[i]?=some c):(F.map row).getD i V.any=.lst 1 (Qb c) false:=by simp [List.getD_eq_getElem?_getD,h,row]
theorem QhJ {n:Nat} (h:i<n) (hn:n≤9000000):IntKind.i64.wrap ((i:Int)+1)=((i+1:Nat):Int):=by rw [wrap_i64 (by omega) (by omega)]; omega
def QtK (P:Program) (G:Nat→Option V) (base:Nat) (f:V) (o:List (Option Ob)) (p:Int→Bool) (c:List Int):Prop :=
 ∀ t n,n∈c→CV P G base f [.int .i64 n] ⟨t,o⟩ fun v σ=>v=.bool (p n)∧∃ t',t≤t'∧σ=⟨t',o⟩
def QmG (P:Program) (G:Nat→Option V) (base:Nat) (f:V) (o:List (Option Ob)) (p:List Int→Bool) (c:List (List Int)):Prop :=
 ∀ t n,n∈c→CV P G base f [.lst 1 (Qb n) false] ⟨t,o⟩ fun v σ=>v=.bool (p n)∧∃ t',t≤t'∧σ=⟨t',o⟩
def idxQ (b:Bool) (v:V):Prop:=∃ n:Int,v=.int .i64 n∧if b=true then 0≤n else n=-1
theorem QxN {b:Bool} {n:Int} (h:if b=true then 0≤n else n=-1):decide (0≤n)=b:=by
 cases b with
 | true=>exact decide_eq_true h
 | false=>simp at h; rw [h]; rfl
theorem QqE {α:Type} {U:List α} {f:α→Bool} {u:α} (h:U[i]?=some u):(U.take (i+1)).any f=((U.take i).any f || f u):=by
 rw [List.take_add_one,h,List.any_append]; simp
variable {f:V}
theorem c_IdxI (hT:Qe P tab) {o:List (Option Ob)} {p:Int→Bool} (hp:QtK P G base f o p c) (hl:c.length≤1000000) :
 C P G base Xx [.lst 1 (Qb c) false,f] ⟨t,o⟩ fun v σ=>idxQ (c.any p) v∧∃ t',t≤t'∧σ=⟨t',o⟩:=by
 refine Qo hT QE (by simp [Qw]) (Qm 1000 ?_)
 simp -implicitDefEqProofs (disch:=omega) only [go_sem,↓reduceIte,reduceCtorEq,rq,Qi]
 refine Yn c (fun i fr σ=>∃ t',t≤t'∧σ=⟨t',o⟩∧(c.take i).any p=false∧Qd fr 0=.lst 1 (Qb c) false∧Qd fr 1=f∧Qd fr 7=.int .i64 c.length∧Qd fr 8=.int .i64 ((i:Nat):Int))
  (fun e fr σ=>(∃ t',t≤t'∧σ=⟨t',o⟩)∧((e=.ret∧c.any p=true∧∃ n:Int,0≤n∧Qd fr 4=.int .i64 n)∨(e=.ex 0∧c.any p=false))) ⟨t,lR _,rfl,rfl,by simp -implicitDefEqProofs (disch:=omega) only [go_sem,↓reduceIte],by simp -implicitDefEqProofs (disch:=omega) only [go_sem,↓reduceIte,reduceCtorEq],by simp -implicitDefEqProofs (disch:=omega) only [go_sem,↓reduceIte,reduceCtorEq,rq],by simp -implicitDefEqProofs (disch:=omega) only [go_sem,↓reduceIte,reduceCtorEq,rq]; rfl⟩ (fun i u hu fr σ hJ=>?_) (fun i hi fr σ hJ=>?_) (fun e fr σ hE=>?_)
 ·obtain ⟨t',ht,rfl,hany,f0,f1,f7,f8⟩:=hJ
  have hlt:=(List.getElem?_eq_some_iff.1 hu).1
  have hum:=List.mem_of_getElem? hu
  have hki:(i:Int)<c.length:=by omega
  have hk0:(0:Int)≤(i:Int):=by omega
  have hw:=QhJ hlt (by omega)
  have gu:=QiF hu
  have ha:=QqE (f:=p) hu
  rw [hany,Bool.false_or] at ha
  refine Qh [(0,.lst 1 (Qb c) false),(1,f),(7,.int .i64 c.length),(8,.int .i64 ((i:Nat):Int))] ⟨f0,f1,f7,f8,trivial⟩  1000 ?_
  simp -implicitDefEqProofs (disch:=omega) only [go_sem,↓reduceIte,reduceCtorEq,rq,hki,hk0,hlt,Int.toNat_natCast,gu,Qi]
  refine CV.use 1000 (hp _ u hum) fun v σ hv=>?_
  obtain ⟨rfl,t1,ht1,rfl⟩:=hv
  cases hf:p u with
  | true =>
    simp -implicitDefEqProofs (disch:=omega) only [go_sem,↓reduceIte,reduceCtorEq,rq]
    refine ⟨⟨t1,by omega,rfl⟩,List.any_eq_true.2 ⟨u,hum,hf⟩,(i:Int),hk0,?_⟩
    simp -implicitDefEqProofs (disch:=omega) only [go_sem]
  | false =>
    rw [hf] at ha
    simp -implicitDefEqProofs (disch:=omega) only [go_sem,↓reduceIte,reduceCtorEq,rq,hw]
    refine ⟨_,_,Shift.refl _ _ _ _,t1,by omega,rfl,ha,?_⟩
    simp -implicitDefEqProofs (disch:=omega) only [go_sem,↓reduceIte,reduceCtorEq,rq]
 ·obtain ⟨t',ht,rfl,hany,f0,f1,f7,f8⟩:=hJ
  rw [hi,List.take_length] at hany
  refine Qh [(0,.lst 1 (Qb c) false),(1,f),(7,.int .i64 c.length),(8,.int .i64 ((i:Nat):Int))] ⟨f0,f1,f7,f8,trivial⟩  1000 ?_
  simp -implicitDefEqProofs (disch:=omega) only [go_sem,↓reduceIte,reduceCtorEq,rq,hi,Int.lt_irrefl]
  exact ⟨⟨t',ht,rfl⟩,hany⟩
 ·obtain ⟨⟨t',ht,rfl⟩,⟨rfl,hany,n,hn,f4⟩ | ⟨rfl,hany⟩⟩:=hE
  ·refine Qg 1000 ?_
   simp -implicitDefEqProofs (disch:=omega) only [go_sem,f4]
   exact ⟨⟨n,rfl,by rw [if_pos hany]; exact hn⟩,t',ht,rfl⟩
  ·refine Qg 1000 ?_
   simp -implicitDefEqProofs (disch:=omega) only [go_sem,↓reduceIte]
   exact ⟨⟨-1,rfl,by rw [hany]; rfl⟩,t',ht,rfl⟩
theorem QMc (hT:Qe P tab) {o:List (Option Ob)} {p:Int→Bool} (hp:QtK P G base f o p c) (hl:c.length≤1000000) :
 C P G base Q9 [.lst 1 (Qb c) false,f] ⟨t,o⟩ fun v σ=>v=.bool (c.any p)∧∃ t',t≤t'∧σ=⟨t',o⟩:=by
 refine Qo hT QH (by simp [Qr]) (Qm 1000 ?_)
 simp -implicitDefEqProofs (disch:=omega) only [go_sem,↓reduceIte,reduceCtorEq,rq]
 refine call hT QE (c_IdxI hT hp hl) 1000 fun v σ hv=>?_
 obtain ⟨⟨n,rfl,hn⟩,t',ht,rfl⟩:=hv
 have e:=QxN hn
 simp -implicitDefEqProofs (disch:=omega) only [go_sem,↓reduceIte,reduceCtorEq,rq,e]
 exact ⟨t',ht,rfl⟩
theorem c_some (hT:Qe P tab) {o:List (Option Ob)} {p:Int→Bool} (hp:QtK P G base f o p c) (hl:c.length≤1000000) :
 C P G base Qa8 [.lst 1 (Qb c) false,f] ⟨t,o⟩ fun v σ=>v=.bool (c.any p)∧∃ t',t≤t'∧σ=⟨t',o⟩:=by
 refine Qo hT Yq (by simp [YB]) (Qm 1000 ?_)
 simp -implicitDefEqProofs (disch:=omega) only [go_sem,↓reduceIte,reduceCtorEq,rq]
 refine call hT QH (QMc hT hp hl) 1000 fun v σ hv=>?_
 obtain ⟨rfl,t',ht,rfl⟩:=hv
 simp -implicitDefEqProofs (disch:=omega) only [go_sem,↓reduceIte,reduceCtorEq,rq]
 exact ⟨t',ht,rfl⟩
variable {p:List Int→Bool}
theorem c_IdxR (hT:Qe P tab) {o:List (Option Ob)} {c:List (List Int)} (hp:QmG P G base f o p c) (hl:c.length≤2000000) :
 C P G base Z3 [.lst 1 (c.map row) false,f] ⟨t,o⟩ fun v σ=>idxQ (c.any p) v∧∃ t',t≤t'∧σ=⟨t',o⟩:=by
 refine Qo hT Z1 (by simp [XG]) (Qm 1000 ?_)
 simp -implicitDefEqProofs (disch:=omega) only [go_sem,↓reduceIte,reduceCtorEq,rq,lM]
 refine Yn c (fun i fr σ=>∃ t',t≤t'∧σ=⟨t',o⟩∧(c.take i).any p=false∧Qd fr 0=.lst 1 (c.map row) false∧Qd fr 1=f∧Qd fr 7=.int .i64 c.length∧Qd fr 8=.int .i64 ((i:Nat):Int))
  (fun e fr σ=>(∃ t',t≤t'∧σ=⟨t',o⟩)∧((e=.ret∧c.any p=true∧∃ n:Int,0≤n∧Qd fr 4=.int .i64 n)∨(e=.ex 0∧c.any p=false))) ⟨t,lR _,rfl,rfl,by simp -implicitDefEqProofs (disch:=omega) only [go_sem,↓reduceIte],by simp -implicitDefEqProofs (disch:=omega) only [go_sem,↓reduceIte,reduceCtorEq],by simp -implicitDefEqProofs (disch:=omega) only [go_sem,↓reduceIte,reduceCtorEq,rq],by simp -implicitDefEqProofs (disch:=omega) only [go_sem,↓reduceIte,reduceCtorEq,rq]; rfl⟩ (fun i u hu fr σ hJ=>?_) (fun i hi fr σ hJ=>?_) (fun e fr σ hE=>?_)
 ·obtain ⟨t',ht,rfl,hany,f0,f1,f7,f8⟩:=hJ
  have hlt:=(List.getElem?_eq_some_iff.1 hu).1
  have hum:=List.mem_of_getElem? hu
  have hki:(i:Int)<c.length:=by omega
  have hk0:(0:Int)≤(i:Int):=by omega
  have hw:=QhJ hlt (by omega)
  have gu:=QwV hu
  have ha:=QqE (f:=p) hu
  rw [hany,Bool.false_or] at ha
  refine Qh [(0,.lst 1 (c.map row) false),(1,f),(7,.int .i64 c.length),(8,.int .i64 ((i:Nat):Int))] ⟨f0,f1,f7,f8,trivial⟩  1000 ?_
  simp -implicitDefEqProofs (disch:=omega) only [go_sem,↓reduceIte,reduceCtorEq,rq,hki,hk0,hlt,Int.toNat_natCast,gu,lM]
  refine CV.use 1000 (hp _ u hum) fun v σ hv=>?_
  obtain ⟨rfl,t1,ht1,rfl⟩:=hv
  cases hf:p u with
  | true =>
    simp -implicitDefEqProofs (disch:=omega) only [go_sem,↓reduceIte,reduceCtorEq,rq]
    refine ⟨⟨t1,by omega,rfl⟩,List.any_eq_true.2 ⟨u,hum,hf⟩,(i:Int),hk0,?_⟩
    simp -implicitDefEqProofs (disch:=omega) only [go_sem]
  | false =>
    rw [hf] at ha
    simp -implicitDefEqProofs (disch:=omega) only [go_sem,↓reduceIte,reduceCtorEq,rq,hw]
    refine ⟨_,_,Shift.refl _ _ _ _,t1,by omega,rfl,ha,?_⟩
    simp -implicitDefEqProofs (disch:=omega) only [go_sem,↓reduceIte,reduceCtorEq,rq]
 ·obtain ⟨t',ht,rfl,hany,f0,f1,f7,f8⟩:=hJ
  rw [hi,List.take_length] at hany
  refine Qh [(0,.lst 1 (c.map row) false),(1,f),(7,.int .i64 c.length),(8,.int .i64 ((i:Nat):Int))] ⟨f0,f1,f7,f8,trivial⟩  1000 ?_
  simp -implicitDefEqProofs (disch:=omega) only [go_sem,↓reduceIte,reduceCtorEq,rq,hi,Int.lt_irrefl]
  exact ⟨⟨t',ht,rfl⟩,hany⟩
 ·obtain ⟨⟨t',ht,rfl⟩,⟨rfl,hany,n,hn,f4⟩ | ⟨rfl,hany⟩⟩:=hE
  ·refine Qg 1000 ?_
   simp -implicitDefEqProofs (disch:=omega) only [go_sem,f4]
   exact ⟨⟨n,rfl,by rw [if_pos hany]; exact hn⟩,t',ht,rfl⟩
  ·refine Qg 1000 ?_
   simp -implicitDefEqProofs (disch:=omega) only [go_sem,↓reduceIte]
   exact ⟨⟨-1,rfl,by rw [hany]; rfl⟩,t',ht,rfl⟩
theorem QMb (hT:Qe P tab) {o:List (Option Ob)} {c:List (List Int)} (hp:QmG P G base f o p c) (hl:c.length≤2000000) :
 C P G base Zm [.lst 1 (c.map row) false,f] ⟨t,o⟩ fun v σ=>v=.bool (c.any p)∧∃ t',t≤t'∧σ=⟨t',o⟩:=by
 refine Qo hT Zk (by simp [Xe]) (Qm 1000 ?_)
 simp -implicitDefEqProofs (disch:=omega) only [go_sem,↓reduceIte,reduceCtorEq,rq]
 refine call hT Z1 (c_IdxR hT hp hl) 1000 fun v σ hv=>?_
 obtain ⟨⟨n,rfl,hn⟩,t',ht,rfl⟩:=hv
 have e:=QxN hn
 simp -implicitDefEqProofs (disch:=omega) only [go_sem,↓reduceIte,reduceCtorEq,rq,e]
 exact ⟨t',ht,rfl⟩
theorem c_notR (hT:Qe P tab) {tb:Nat} {o:List (Option Ob)} {c:List (List Int)} {k T:Nat} (ho:o[k]?=some (some (.arr tb T [f]))) (hp:QmG P G base f o p c) :
 QmG P G base (.fn (.func QbK) [] [.ptr k tb 0]) o (fun n=>!p n) c:=fun t n hn=>by
 refine CV.of hT QbE (Qo hT QbE (by simp [YR]) (Qm 1000 ?_))
 simp -implicitDefEqProofs (disch:=omega) only [go_sem,↓reduceIte,reduceCtorEq,rq,ho]
 refine CV.use 1000 (hp t n hn) fun v σ hv=>?_
 obtain ⟨rfl,t',ht,rfl⟩:=hv
 simp -implicitDefEqProofs (disch:=omega) only [go_sem,↓reduceIte,reduceCtorEq,rq]
 exact ⟨t',ht,rfl⟩
theorem c_allR (hT:Qe P tab) {g:Nat} {o:List (Option Ob)} {cap:List V} {c:List (List Int)} (hb:base≤o.length) (hp:∀ ex,QmG P G base (.fn (.func g) [] cap) (o++ex) p c) (hl:c.length≤2000000) :
 C P G base Qee [.lst 1 (c.map row) false,.fn (.func g) [] cap] ⟨t,o⟩ fun v σ=>v=.bool (c.all p)∧∃ t',t≤t'∧σ=⟨t',o⟩:=by
 refine Qj o.length hb (Qo hT Qea (by simp [Qal]) (Qm 1000 ?_))
 simp -implicitDefEqProofs (disch:=omega) only [go_sem,↓reduceIte,reduceCtorEq,rq]
 have hn:=c_notR (P:=P) (G:=G) (base:=base) (k:=o.length) (tb:=t) (T:=96) hT (by simp) (hp [some (.arr t 96 [.fn (.func g) [] cap])])
 refine call hT Zk (QMb hT hn hl) 1000 fun v σ hv=>?_
 obtain ⟨rfl,t',ht,rfl⟩:=hv
 simp -implicitDefEqProofs (disch:=omega) only [go_sem,↓reduceIte,reduceCtorEq,rq]
 exact ⟨by simp,by rw [List.all_eq_not_any_not],t',by omega,rfl,by simp⟩
end
section
attribute [local go_sem] nFq nT aZ lR zA zL beq_self_eq_true bne_self_eq_false Qbl ZU YS QHz QHy zqz_0 zqz_1 zqe_0 zqe_1 zqe_2 zqe_3 ZT QIY QIX QuS QuR QuQ QuP QIW QIV QIU QIT QIS QIR QIQ QIP Qdi QHx QHw decide_false decide_true gt_iff_lt
def absI (n:Int):Int:=if n<0 then -n else n
theorem c_abs (hT:Qe P tab) (n:Int) (h:-1000000000≤n∧n≤1000000000):Pure P G QjJ [.int .i64 n] fun u=>u=.int .i64 (absI n):=by
 intro t
 have e:IntKind.i64.wrap (0 - n)=-n:=by rw [wrap_i64 (by omega) (by omega)]; omega
 have e3:(if n < -n then -n else n)=absI n:=by unfold absI; split <;> split <;> omega
 refine Qj 0 (zL _) (Qo hT QeP (by simp [Qdi]) (Qm 1000 ?_))
 simp -implicitDefEqProofs (disch:=omega) only [go_sem,↓reduceIte,reduceCtorEq,rq,e,e3]
variable {m:List Bool} {base kb tb T:Nat}
theorem k_H11 (hT:Qe P tab) {o:List (Option Ob)} {c:List Int} (hc:∀ n∈c,lit m.length n) (hm:m.length≤9000000) (h1:o[kb]?=some (some (.arr tb T [.lst 1 (nbs m) false]))) :
 QtK P G base (.fn (.func QbL) [] [.ptr kb tb 0]) o (lv m) c:=fun t n hn=>by
 obtain ⟨h0,h2,h3⟩:=hc n hn
 have hA:=c_abs (P:=P) (G:=G) hT n (by omega)
 refine CV.of hT QbF (Qo hT QbF (by simp [YS]) (Qm 1000 ?_))
 unfold lv
 by_cases hneg:n<0
 ·have ea:absI n=-n:=if_pos hneg
  have e1:IntKind.i64.wrap (-n - 1)=-n - 1:=wrap_i64 (by omega) (by omega)
  have e2:0≤-n - 1:=by omega
  have e3:-n - 1<(m.length:Int):=by omega
  have e4:=Qbs (M:=m) (i:=(-n - 1).toNat) (by omega)
  have e5:(-n - 1).toNat<m.length:=by omega
  have e6:decide (0<n)=false:=decide_eq_false (by omega)
  have e7:¬ 0<n:=by omega
  rw [ea] at hA
  rw [if_pos hneg]
  simp -implicitDefEqProofs (disch:=omega) only [go_sem,↓reduceIte,reduceCtorEq,rq,h1]
  refine Qy hT QeP hA rfl 1000 ?_
  cases hb:m.getD (-n - 1).toNat false <;> rw [hb] at e4 <;>
  ·simp -implicitDefEqProofs (disch:=omega) only [go_sem,↓reduceIte,reduceCtorEq,rq,e1,e2,e4,e5,e7,Yp]
   first | exact ⟨t,lR _,rfl⟩ | exact ⟨rfl,t,lR _,rfl⟩
 ·have ea:absI n=n:=if_neg hneg
  have e1:IntKind.i64.wrap (n - 1)=n - 1:=wrap_i64 (by omega) (by omega)
  have e2:0≤n - 1:=by omega
  have e3:n - 1<(m.length:Int):=by omega
  have e4:=Qbs (M:=m) (i:=(n - 1).toNat) (by omega)
  have e5:(n - 1).toNat<m.length:=by omega
  have e6:decide (0<n)=true:=decide_eq_true (by omega)
  have e7:0<n:=by omega
  rw [ea] at hA
  rw [if_neg hneg]
  simp -implicitDefEqProofs (disch:=omega) only [go_sem,↓reduceIte,reduceCtorEq,rq,h1]
  refine Qy hT QeP hA rfl 1000 ?_
  cases hb:m.getD (n - 1).toNat false <;> rw [hb] at e4 <;>
  ·simp -implicitDefEqProofs (disch:=omega) only [go_sem,↓reduceIte,reduceCtorEq,rq,e1,e2,e4,e5,e7,Yp]
   first | exact ⟨t,lR _,rfl⟩ | exact ⟨rfl,t,lR _,rfl⟩
variable {F:List (List Int)}
theorem k_H1 (hT:Qe P tab) {o:List (Option Ob)} (hF:∀ c∈F,∀ n∈c,lit m.length n) (hc:∀ c∈F,c.length≤1000000) (hm:m.length≤9000000) (h1:o[kb]?=some (some (.arr tb T [.lst 1 (nbs m) false]))) :
 QmG P G base (.fn (.func Qdb) [] [.ptr kb tb 0]) o (fun c=>c.any (lv m)) F:=fun t c hcF=>by
 refine CV.of hT Qc5 (Qo hT Qc5 (by simp [ZU]) (Qm 1000 ?_))
 simp -implicitDefEqProofs (disch:=omega) only [go_sem,↓reduceIte,reduceCtorEq,rq]
 refine call hT Yq (c_some hT (k_H11 hT (hF c hcF) hm h1) (hc c hcF)) 1000 fun v σ hv=>?_
 obtain ⟨rfl,t',ht,rfl⟩:=hv
 simp -implicitDefEqProofs (disch:=omega) only [go_sem,↓reduceIte,reduceCtorEq,rq]
 first | exact ⟨t',ht,rfl⟩ | exact ⟨rfl,t',ht,rfl⟩
theorem QAT (hT:Qe P tab) {n:Nat} (hF:∀ c∈F,∀ l∈c,lit n l) (hc:∀ c∈F,c.length≤1000000) (hn:n≤9000000) (hl:F.length≤1048576):Pure P G QcO [fml n F] fun v=>v=.bool true:=by
 intro t
 have g1:¬ (n:Int)<0:=by omega
 have g2:¬ (16777216:Int)<(n:Int):=by omega
 have g3:¬ (1048576:Int)<(F.length:Int):=by omega
 have g4:IntKind.i64.wrap (0 - (n:Int))=-(n:Int):=by rw [wrap_i64 (by omega) (by omega)]; omega
 unfold fml
 refine Qj 0 (zL _) (Qo hT Qaj (by simp [ZT]) (Qm 1000 ?_))
 simp -implicitDefEqProofs (disch:=omega) only [go_sem,↓reduceIte,reduceCtorEq,rA,rq,rL,g1,g2,g3,lM,lC,lN]
 refine Yn F (fun i fr σ=>∃ vb t',σ=⟨t',[some (.arr vb 53 [.int .i64 n,.lst 1 (F.map row) false])]⟩∧Qd fr 1=.ptr 0 vb 0∧Qd fr 22=.lst 1 (F.map row) false∧Qd fr 23=.int .i64 F.length∧Qd fr 24=.int .i64 ((i:Nat):Int)) (fun e fr σ=>e=.ex 0) ⟨t,t+1,rfl,by simp -implicitDefEqProofs (disch:=omega) only [go_sem,↓reduceIte,reduceCtorEq],by simp -implicitDefEqProofs (disch:=omega) only [go_sem,↓reduceIte,reduceCtorEq,rq],by simp -implicitDefEqProofs (disch:=omega) only [go_sem,↓reduceIte,reduceCtorEq,rq],by simp -implicitDefEqProofs (disch:=omega) only [go_sem,↓reduceIte,reduceCtorEq,rq]; rfl⟩ (fun i c hci fr σ hJ=>?_) (fun i hi fr σ hJ=>?_) (fun e fr σ hE=>?_)
 ·obtain ⟨vb,t',rfl,f1,f22,f23,f24⟩:=hJ
  have hlt:=(List.getElem?_eq_some_iff.1 hci).1
  have hcm:=List.mem_of_getElem? hci
  have hki:(i:Int)<F.length:=by omega
  have hk0:(0:Int)≤(i:Int):=by omega
  have hw:=QhJ hlt (by omega)
  have gu:=QwV hci
  have hcl:=hc c hcm
  refine Qh [(1,.ptr 0 vb 0),(22,.lst 1 (F.map row) false),(23,.int .i64 F.length),(24,.int .i64 ((i:Nat):Int))] ⟨f1,f22,f23,f24,trivial⟩  1000 ?_
  simp -implicitDefEqProofs (disch:=omega) only [go_sem,↓reduceIte,rq,hki,hk0,hlt,Int.toNat_natCast,gu,lM,Qi]
  refine Yn c (fun k fr σ=>σ=⟨t',[some (.arr vb 53 [.int .i64 n,.lst 1 (F.map row) false])]⟩∧Qd fr 1=.ptr 0 vb 0∧Qd fr 22=.lst 1 (F.map row) false∧Qd fr 23=.int .i64 F.length∧Qd fr 24=.int .i64 ((i:Nat):Int)∧Qd fr 28=.lst 1 (Qb c) false∧Qd fr 29=.int .i64 c.length∧Qd fr 30=.int .i64 ((k:Nat):Int)) (fun e fr σ=>e=.ex 2∧σ=⟨t',[some (.arr vb 53 [.int .i64 n,.lst 1 (F.map row) false])]⟩∧Qd fr 1=.ptr 0 vb 0∧Qd fr 22=.lst 1 (F.map row) false∧Qd fr 23=.int .i64 F.length∧Qd fr 24=.int .i64 ((i:Nat):Int)) ⟨rfl,by simp -implicitDefEqProofs (disch:=omega) only [go_sem,↓reduceIte],by simp -implicitDefEqProofs (disch:=omega) only [go_sem,↓reduceIte,rq],by simp -implicitDefEqProofs (disch:=omega) only [go_sem,↓reduceIte,rq],by simp -implicitDefEqProofs (disch:=omega) only [go_sem,↓reduceIte,rq],by simp -implicitDefEqProofs (disch:=omega) only [go_sem,↓reduceIte,rq],by simp -implicitDefEqProofs (disch:=omega) only [go_sem,↓reduceIte,rq],by simp -implicitDefEqProofs (disch:=omega) only [go_sem,↓reduceIte,rq]; rfl⟩ (fun k l hkl fr σ hJ=>?_) (fun k hk fr σ hJ=>?_) (fun e fr σ hE=>?_)
  ·obtain ⟨rfl,f1,f22,f23,f24,f28,f29,f30⟩:=hJ
   have hlk:=(List.getElem?_eq_some_iff.1 hkl).1
   have hkk:(k:Int)<c.length:=by omega
   have hkk0:(0:Int)≤(k:Int):=by omega
   have hwk:=QhJ hlk (by omega)
   have gl:=QiF hkl
   obtain ⟨l0,l1,l2⟩:=hF c hcm l (List.mem_of_getElem? hkl)
   have d0:(l==0)=false:=beq_eq_false_iff_ne.2 l0
   have d0':decide (l=0)=false:=decide_eq_false l0
   have d1:¬ (n:Int)<l:=by omega
   have d2:¬ l < -(n:Int):=by omega
   refine Qh [(1,.ptr 0 vb 0),(22,.lst 1 (F.map row) false),(23,.int .i64 F.length),(24,.int .i64 ((i:Nat):Int)),(28,.lst 1 (Qb c) false),(29,.int .i64 c.length),(30,.int .i64 ((k:Nat):Int))] ⟨f1,f22,f23,f24,f28,f29,f30,trivial⟩  1000 ?_
   simp -implicitDefEqProofs (disch:=omega) only [go_sem,↓reduceIte,rA,rq,rL,hkk,hkk0,hlk,Int.toNat_natCast,gl,Qi,g4,d0,d1,d2,hwk,lC,lN]
   refine ⟨_,_,Shift.refl _ _ _ _,rfl,?_⟩
   simp -implicitDefEqProofs (disch:=omega) only [go_sem,↓reduceIte,rq]
  ·obtain ⟨rfl,f1,f22,f23,f24,f28,f29,f30⟩:=hJ
   refine Qh [(1,.ptr 0 vb 0),(22,.lst 1 (F.map row) false),(23,.int .i64 F.length),(24,.int .i64 ((i:Nat):Int)),(28,.lst 1 (Qb c) false),(29,.int .i64 c.length),(30,.int .i64 ((k:Nat):Int))] ⟨f1,f22,f23,f24,f28,f29,f30,trivial⟩  1000 ?_
   simp -implicitDefEqProofs (disch:=omega) only [go_sem,↓reduceIte,rq,hk,Int.lt_irrefl]
   try exact ⟨rfl,rfl,rfl,rfl,rfl⟩
  ·obtain ⟨rfl,rfl,f1,f22,f23,f24⟩:=hE
   refine Qo2 [(1,.ptr 0 vb 0),(22,.lst 1 (F.map row) false),(23,.int .i64 F.length),(24,.int .i64 ((i:Nat):Int))] ⟨f1,f22,f23,f24,trivial⟩ 1000 ?_
   simp -implicitDefEqProofs (disch:=omega) only [go_sem,↓reduceIte,rq,hw]
   refine ⟨_,_,Shift.refl _ _ _ _,vb,t',rfl,?_⟩
   simp -implicitDefEqProofs (disch:=omega) only [go_sem,↓reduceIte,rq]
 ·obtain ⟨vb,t',rfl,f1,f22,f23,f24⟩:=hJ
  refine Qh [(1,.ptr 0 vb 0),(22,.lst 1 (F.map row) false),(23,.int .i64 F.length),(24,.int .i64 ((i:Nat):Int))] ⟨f1,f22,f23,f24,trivial⟩  1000 ?_
  simp -implicitDefEqProofs (disch:=omega) only [go_sem,↓reduceIte,rq,hi,Int.lt_irrefl]
 ·subst hE
  refine Qg 1000 ?_
  simp -implicitDefEqProofs (disch:=omega) only [go_sem,↓reduceIte]
theorem Qq5:∀ F:List (List Int),Qc (F.map row)=true
 | []=>rfl
 | c::F=>by have:=Qq5 F; simpa [Qc,Qf,row] using this
theorem QtE (hT:Qe P tab) (hF:∀ c∈F,∀ l∈c,lit m.length l) (hc:∀ c∈F,c.length≤1000000) (hm:m.length≤9000000) (hl:F.length≤1048576) :
 Pure P G Qbd [fml m.length F,.lst 1 (nbs m) false] fun u=>u=.bool (F.all fun c=>c.any (lv m)):=by
 intro t
 have hR:=QAT (P:=P) (G:=G) hT hF hc hm hl
 have nF:Qc [fml m.length F]=true:=by simp [fml,Qc,Qf]
 unfold fml at hR nF ⊢
 refine Qj 0 (zL _) (Qo hT Qak (by simp [Qbl]) (Qm 1000 ?_))
 simp -implicitDefEqProofs (disch:=omega) only [go_sem,↓reduceIte,reduceCtorEq,rA,rq,lC,lN]
 refine Qy hT Qaj hR nF 1000 ?_
 simp -implicitDefEqProofs (disch:=omega) only [go_sem,↓reduceIte,reduceCtorEq,rA,rq,rL,Yp,lC,lN]
 have hK:=fun ex=>k_H1 (P:=P) (G:=G) (base:=0) (kb:=1) (tb:=t+1) (T:=49) (o:=[some (.arr t 53 [.int .i64 m.length,.lst 1 (F.map row) false]),some (.arr (t+1) 49 [.lst 1 (nbs m) false])]++ex) (m:=m) hT (F:=F) hF hc hm (by simp)
 refine call hT Qea (c_allR hT (o:=[some (.arr t 53 [.int .i64 m.length,.lst 1 (F.map row) false]),some (.arr (t+1) 49 [.lst 1 (nbs m) false])]) (zL _) hK (by omega)) 1000 fun u σ hu=>?_
 obtain ⟨rfl,t',ht,rfl⟩:=hu
 simp -implicitDefEqProofs (disch:=omega) only [go_sem,↓reduceIte,reduceCtorEq,rA,rq]
theorem QAV (hT:Qe P tab) (hF:∀ c∈F,∀ l∈c,lit m.length l) (hh:∀ c∈F,c.any (lv m)=true) (hc:∀ c∈F,c.length≤1000000) (hm:m.length≤9000000) (hl:F.length≤1048576) :
 Pure P G Qbd [fml m.length F,.lst 1 (nbs m) false] fun u=>u=.bool true:=by
 have:=QtE (P:=P) (G:=G) hT hF hc hm hl
 rwa [List.all_eq_true.2 fun c hcm=>hh c hcm] at this
end
section
attribute [local go_sem] nFq nT aZ lR Nat.succ_ne_zero zA zL beq_self_eq_true decide_false decide_true gt_iff_lt YQ zq2_0 zq2_1 zq2_2 zq2_3 zq2_4 zq2_5 zq2_6 zq2_7 X7 QHi QHh QHg QHf QHe QHd QHc Yf zqi_0 zqi_1 X6 zqh_0 zqh_1 zqh_2 zqh_3 zqh_4 zqh_5 zqh_6 zqh_7
variable {M:List Bool} {l:Int}
theorem Quz (hT:Qe P tab) (hl:lit M.length l) (hM:M.length≤9000000):Pure P G QaM [.lst 1 [.int .i64 l] true,.lst 1 (nbs M) false] fun v=>v=.bool (lv M l):=by
 intro t
 obtain ⟨h0,h1,h2⟩:=hl
 refine Qj 0 (zL _) (Qo hT QaI (by simp [X7]) (Qm 1000 ?_))
 simp -implicitDefEqProofs (disch:=omega) only [go_sem,↓reduceIte,reduceCtorEq,rq]
 refine Yn [l] (fun i fr σ=>∃ t',σ=⟨t',[]⟩∧((i=0)∨lv M l=false)∧Qd fr 0=.lst 1 [.int .i64 l] true∧Qd fr 1=.lst 1 (nbs M) false∧Qd fr 5=.int .i64 ((i:Nat):Int)) (fun e fr σ=>(e=.ret∧lv M l=true∧Qd fr 4=.bool true)∨(e=.ex 0∧lv M l=false)) ⟨t,rfl,.inl rfl,by simp -implicitDefEqProofs (disch:=omega) only [go_sem,↓reduceIte],by simp -implicitDefEqProofs (disch:=omega) only [go_sem,↓reduceIte,reduceCtorEq],by simp -implicitDefEqProofs (disch:=omega) only [go_sem,↓reduceIte,reduceCtorEq,rq]; rfl⟩ (fun i c hci fr σ hJ=>?_) (fun i hi fr σ hJ=>?_) (fun e fr σ hE=>?_)
 ·obtain ⟨t',rfl,-,f0,f1,f5⟩:=hJ
  have hi0:i=0:=by
   have:=(List.getElem?_eq_some_iff.1 hci).1
   simp at this; exact this
  have hki:(i:Int)<1:=by omega
  have hk0:(0:Int)≤(i:Int):=by omega
  have hwi:IntKind.i64.wrap ((i:Int)+1)=((i+1:Nat):Int):=by rw [wrap_i64 (by omega) (by omega)]; omega
  have gl:[V.int .i64 l].getD i V.any=.int .i64 l:=by rw [hi0]; rfl
  have hlt:i<1:=by omega
  cases hv:lv M l with
  | true =>
    unfold lv at hv
    refine Qh [(0,.lst 1 [.int .i64 l] true),(1,.lst 1 (nbs M) false),(5,.int .i64 ((i:Nat):Int))] ⟨f0,f1,f5,trivial⟩  1000 ?_
    by_cases hn:l<0
    ·rw [if_pos hn] at hv
     have e0:IntKind.i64.wrap (0 - l)=-l:=by rw [wrap_i64 (by omega) (by omega)]; omega
     have e1:IntKind.i64.wrap (-l - 1)=-l - 1:=wrap_i64 (by omega) (by omega)
     have e2:0≤-l - 1:=by omega
     have e3:-l - 1<(M.length:Int):=by omega
     have e4:=Qbs (M:=M) (i:=(-l - 1).toNat) (by omega)
     have e5:(-l - 1).toNat<M.length:=by omega
     have e7:¬ 0<l:=by omega
     have e6:decide (0<l)=false:=decide_eq_false e7
     have hb:M.getD (-l - 1).toNat false=false:=by revert hv; cases M.getD (-l - 1).toNat false <;> simp
     rw [hb] at e4
     simp -implicitDefEqProofs (disch:=omega) only [go_sem,↓reduceIte,reduceCtorEq,rA,rq,hk0,gl,hlt,Int.toNat_natCast,e0,e1,e2,e4,e5,e7,hn,Yp,lC,lN]
     try exact .inl ⟨rfl,rfl⟩
    ·rw [if_neg hn] at hv
     have e1:IntKind.i64.wrap (l - 1)=l - 1:=wrap_i64 (by omega) (by omega)
     have e2:0≤l - 1:=by omega
     have e3:l - 1<(M.length:Int):=by omega
     have e4:=Qbs (M:=M) (i:=(l - 1).toNat) (by omega)
     have e5:(l - 1).toNat<M.length:=by omega
     have e7:0<l:=by omega
     have e6:decide (0<l)=true:=decide_eq_true e7
     rw [hv] at e4
     simp -implicitDefEqProofs (disch:=omega) only [go_sem,↓reduceIte,reduceCtorEq,rA,rq,hk0,gl,hlt,Int.toNat_natCast,e1,e2,e4,e5,e7,Yp,lC,lN]
     try exact .inl ⟨rfl,rfl⟩
  | false =>
    have hv0:=hv
    unfold lv at hv
    refine Qh [(0,.lst 1 [.int .i64 l] true),(1,.lst 1 (nbs M) false),(5,.int .i64 ((i:Nat):Int))] ⟨f0,f1,f5,trivial⟩  1000 ?_
    by_cases hn:l<0
    ·rw [if_pos hn] at hv
     have e0:IntKind.i64.wrap (0 - l)=-l:=by rw [wrap_i64 (by omega) (by omega)]; omega
     have e1:IntKind.i64.wrap (-l - 1)=-l - 1:=wrap_i64 (by omega) (by omega)
     have e2:0≤-l - 1:=by omega
     have e3:-l - 1<(M.length:Int):=by omega
     have e4:=Qbs (M:=M) (i:=(-l - 1).toNat) (by omega)
     have e5:(-l - 1).toNat<M.length:=by omega
     have e7:¬ 0<l:=by omega
     have e6:decide (0<l)=false:=decide_eq_false e7
     have hb:M.getD (-l - 1).toNat false=true:=by revert hv; cases M.getD (-l - 1).toNat false <;> simp
     rw [hb] at e4
     simp -implicitDefEqProofs (disch:=omega) only [go_sem,↓reduceIte,reduceCtorEq,rA,rq,hk0,hwi,gl,hlt,Int.toNat_natCast,e0,e1,e2,e4,e5,e7,hn,Yp,lC,lN]
     refine ⟨_,_,Shift.refl _ _ _ _,t',rfl,?_⟩
     simp -implicitDefEqProofs (disch:=omega) only [go_sem,↓reduceIte,reduceCtorEq,rq]
    ·rw [if_neg hn] at hv
     have e1:IntKind.i64.wrap (l - 1)=l - 1:=wrap_i64 (by omega) (by omega)
     have e2:0≤l - 1:=by omega
     have e3:l - 1<(M.length:Int):=by omega
     have e4:=Qbs (M:=M) (i:=(l - 1).toNat) (by omega)
     have e5:(l - 1).toNat<M.length:=by omega
     have e7:0<l:=by omega
     have e6:decide (0<l)=true:=decide_eq_true e7
     rw [hv] at e4
     simp -implicitDefEqProofs (disch:=omega) only [go_sem,↓reduceIte,reduceCtorEq,rA,rq,hk0,hwi,gl,hlt,Int.toNat_natCast,e1,e2,e4,e5,e7,hn,Yp,lC,lN]
     refine ⟨_,_,Shift.refl _ _ _ _,t',rfl,?_⟩
     simp -implicitDefEqProofs (disch:=omega) only [go_sem,↓reduceIte,reduceCtorEq,rq]
 ·obtain ⟨t',rfl,hv,f0,f1,f5⟩:=hJ
  have hi1:i=1:=hi
  have hki:¬ (i:Int)<1:=by omega
  have hv:lv M l=false:=by rcases hv with h | h; omega; exact h
  rw [hi1] at f5
  refine Qh [(0,.lst 1 [.int .i64 l] true),(1,.lst 1 (nbs M) false),(5,.int .i64 1)] ⟨f0,f1,f5,trivial⟩ 1000 ?_
  have h11:¬ (1:Int)<((1:Nat):Int):=by omega
  simp -implicitDefEqProofs (disch:=omega) only [go_sem,↓reduceIte,reduceCtorEq,rq,h11,lC,lN]
  first | exact hv | exact ⟨rfl,hv⟩ | exact .inr hv
 ·rcases hE with ⟨rfl,hv,f4⟩ | ⟨rfl,hv⟩
  ·refine Qg 1000 ?_
   simp -implicitDefEqProofs (disch:=omega) only [go_sem,f4,hv]
  ·refine Qg 1000 ?_
   simp -implicitDefEqProofs (disch:=omega) only [go_sem,↓reduceIte,hv]
theorem Qfy (hT:Qe P tab) (hl:lit M.length l) (hM:M.length≤9000000):Pure P G Qa0 [.int .i64 l,.lst 1 (nbs M) false] fun v=>v=.bool (lv M l):=by
 intro t
 have hC:=Quz (P:=P) (G:=G) hT hl hM
 have hnl:Qc [V.lst 1 [V.int .i64 l] true,V.lst 1 (nbs M) false]=true:=by simp [Qc,Qf]
 obtain ⟨h0,h1,h2⟩:=hl
 have e0:IntKind.i64.wrap (0 - l)=-l:=by rw [wrap_i64 (by omega) (by omega)]; omega
 have e1:(if l < -l then -l else l)≤(M.length:Int):=by split <;> omega
 have e2:(l==0)=false:=beq_eq_false_iff_ne.2 h0
 refine Qj 0 (zL _) (Qo hT Xp (by simp [Yf]) (Qm 1000 ?_))
 simp -implicitDefEqProofs (disch:=omega) only [go_sem,↓reduceIte,reduceCtorEq,rA,rq,e0,e1,h0,Yp,false_implies,true_implies,true_and,and_true]
 refine Qy hT QaI hC hnl 1000 ?_
 simp -implicitDefEqProofs (disch:=omega) only [go_sem,↓reduceIte,reduceCtorEq,rq]
theorem QtD (hT:Qe P tab) {x:List Int} {a:Int} (hx:Nb M.length x) (hM:M.length≤9000000) (ta:Tl M x a) (ha:Qll a):Pure P G QaL [.lst 1 (Qb x) false,.lst 1 (nbs M) false] fun v=>v=.int .i64 a:=by
 intro t
 refine Qj 0 (zL _) (Qo hT Zd (by simp [X6]) (Qm 1000 ?_))
 simp -implicitDefEqProofs (disch:=omega) only [go_sem,↓reduceIte,reduceCtorEq,rq]
 refine XQ 64 (fun k fr σ=>∃ t',σ=⟨t',[]⟩∧Qd fr 0=.lst 1 (Qb x) false∧Qd fr 1=.lst 1 (nbs M) false∧Qd fr 5=.int .u64 (a % 2 ^ k)∧Qd fr 6=.int .i64 ((k:Nat):Int)) (fun e fr σ=>e=.ex 0∧∃ t',σ=⟨t',[]⟩∧Qd fr 5=.int .u64 (a % 2 ^ 64)) ⟨t,rfl,by simp -implicitDefEqProofs (disch:=omega) only [go_sem,↓reduceIte],by simp -implicitDefEqProofs (disch:=omega) only [go_sem,↓reduceIte,reduceCtorEq],by simp -implicitDefEqProofs (disch:=omega) only [go_sem,↓reduceIte,reduceCtorEq,rq]; simp [Int.emod_one],by simp -implicitDefEqProofs (disch:=omega) only [go_sem,↓reduceIte,reduceCtorEq,rq]; rfl⟩ (fun k hk fr σ hJ=>?_) (fun k hk fr σ hJ=>?_) (fun e fr σ hE=>?_)
 ·obtain ⟨t',rfl,f0,f1,f5,f6⟩:=hJ
  have hki:(k:Int)<64:=by omega
  have hk0:(0:Int)≤(k:Int):=by omega
  have hw:=w_k hk
  have gx:=hx.lts hk
  have hH:=Qfy (P:=P) (G:=G) hT (hx.all k hk) hM
  rw [ta k hk] at hH
  have hnl:Qc [V.int .i64 (gi x k),V.lst 1 (nbs M) false]=true:=by simp [Qc,Qf]
  have hsh:IntKind.u64.wrap (1 * 2 ^ min k 64)=2 ^ k:=by
   rw [Nat.min_eq_left (by omega)]
   rw [QwF hk ⟨by omega,by omega⟩,Int.one_mul]
  have hsh2:IntKind.u64.wrap (2 ^ min k 64)=2 ^ k:=by rw [← hsh,Int.one_mul]
  refine Qh [(0,.lst 1 (Qb x) false),(1,.lst 1 (nbs M) false),(5,.int .u64 (a % 2 ^ k)),(6,.int .i64 ((k:Nat):Int))] ⟨f0,f1,f5,f6,trivial⟩  1000 ?_
  simp -implicitDefEqProofs (disch:=omega) only [go_sem,↓reduceIte,reduceCtorEq,rA,rq,hki,hk0,hk,true_implies,Int.toNat_natCast,gx,QG hx.len]
  refine Qy hT Xp hH hnl 1000 ?_
  cases hb:Zc a k with
  | true =>
    have hb1:a / 2 ^ k % 2=1:=of_decide_eq_true hb
    have ho:orI .u64 (a % 2 ^ k) (2 ^ k)=a % 2 ^ (k+1):=by
     have:=Qzi (T:=a) (x:=1) hk hb1
     rwa [Int.one_mul] at this
    simp -implicitDefEqProofs (disch:=omega) only [go_sem,↓reduceIte,reduceCtorEq,rq,hsh,ho,hw,hk0,Int.toNat_natCast]
    refine ⟨_,_,Shift.refl _ _ _ _,t',rfl,?_⟩
    simp -implicitDefEqProofs (disch:=omega) only [go_sem,↓reduceIte,reduceCtorEq,rq]
  | false =>
    have hb1:¬ a / 2 ^ k % 2=1:=of_decide_eq_false hb
    have ho:a % 2 ^ k=a % 2 ^ (k+1):=by
     have:=Qim a k
     rw [Z0,show a / 2 ^ k % 2=0 by omega,Int.mul_zero,Int.add_zero]
    simp -implicitDefEqProofs (disch:=omega) only [go_sem,↓reduceIte,reduceCtorEq,rq,hw]
    refine ⟨_,_,Shift.refl _ _ _ _,t',rfl,?_⟩
    simp -implicitDefEqProofs (disch:=omega) only [go_sem,↓reduceIte,reduceCtorEq,rq,ho]
 ·obtain ⟨t',rfl,f0,f1,f5,f6⟩:=hJ
  have hki:¬ (k:Int)<64:=by omega
  rw [hk] at f5
  refine Qh [(0,.lst 1 (Qb x) false),(1,.lst 1 (nbs M) false),(5,.int .u64 (a % 2 ^ 64)),(6,.int .i64 ((k:Nat):Int))] ⟨f0,f1,f5,f6,trivial⟩ 1000 ?_
  simp -implicitDefEqProofs (disch:=omega) only [go_sem,↓reduceIte,reduceCtorEq,rA,rq,hki,hx.len,Qi]
  first | exact ⟨fun _=>⟨t',rfl⟩,fun _=>⟨t',rfl⟩⟩ | exact ⟨t',rfl⟩ | exact ⟨t',rfl,rfl⟩
 ·obtain ⟨rfl,t',rfl,f5⟩:=hE
  have e:IntKind.i64.wrap (a % 2 ^ 64)=a:=by
   rw [show (2:Int) ^ 64=18446744073709551616 from rfl,IntKind.wrap_i64]
   unfold Qll at ha; omega
  refine Qg 1000 ?_
  simp -implicitDefEqProofs (disch:=omega) only [go_sem,↓reduceIte,rq,f5,e]
def mulN (l:List Nd):Nat:=l.countP fun d=>decide (d.op=3)
def QLI (l:List Nd) (S:List Int) (C:List Cl) (top:Int):Bool:=decide ((l.length:Int)≤top)&&(decide (mulN l≤2)&&(decide (S.length≤60)&&decide (C.length≤60)))
theorem QL9 (hT:Qe P tab) {l:List Nd} {tl:Bool} {S:List Int} {tS:Bool} {C':List Cl} {tC:Bool} {top:Int} (hl:l.length≤9223372036854775807):Pure P G QbJ [.lst 6 (l.map fun d=>.agg d.cells) tl,QiX S tS 4 C' tC,.int .i64 top] fun v=>v=.bool (QLI l S C' top):=by
 intro t
 refine Qj 0 (zL _) (Qo hT Yd (by simp [YQ]) (Qm 1000 ?_))
 unfold QiX
 simp -implicitDefEqProofs (disch:=omega) only [go_sem,↓reduceIte,reduceCtorEq,rA,rq,lN]
 refine Yn l (fun i fr σ=>∃ vb t',σ=⟨t',[some (.arr vb 26 [.lst 1 (Qb S) tS,.lst 4 (C'.map Cl.v) tC])]⟩∧Qd fr 0=.lst 6 (l.map fun d=>.agg d.cells) tl∧Qd fr 2=.int .i64 top∧Qd fr 4=.ptr 0 vb 0∧Qd fr 7=.int .i64 (mulN (l.take i):Nat)∧Qd fr 8=.int .i64 ((i:Nat):Int)) (fun e fr σ=>e=.ex 0∧∃ vb t',σ=⟨t',[some (.arr vb 26 [.lst 1 (Qb S) tS,.lst 4 (C'.map Cl.v) tC])]⟩∧Qd fr 0=.lst 6 (l.map fun d=>.agg d.cells) tl∧Qd fr 2=.int .i64 top∧Qd fr 4=.ptr 0 vb 0∧Qd fr 7=.int .i64 (mulN l:Nat)) ⟨t,t+1,rfl,by simp -implicitDefEqProofs (disch:=omega) only [go_sem,↓reduceIte],by simp -implicitDefEqProofs (disch:=omega) only [go_sem,↓reduceIte,reduceCtorEq,rq],by simp -implicitDefEqProofs (disch:=omega) only [go_sem,↓reduceIte,reduceCtorEq,rq],by simp -implicitDefEqProofs (disch:=omega) only [go_sem,↓reduceIte,reduceCtorEq,rq]; rfl,by simp -implicitDefEqProofs (disch:=omega) only [go_sem,↓reduceIte,reduceCtorEq,rq]; rfl⟩ (fun i d hd fr σ hJ=>?_) (fun i hi fr σ hJ=>?_) (fun e fr σ hE=>?_)
 ·obtain ⟨vb,t',rfl,f0,f2,f4,f7,f8⟩:=hJ
  have hlt:=(List.getElem?_eq_some_iff.1 hd).1
  have hki:(i:Int)<l.length:=by omega
  have hk0:(0:Int)≤(i:Int):=by omega
  have hw:IntKind.i64.wrap ((i:Int)+1)=((i+1:Nat):Int):=by rw [wrap_i64 (by omega) (by omega)]; omega
  have gd:(l.map fun d=>V.agg d.cells).getD i V.any=.agg d.cells:=by simp [List.getD_eq_getElem?_getD,hd]
  have gd6:4≤d.cells.length:=show 4≤6 by decide
  have gd3:d.cells.getD 3 V.any=.int .u8 d.op:=rfl
  have hm:mulN (l.take (i+1))=mulN (l.take i)+if d.op=3 then 1 else 0:=by
   unfold mulN
   rw [List.take_add_one,hd,List.countP_append]
   simp [List.countP_cons]
  have hml:mulN (l.take i)≤i:=by
   have h1:mulN (l.take i)≤(l.take i).length:=List.countP_le_length
   rw [List.length_take] at h1; omega
  have hwm:IntKind.i64.wrap ((mulN (l.take i):Int)+1)=((mulN (l.take i)+1:Nat):Int):=by rw [wrap_i64 (by omega) (by omega)]; omega
  refine Qh [(0,.lst 6 (l.map fun d=>.agg d.cells) tl),(2,.int .i64 top),(4,.ptr 0 vb 0),(7,.int .i64 (mulN (l.take i):Nat)),(8,.int .i64 ((i:Nat):Int))] ⟨f0,f2,f4,f7,f8,trivial⟩  1000 ?_
  by_cases ho:d.op=3
  ·rw [if_pos ho] at hm
   simp -implicitDefEqProofs (disch:=omega) only [go_sem,↓reduceIte,reduceCtorEq,rA,rq,hki,hk0,hlt,Int.toNat_natCast,gd,gd3,gd6,lM,ho,hw,hwm,true_implies,and_true]
   refine ⟨_,_,Shift.refl _ _ _ _,vb,t',rfl,?_⟩
   simp -implicitDefEqProofs (disch:=omega) only [go_sem,↓reduceIte,reduceCtorEq,rq,hm]
  ·rw [if_neg ho] at hm
   simp -implicitDefEqProofs (disch:=omega) only [go_sem,↓reduceIte,reduceCtorEq,rA,rq,hki,hk0,hlt,Int.toNat_natCast,gd,gd3,gd6,lM,ho,hw,hwm,false_implies,true_implies,true_and,and_true]
   refine ⟨_,_,Shift.refl _ _ _ _,vb,t',rfl,?_⟩
   simp -implicitDefEqProofs (disch:=omega) only [go_sem,↓reduceIte,reduceCtorEq,rq,hm]
 ·obtain ⟨vb,t',rfl,f0,f2,f4,f7,f8⟩:=hJ
  rw [hi,List.take_length] at f7
  refine Qh [(0,.lst 6 (l.map fun d=>.agg d.cells) tl),(2,.int .i64 top),(4,.ptr 0 vb 0),(7,.int .i64 (mulN l:Nat)),(8,.int .i64 ((i:Nat):Int))] ⟨f0,f2,f4,f7,f8,trivial⟩ 1000 ?_
  simp -implicitDefEqProofs (disch:=omega) only [go_sem,↓reduceIte,reduceCtorEq,rq,hi,Int.lt_irrefl,lM]
  first | exact ⟨vb,t',rfl,rfl⟩ | exact ⟨vb,t',⟨rfl,rfl⟩,rfl⟩
 ·obtain ⟨rfl,vb,t',rfl,f0,f2,f4,f7⟩:=hE
  have e1:decide (((mulN l:Nat):Int)≤2)=decide (mulN l≤2):=by simp only [decide_eq_decide]; omega
  have e2:decide (((S.length:Nat):Int)≤60)=decide (S.length≤60):=by simp only [decide_eq_decide]; omega
  have e3:decide (((C'.length:Nat):Int)≤60)=decide (C'.length≤60):=by simp only [decide_eq_decide]; omega
  refine XN [(0,.lst 6 (l.map fun d=>.agg d.cells) tl),(2,.int .i64 top),(4,.ptr 0 vb 0),(7,.int .i64 (mulN l:Nat))] ⟨f0,f2,f4,f7,trivial⟩ 1000 ?_
  unfold QLI
  by_cases g1:(l.length:Int)≤top
  ·by_cases g2:mulN l≤2
   ·have g2':((mulN l:Nat):Int)≤2:=by omega
    by_cases g3:S.length≤60
    ·have g3':((S.length:Nat):Int)≤60:=by omega
     simp -implicitDefEqProofs (disch:=omega) only [go_sem,↓reduceIte,reduceCtorEq,rA,rq,rL,g1,g2,g2',g3,g3',e3,lM,Qi,lC,lN]
     try simp [g1,g2,g3]
    ·have g3':¬ ((S.length:Nat):Int)≤60:=by omega
     simp -implicitDefEqProofs (disch:=omega) only [go_sem,↓reduceIte,reduceCtorEq,rA,rq,rL,g1,g2,g2',g3,g3',lM,Qi,lC,lN]
     try simp [g1,g2,g3]
   ·have g2':¬ ((mulN l:Nat):Int)≤2:=by omega
    simp -implicitDefEqProofs (disch:=omega) only [go_sem,↓reduceIte,reduceCtorEq,rA,rq,g1,g2,g2',lM,lC,lN]
    try simp [g1,g2]
  ·simp -implicitDefEqProofs (disch:=omega) only [go_sem,↓reduceIte,reduceCtorEq,rq,g1,lM,lC,lN]
   try simp [g1]
end
end Go.Proofs.YtoeicjlflmmmcaaGreatDoor
