/- slices.Grow, of nothing. -/
import Derived.Test.YtoeicjlflmmmcaaGreatDoorJ12
import Derived.Test.YtoeicjlflmmmcaaGreatDoorShG
import Derived.Laws.AppendOwn
import Derived.Test.YtoeicjlflmmmcaaGreatDoorJ11
open Nat renaming reduceEqDiff → rq, reduceAdd → rA, reduceLeDiff → rL, reduceLT → rT, zero_add → zA, le_refl → lR, zero_le → zL, add_zero → aZ
open List renaming length_cons → lC, length_nil → lN, take_succ_cons → tSq, length_append → lA, nil_append → nA, cons_append → cA, append_assoc → aA, take_nil → tN, take_zero → tZ, length_map → lM
open Bool renaming not_false → nFq, not_true → nT
namespace Go.Proofs.YtoeicjlflmmmcaaGreatDoor
open Go Go.Am
set_option maxRecDepth 100000
variable {G:Nat→Option V}
set_option maxHeartbeats 1000000
theorem c_Grow {base t n:Nat} {o:List (Option Ob)} (hn:0<n) (hl:n≤2000000) :
 C Tryz.prog G base Qak [.lst 0 [] true,.int .i64 n] ⟨t,o⟩ fun r σ'=>r=.sl o.length t 0 1 0 none∧σ'=⟨t+1,o++[some (.arr t 42 [])]⟩:=by
 obtain ⟨i0,hi0,hz0,hs0,hb0⟩:∃ i0,Tryz.prog.info? 42=some i0∧i0.zero=some (.slice none 0 0)∧i0.size=1∧i0.bytes=24:=⟨_,rfl,rfl,rfl,rfl⟩
 refine C_grow fun a w=>?_
 refine (Any8.slices_Grow_grow Tryz.growI i0 (.slice none 0 0) hi0 hz0 (by omega) a 0 0 n [] w (lR _) (by omega) (by rw [hb0]; omega) (by omega) (by simp) (fun _=>rfl) (fun a _ j v h=>by simp at h)).mono fun e w' ⟨h1,h2⟩=>?_
 have hge:=grownCap_ge w (0+n) 0 42
 refine ⟨_,_,?_,h2⟩
 rw [h1]
 congr 2
 simp only [Array.size_append,size_zeroCells,List.size_toArray,lN]
 show _=0+(0+n - 0) * 1+(_ - (0+n)) * 1
 have:Tryz.growI_ren.t 25=42:=rfl
 rw [this]
 omega
end Go.Proofs.YtoeicjlflmmmcaaGreatDoor
namespace Go.Proofs.YtoeicjlflmmmcaaGreatDoor
open Go Go.Am Go.Bl
set_option maxRecDepth 100000
variable {G:Nat→Option V}
set_option maxHeartbeats 1000000
section
attribute [local go_sem] nT aZ lR Nat.mul_one zA decide_false decide_true Xq Xv zqw_0 zqw_1 QvT QvS QvR QvQ QvP QvO zqw_2 zqw_3 zqw_4 zqw_5 zqw_6 zqw_7 zqw_8 zqw_9
def nOf (i n:Nat):Nat:=if i=0 then 0 else n
def cOf (i:Nat) (l:List V):List V:=if i=0 then [] else l
theorem w1:IntKind.i64.wrap 1=((1:Nat):Int):=rfl
theorem w01:IntKind.i64.wrap (0+1)=((1:Nat):Int):=rfl
theorem w11:IntKind.i64.wrap (1+1)=((2:Nat):Int):=rfl
theorem takeT {l:List (List Int)}:List.take l.length (l.map trw)=l.map trw:=by rw [List.take_of_length_le]; simp
theorem Qvw (hT:Qe Tryz.prog tab) {g:Gr} {B:Bv} {S:St} {K:List (Int × List Int)} {E:Ev} {t w T:Nat} {o12 o13 o14:Option Ob} (h0:0<S.cs.length) (hl:S.cs.length≤1048576) :
 C Tryz.prog G 5 ZV [.sl 15 w 0 1 2 none] ⟨t,bH g B S K E++[o12,o13,o14,some (.arr w T [.sl 9 B.c 0 1 S.cs.length none,.sl 11 g.n 0 1 0 none])]⟩ fun v σ=>∃ t' u,t≤t'∧v=.sl 16 u 0 1 S.cs.length none∧σ=⟨t',bH g B S K E++[o12,o13,o14,some (.arr w T [.sl 9 B.c 0 1 S.cs.length none,.sl 11 g.n 0 1 0 none]),some (.arr u 42 (S.cs.map trw))]⟩:=by
 refine Qq hT ZS (by simp [Xv]) (Qn 1000 ?_)
 simp -implicitDefEqProofs (disch:=omega) only [go_sem,↓reduceIte,reduceCtorEq,rq]
 refine XK 2 (fun i fr σ=>Qf fr 0=.sl 15 w 0 1 2 none∧Qf fr 3=.int .i64 (nOf i S.cs.length:Nat)∧Qf fr 9=.sl 15 w 0 1 2 none∧Qf fr 10=.int .i64 2∧Qf fr 11=.int .i64 ((i:Nat):Int)∧σ=⟨t,bH g B S K E++[o12,o13,o14,some (.arr w T [.sl 9 B.c 0 1 S.cs.length none,.sl 11 g.n 0 1 0 none])]⟩) (fun e fr σ=>e=.ex 0∧Qf fr 0=.sl 15 w 0 1 2 none∧Qf fr 3=.int .i64 S.cs.length∧σ=⟨t,bH g B S K E++[o12,o13,o14,some (.arr w T [.sl 9 B.c 0 1 S.cs.length none,.sl 11 g.n 0 1 0 none])]⟩) ⟨by simp -implicitDefEqProofs (disch:=omega) only [go_sem,↓reduceIte],by simp -implicitDefEqProofs (disch:=omega) only [go_sem,↓reduceIte,reduceCtorEq,rq]; rfl,by simp -implicitDefEqProofs (disch:=omega) only [go_sem,↓reduceIte,reduceCtorEq,rq],by simp -implicitDefEqProofs (disch:=omega) only [go_sem,↓reduceIte,reduceCtorEq,rq]; rfl,by simp -implicitDefEqProofs (disch:=omega) only [go_sem,↓reduceIte,reduceCtorEq,rq]; rfl,rfl⟩ (fun i hi fr σ hJ=>?_) (fun i hi fr σ hJ=>?_) (fun e fr σ hE=>?_)
 ·obtain ⟨f0,f3,f9,f10,f11,rfl⟩:=hJ
  have hn:¬ ((S.cs.length:Nat):Int)<0:=by omega
  have hw0:IntKind.i64.wrap ((S.cs.length:Int))=(S.cs.length:Int):=wrap_i64 (by omega) (by omega)
  have hw1:IntKind.i64.wrap ((S.cs.length:Int)+((0:Nat):Int))=(S.cs.length:Int):=by rw [wrap_i64 (by omega) (by omega)]; omega
  rcases (show i=0∨i=1 by omega) with rfl | rfl
  ·have e0:nOf 0 S.cs.length=0:=rfl
   have e1:nOf (0+1) S.cs.length=S.cs.length:=rfl
   rw [e0] at f3
   refine Qm [(0,.sl 15 w 0 1 2 none),(3,.int .i64 0),(9,.sl 15 w 0 1 2 none),(10,.int .i64 2),(11,.int .i64 0)] ⟨f0,f3,f9,f10,f11,trivial⟩ 1000 ?_
   simp -implicitDefEqProofs (disch:=omega) only [go_sem,↓reduceIte,reduceCtorEq,rA,rq,rL,Int.reduceToNat,Int.reduceLE,Int.reduceLT,x15,lC,lN,true_implies,and_true,hn,hw0,Int.zero_add]
   refine ⟨_,_,Shift.refl _ _ _ _,?_⟩
   simp -implicitDefEqProofs (disch:=omega) only [go_sem,↓reduceIte,reduceCtorEq,rq,e1,w1]
  ·have e0:nOf 1 S.cs.length=S.cs.length:=rfl
   have e1:nOf (1+1) S.cs.length=S.cs.length:=rfl
   rw [e0] at f3
   refine Qm [(0,.sl 15 w 0 1 2 none),(3,.int .i64 S.cs.length),(9,.sl 15 w 0 1 2 none),(10,.int .i64 2),(11,.int .i64 1)] ⟨f0,f3,f9,f10,f11,trivial⟩ 1000 ?_
   simp -implicitDefEqProofs (disch:=omega) only [go_sem,↓reduceIte,reduceCtorEq,rA,rq,rT,Int.reduceToNat,Int.reduceLE,Int.reduceLT,x15,lC,lN,true_implies,and_true,hn,hw1,w11]
   refine ⟨_,_,Shift.refl _ _ _ _,?_⟩
   simp -implicitDefEqProofs (disch:=omega) only [go_sem,↓reduceIte,reduceCtorEq,rq,e1]
 ·obtain ⟨f0,f3,f9,f10,f11,rfl⟩:=hJ
  subst hi
  have e0:nOf 2 S.cs.length=S.cs.length:=rfl
  rw [e0] at f3
  refine Qm [(0,.sl 15 w 0 1 2 none),(3,.int .i64 S.cs.length),(9,.sl 15 w 0 1 2 none),(10,.int .i64 2),(11,.int .i64 2)] ⟨f0,f3,f9,f10,f11,trivial⟩ 1000 ?_
  simp -implicitDefEqProofs (disch:=omega) only [go_sem,↓reduceIte,reduceCtorEq,rq,Int.reduceLT,and_true]
 ·obtain ⟨rfl,f0,f3,rfl⟩:=hE
  refine YT [(0,.sl 15 w 0 1 2 none),(3,.int .i64 S.cs.length)] ⟨f0,f3,trivial⟩ 1000 ?_
  simp -implicitDefEqProofs (disch:=omega) only [go_sem,↓reduceIte,reduceCtorEq,rq]
  refine call hT Qc6 (c_Grow h0 (by omega)) 1000 fun u σ hu=>?_
  obtain ⟨rfl,rfl⟩:=hu
  simp -implicitDefEqProofs (disch:=omega) only [go_sem,↓reduceIte,reduceCtorEq,rA,rq,QA,Xi,lC,lN,cA,nA]
  refine XK 2 (fun i fr σ=>∃ t' u,t≤t'∧Qf fr 6=.sl 16 u 0 1 (nOf i S.cs.length) none∧Qf fr 25=.sl 15 w 0 1 2 none∧Qf fr 26=.int .i64 2∧Qf fr 27=.int .i64 ((i:Nat):Int)∧σ=⟨t',bH g B S K E++[o12,o13,o14,some (.arr w T [.sl 9 B.c 0 1 S.cs.length none,.sl 11 g.n 0 1 0 none]),some (.arr u 42 (cOf i (S.cs.map trw)))]⟩) (fun e fr σ=>e=.ex 2∧∃ t' u,t≤t'∧Qf fr 6=.sl 16 u 0 1 S.cs.length none∧σ=⟨t',bH g B S K E++[o12,o13,o14,some (.arr w T [.sl 9 B.c 0 1 S.cs.length none,.sl 11 g.n 0 1 0 none]),some (.arr u 42 (S.cs.map trw))]⟩) ⟨t+1,t,by omega,by simp -implicitDefEqProofs (disch:=omega) only [go_sem,↓reduceIte,reduceCtorEq,rq]; rfl,by simp -implicitDefEqProofs (disch:=omega) only [go_sem,↓reduceIte,reduceCtorEq,rq],by simp -implicitDefEqProofs (disch:=omega) only [go_sem,↓reduceIte,reduceCtorEq,rq]; rfl,by simp -implicitDefEqProofs (disch:=omega) only [go_sem,↓reduceIte,reduceCtorEq,rq]; rfl,rfl⟩ (fun i hi fr σ hJ=>?_) (fun i hi fr σ hJ=>?_) (fun e fr σ hE=>?_)
  ·obtain ⟨t',u,ht,f6,f25,f26,f27,rfl⟩:=hJ
   rcases (show i=0∨i=1 by omega) with rfl | rfl
   ·have e0:nOf 0 S.cs.length=0:=rfl
    have e1:nOf (0+1) S.cs.length=S.cs.length:=rfl
    have e2:cOf 0 (S.cs.map trw)=[]:=rfl
    have e3:cOf (0+1) (S.cs.map trw)=S.cs.map trw:=rfl
    rw [e0] at f6
    rw [e2]
    refine Qm [(6,.sl 16 u 0 1 0 none),(25,.sl 15 w 0 1 2 none),(26,.int .i64 2),(27,.int .i64 0)] ⟨f6,f25,f26,f27,trivial⟩ 1000 ?_
    simp -implicitDefEqProofs (disch:=omega) only [go_sem,↓reduceIte,rA,rq,rL,Int.reduceToNat,Int.reduceLE,Int.reduceLT,takeT,b_9,x15,x16,y16,lM,lC,lN,nA,true_implies,true_and,and_true,w01]
    refine ⟨_,_,Shift.refl _ _ _ _,t'+1,t',by omega,?_⟩
    simp -implicitDefEqProofs (disch:=omega) only [go_sem,↓reduceIte,rq,e1,e3]
   ·have e0:nOf 1 S.cs.length=S.cs.length:=rfl
    have e1:nOf (1+1) S.cs.length=S.cs.length:=rfl
    have e2:cOf 1 (S.cs.map trw)=S.cs.map trw:=rfl
    have e3:cOf (1+1) (S.cs.map trw)=S.cs.map trw:=rfl
    rw [e0] at f6
    rw [e2]
    refine Qm [(6,.sl 16 u 0 1 S.cs.length none),(25,.sl 15 w 0 1 2 none),(26,.int .i64 2),(27,.int .i64 1)] ⟨f6,f25,f26,f27,trivial⟩ 1000 ?_
    simp -implicitDefEqProofs (disch:=omega) only [go_sem,↓reduceIte,rA,rq,rL,rT,Int.reduceToNat,Int.reduceLE,Int.reduceLT,b_11,x15,x16,y16,lM,lC,lN,true_implies,true_and,and_true,w11]
    refine ⟨_,_,Shift.refl _ _ _ _,t'+1,t',by omega,?_⟩
    simp -implicitDefEqProofs (disch:=omega) only [go_sem,↓reduceIte,rq,e1,e3]
  ·obtain ⟨t',u,ht,f6,f25,f26,f27,rfl⟩:=hJ
   subst hi
   have e0:nOf 2 S.cs.length=S.cs.length:=rfl
   have e2:cOf 2 (S.cs.map trw)=S.cs.map trw:=rfl
   rw [e0] at f6
   rw [e2]
   refine Qm [(6,.sl 16 u 0 1 S.cs.length none),(25,.sl 15 w 0 1 2 none),(26,.int .i64 2),(27,.int .i64 2)] ⟨f6,f25,f26,f27,trivial⟩ 1000 ?_
   simp -implicitDefEqProofs (disch:=omega) only [go_sem,↓reduceIte,rq,Int.reduceLT,true_and]
   exact ⟨t',u,ht,rfl,rfl,rfl⟩
  ·obtain ⟨rfl,t',u,ht,f6,rfl⟩:=hE
   refine YT [(6,.sl 16 u 0 1 S.cs.length none)] ⟨f6,trivial⟩ 1000 ?_
   simp -implicitDefEqProofs (disch:=omega) only [go_sem,↓reduceIte,rq]
   exact ⟨t',u,ht,rfl,rfl,rfl⟩
end
section
attribute [local go_sem] nFq nT lR Nat.mul_one zA XA zqd_0 zqd_1 zqd_2 zqd_3 zqd_4 zqd_5 zqd_6 zqd_7 zqd_8 zqd_9 decide_false decide_true Xq
def fH (g:Gr) (B:Bv) (S:St) (K:List (Int × List Int)) (E:Ev) (v2 vf w w15 u i:Nat):List (Option Ob) :=
 bH g B S K E++[some (.arr v2 53 [.int .i64 0,.lst 0 [] true]),some (.arr vf 53 [.int .i64 S.gs.length,.sl 14 w 0 1 i none]),some (.arr w 42 ((S.cs.take i).map row)),some (.arr w15 51 [.sl 9 B.c 0 1 S.cs.length none,.sl 11 g.n 0 1 0 none]),some (.arr u 42 (S.cs.map trw))]
variable {t:Nat} {E:Ev} {K:List (Int × List Int)} {S:St} {B:Bv} {g:Gr}
theorem Qp5 (hT:Qe Tryz.prog tab) (h0:0<S.cs.length) (hl:S.cs.length≤1048576) (hg:S.gs.length≤9000000) (hc:∀ c∈S.cs,c≠[]∧c.length≤3) :
 C Tryz.prog G 5 XM [.ptr 7 g.b 0] ⟨t,bH g B S K E⟩ fun v σ=>∃ t' w o12 o13,t≤t'∧v=.agg [.int .i64 S.gs.length,.sl 14 w 0 1 S.cs.length none]∧15≤σ.o.length∧List.take 15 σ.o=bH g B S K E++[o12,o13,some (.arr w 42 (S.cs.map row))]∧σ.t=t':=by
 refine Qq hT YD (by simp [XA]) (Qn 23 ?_)
 simp -implicitDefEqProofs (disch:=omega) only [go_sem,↓reduceIte,reduceCtorEq,rA,rq,rL,b_7,QK,QA,Xi,x13,y13,lC,lN,cA,nA,true_implies,and_true]
 refine XT (HShift.shift (HShift.ownAt 1 42 (k:=13) (p:=1) (by decide) rfl rfl)) ?_
 refine Qs 1000 ?_
 simp -implicitDefEqProofs (disch:=omega) only [go_sem,↓reduceIte,reduceCtorEq,rA,rq,rL,b_7,QA,Xi,y13,lC,lN,cA,nA,true_implies,and_true,List.set_cons_succ,List.set_cons_zero]
 refine call hT ZS (Qvw hT h0 hl) 1000 fun v σ hv=>?_
 obtain ⟨t1,u,ht1,rfl,rfl⟩:=hv
 simp -implicitDefEqProofs (disch:=omega) only [go_sem,↓reduceIte,reduceCtorEq,rq]
 refine ZF S.cs (fun i fr σ=>∃ t' vf w,t≤t'∧Qf fr 2=.ptr 12 t 0∧Qf fr 3=.ptr 13 vf 0∧Qf fr 24=.sl 16 u 0 1 S.cs.length none∧Qf fr 25=.int .i64 S.cs.length∧Qf fr 26=.int .i64 ((i:Nat):Int)∧σ=⟨t',fH g B S K E t vf w (t+1+1+1) u i⟩) (fun e fr σ=>e=.ex 0∧∃ t' vf w,t≤t'∧Qf fr 2=.ptr 12 t 0∧Qf fr 3=.ptr 13 vf 0∧σ=⟨t',fH g B S K E t vf w (t+1+1+1) u S.cs.length⟩) ?_ (fun i c hci fr σ hJ=>?_) (fun i hi fr σ hJ=>?_) (fun e fr σ hE=>?_)
 ·exact ⟨t1,t+1,t+1+1,by omega,rfl,rfl,rfl,rfl,rfl,rfl⟩
 ·obtain ⟨t',vf,w,ht,f2,f3,f24,f25,f26,rfl⟩:=hJ
  have hlt:=(List.getElem?_eq_some_iff.1 hci).1
  obtain ⟨hne,h3⟩:=hc c (List.mem_of_getElem? hci)
  have hki:(i:Int)<S.cs.length:=by omega
  have hk0:(0:Int)≤(i:Int):=by omega
  have hw:=Qld hlt (by omega)
  have gu:(S.cs.map trw).getD i V.any=trw c:=by simp [List.getD_eq_getElem?_getD,hci]
  have hiT:((S.cs.take i).map row).length=i:=by rw [lM,List.length_take]; omega
  have hts:(S.cs.take (i+1)).map row=(S.cs.take i).map row++[row c]:=by rw [List.take_add_one,hci]; simp
  have hti:List.take i ((S.cs.take i).map row)=(S.cs.take i).map row:=List.take_of_length_le (by omega)
  unfold fH
  refine Qm [(2,.ptr 12 t 0),(3,.ptr 13 vf 0),(24,.sl 16 u 0 1 S.cs.length none),(25,.int .i64 S.cs.length),(26,.int .i64 ((i:Nat):Int))] ⟨f2,f3,f24,f25,f26,trivial⟩  1000 ?_
  simp -implicitDefEqProofs (disch:=omega) only [go_sem,↓reduceIte,rA,rq,QA,x13,x16,lM,lC,lN,true_implies,true_and,and_true,hki,hk0,hlt,Int.toNat_natCast,gu]
  refine Qjm hT X0 (QuW hT hne (by omega)) 1000 fun v σ hv=>?_
  obtain ⟨rfl,t2,ht2,rfl⟩:=hv
  simp -implicitDefEqProofs (disch:=omega) only [go_sem,↓reduceIte,reduceCtorEq,rA,rq,rL,x13,x14,y13,y14,lC,lN,cA,nA,true_and,and_true,hw,hiT]
  refine ⟨_,_,Shift.refl _ _ _ _,t2+1,vf,t2,by omega,?_⟩
  simp -implicitDefEqProofs (disch:=omega) only [go_sem,↓reduceIte,rq,hts]
  try rfl
 ·obtain ⟨t',vf,w,ht,f2,f3,f24,f25,f26,rfl⟩:=hJ
  refine Qm [(2,.ptr 12 t 0),(3,.ptr 13 vf 0),(24,.sl 16 u 0 1 S.cs.length none),(25,.int .i64 S.cs.length),(26,.int .i64 ((i:Nat):Int))] ⟨f2,f3,f24,f25,f26,trivial⟩  1000 ?_
  simp -implicitDefEqProofs (disch:=omega) only [go_sem,↓reduceIte,rq,true_and,hi,Int.lt_irrefl]
  exact ⟨t',vf,w,ht,rfl,rfl,rfl⟩
 ·obtain ⟨rfl,t',vf,w,ht,f2,f3,rfl⟩:=hE
  refine YT [(2,.ptr 12 t 0),(3,.ptr 13 vf 0)] ⟨f2,f3,trivial⟩ 1000 ?_
  unfold fH
  simp -implicitDefEqProofs (disch:=omega) only [go_sem,↓reduceIte,reduceCtorEq,rA,rq,rL,QA,x12,x13,y12,lC,lN,cA,nA,false_implies,true_and,and_true]
  rw [List.take_length]
  exact ⟨t',w,_,_,ht,rfl,rfl,rfl⟩
theorem Qp4 (hT:Qe Tryz.prog tab) (h0:0<S.cs.length) (hl:S.cs.length≤1048576) (hg:S.gs.length≤9000000) (hc:∀ c∈S.cs,c≠[]∧c.length≤3) :
 C Tryz.prog G 5 XM [.ptr 7 g.b 0] ⟨t,bH g B S K E⟩ fun v σ=>v=fml S.gs.length S.cs∧∃ t',t≤t'∧σ=⟨t',bH g B S K E⟩:=by
 refine Qh 12 (by decide) (Qaq (Qp5 hT h0 hl hg hc) fun v σ hq=>?_)
 obtain ⟨t',w,o12,o13,ht,rfl,hlen,htk,ht'⟩:=hq
 have hg14:σ.o[14]?=some (some (.arr w 42 (S.cs.map row))):=by
  have:=List.getElem?_take (l:=σ.o) (i:=15) (j:=14)
  rw [if_pos (by decide),htk] at this
  rw [← this]; rfl
 refine .inr ⟨14,w,42,S.cs.map row,by decide,hg14,Qr0 _,?_,?_,σ.t,by omega,?_⟩
 ·simp only [QH,List.length_set]; omega
 ·have hall:∀ u∈S.cs.map row,u.cells=[u]:=fun u hu=>by
   obtain ⟨a,_,rfl⟩:=List.mem_map.1 hu
   rfl
  have:=QsU (k:=14) (w:=w) (sz:=1) (cs:=S.cs.map row) hall
  rw [lM] at this
  simp only [Zt,QmW,fml] at this ⊢
  first | rw [this]
 ·have e:List.take 12 σ.o=bH g B S K E:=by
   have:=congrArg (List.take 12) htk
   rw [List.take_take] at this
   exact this
  show H.mk _ (List.take 12 (QT _ 5 (σ.o.set 14 none)))=_
  rw [Qh3 (by decide) e]
end
end Go.Proofs.YtoeicjlflmmmcaaGreatDoor
namespace Go.Proofs.YtoeicjlflmmmcaaGreatDoor
open Go Go.Am Go.Bl
set_option maxRecDepth 100000
variable {P:Program} {G:Nat→Option V}
set_option maxHeartbeats 1000000
section
attribute [local go_sem] nFq aZ lR zA zL beq_self_eq_true decide_false decide_true gt_iff_lt Qlb Qla QrK QrJ QrI QrH
variable {b:Bool} {cs:List V} {k w n e t base cap i:Nat}
theorem Qpm {z:Nat} {l:List V}:Zt k w cs (.lst z l b)=.lst z l b:=rfl
theorem Qpn {t:IntKind} {i:Int}:Zt k w cs (.int t i)=.int t i:=rfl
theorem Qkw:Zt k w cs (.bool b)=.bool b:=rfl
theorem QsR {o:Nat} {x:V}:Zt k w cs (.ref x o)=.ref x o:=rfl
theorem QsS {v o:Nat} (h:n≠k):Zt k w cs (.ptr n v o)=.ptr n v o:=by simp [Zt,h]
variable {a ev:V}
theorem Qpl:Zt k w (a::cs) (.ptr k w 0)=.ref (.agg (a::cs)) 0:=by simp [Zt]
variable {s:Bs} {B:Bv} {g:Gr}
theorem ZB:(bT' g B s e).length=12:=QK
theorem QqC {x:Option Ob} {ex:List (Option Ob)}:(bT' g B s e++x::ex)[12]?=some x:=rfl
theorem Qhr {x y:Option Ob} {ex:List (Option Ob)}:(bT' g B s e++x::ex).set 12 y=bT' g B s e++y::ex:=rfl
variable {fr:Fr}
theorem Qkx {T:Nat} {ex:List (Option Ob)} (hn:Qc (a::cs)=true) :
 Shift G n 0 fr ⟨t,bT' g B s e++some (.arr w T (a::cs))::ex⟩ (Qp9 12 w (a::cs) fr) ⟨t,bT' g B s e⟩:=by
 refine (Shift.freeze (k:=12) (v:=w) (T:=T) (cs:=a::cs) (zL _) rfl hn).trans ?_
 have h:=Xc 12 (QT (Zt 12 w (a::cs)) 0 (((bT' g B s e++some (.arr w T (a::cs))::ex)).set 12 none))
 rw [Qhr] at h
 have e2:List.take 12 (QT (Zt 12 w (a::cs)) 0 (bT' g B s e++none::ex))=bT' g B s e:=QsW (lR _)
 rw [e2] at h
 rw [Qhr]
 exact Shift.drop h (lR _) (zL _)
theorem QnU {ex:List (Option Ob)}:Shift G n 0 fr ⟨t,bT' g B s e++ex⟩ fr ⟨t,bT' g B s e⟩:=by
 have h:=Xc 12 (bT' g B s e++ex)
 have e2:List.take 12 (bT' g B s e++ex)=bT' g B s e:=Z2
 rw [e2] at h
 exact Shift.drop h (lR _) (zL _)
theorem QeI (hT:Qe P tab) :
 C P G base Zg [.ptr 1 g.v0 0] ⟨t,bT' g B s e⟩ fun v σ=>v=.int .i64 g.L.length∧∃ t',t≤t'∧σ=⟨t',bT' g B s e⟩:=k_Size hT
theorem q_Node (hT:Qe P tab) {id:Int} (hid:0≤id∧id<g.L.length) :
 C P G base XR [.ptr 1 g.v0 0,.int .i64 id] ⟨t,bT' g B s e⟩ fun v σ=>v=.tup [.agg (nd g.L id).cells,.bool true]∧∃ t',t≤t'∧σ=⟨t',bT' g B s e⟩:=QBu hT hid base t B
variable {x y:Int}
theorem q_Of (hT:Qe P tab) (SO:Xb P) (hL:g.L.length≤1000000) (hok:okN g.L) {Sy:List Int} (hS:∀ x∈Sy,i64 x) {C':List Cl} (hC:C'.length≤1000000) (hCn:∀ c∈C',i64 c.n) {tS tC:Bool} (h0:0≤x) (h1:x<g.L.length) :
 C P G base QbF [.ptr 1 g.v0 0,QhC Sy tS 4 C' tC,.int .i64 x] ⟨t,bT' g B s e⟩ fun v σ=>v=.tup [.int .i64 (val Sy C' g.L x),.bool true]∧∃ t',t≤t'∧σ=⟨t',bT' g B s e⟩:=by
 have h:=x_Of (P:=P) (G:=G) (base:=base) (t:=t) (g:=g) (B:=B) (S:=s.S) (K:=s.K) (E:=⟨e,s.E⟩) (ex:=[]) hT SO hL hok Sy hS tS C' hC hCn tC x
 rw [List.append_nil] at h
 rw [ofV,if_pos ⟨h0,h1⟩] at h
 exact h
variable {I:Int→Int→Bool}
theorem QCL (hT:Qe P tab) (SO:Xb P) {val:Int→Int} (cx:Ctx I g.L val) (hs:BInv I g.L val cap s) (hLl:g.L.length≤1000000) {id:Int} (h0:0≤id) (h1:id<g.L.length) (hf:QfD g.L id=true) :
 C P G 5 Xg [.ptr 7 g.b 0,.int .i64 id] ⟨t,bT' g B s e⟩ fun v σ=>v=.tup [.lst 0 [] true,.bool false] :=
 (QDp hT SO cx hs hLl (QD2 cx.wf h0 h1 hf)).conseq fun v σ h=>h.1
abbrev eR (Sy:List Int) (tS:Bool) (C':List Cl) (tC:Bool):V:=.ref (.agg [.lst 1 (Qb Sy) tS,.lst 4 (C'.map Cl.v) tC]) 0
def l1J (g:Gr) (B:Bv) (e:Nat) (x y:Int) (ev:V) (i:Nat) (fr:Fr) (σ:H):Prop :=
 ∃ t,σ=⟨t,bT' g B b0 e⟩∧(∀ j:Int,0≤j→j<i→QfD g.L j=false)∧Qf fr 2=.int .i64 x∧Qf fr 3=.int .i64 y∧Qf fr 5=ev∧Qf fr 9=.ptr 1 g.v0 0∧Qf fr 11=.ptr 7 g.b 0∧Qf fr 12=.int .i64 ((i:Nat):Int)
def l1E (g:Gr) (B:Bv) (e:Nat) (x y:Int) (ev:V) (ae:AE) (fr:Fr) (σ:H):Prop :=
 (ae=.ret∧Qf fr 8=.bool true)∨(ae=.ex 0∧Qg3 g.L∧∃ t,σ=⟨t,bT' g B b0 e⟩∧Qf fr 2=.int .i64 x∧Qf fr 3=.int .i64 y∧Qf fr 5=ev∧Qf fr 9=.ptr 1 g.v0 0∧Qf fr 11=.ptr 7 g.b 0)
variable {σ:H}
theorem QuJ (hT:Qe P tab) (F:Fmt P G) (SO:Xb P) {val:Int→Int} (cx:Ctx I g.L val) (hs:BInv I g.L val cap b0) (hLl:g.L.length≤1000000) (hi:i<g.L.length) (hJ:l1J g B e x y ev i fr σ) :
 W P G 235 0 wg fr σ (QdW (fun fr σ=>∃ fr' σ',Shift G 235 0 fr σ fr' σ'∧l1J g B e x y ev (i+1) fr' σ') (l1E g B e x y ev)):=by
 obtain ⟨t,rfl,hnf,f2,f3,f5,f9,f11,f12⟩:=hJ
 have hki:(i:Int)<g.L.length:=by omega
 have hk0:(0:Int)≤(i:Int):=by omega
 have hw:=Qld hi (by omega)
 have g0:(nd g.L i).cells.getD 0 V.any=.int .u8 (nd g.L i).kind:=rfl
 have g1:(nd g.L i).cells.getD 1 V.any=.int .i64 (nd g.L i).n:=rfl
 have g6:(nd g.L i).cells.length=6:=rfl
 have gt6:List.take 6 (nd g.L i).cells=(nd g.L i).cells:=rfl
 have gd6:List.drop 6 (nd g.L i).cells=[]:=rfl
 refine Qm [(2,.int .i64 x),(3,.int .i64 y),(5,ev),(9,.ptr 1 g.v0 0),(11,.ptr 7 g.b 0),(12,.int .i64 ((i:Nat):Int))] ⟨f2,f3,f5,f9,f11,f12,trivial⟩  1000 ?_
 simp -implicitDefEqProofs (disch:=omega) only [go_sem,↓reduceIte,rq]
 refine call hT QE (QeI hT) 1000 fun v σ hv=>?_
 obtain ⟨rfl,t1,ht1,rfl⟩:=hv
 simp -implicitDefEqProofs (disch:=omega) only [go_sem,↓reduceIte,rq,hki]
 refine call hT Xp (q_Node hT ⟨hk0,hki⟩) 20 fun v σ hv=>?_
 obtain ⟨rfl,t2,ht2,rfl⟩:=hv
 have ho:ones (nd g.L i).cells:=Qul rfl
 by_cases hf2:(nd g.L i).kind=2
 ·by_cases hf3:65536<(nd g.L i).n
  ·have hf:QfD g.L i=true:=by simp [QfD,hf2,hf3]
   simp -implicitDefEqProofs (disch:=omega) only [go_sem,↓reduceIte,rA,rq,rL,rT,ZB,QqC,Qhr,lC,lN,nA,true_implies,and_true,g0,g1,g6,hf2,hf3,ho]
   refine XT QnU (Qs 1000 ?_)
   simp -implicitDefEqProofs (disch:=omega) only [go_sem,↓reduceIte,rq]
   refine call hT Xe (YS (by decide) (by rw [ZB]; decide) (QCL hT SO cx hs hLl hk0 hki hf)) 1000 fun v σ hv=>?_
   subst hv
   simp -implicitDefEqProofs (disch:=omega) only [go_sem,↓reduceIte,rA,rq,rT,lC,lN]
   refine QY hT Xk (Qtq hT F SO) rfl 1000 ?_
   simp -implicitDefEqProofs (disch:=omega) only [go_sem,↓reduceIte,rq]
   first | exact .inl ⟨rfl,rfl⟩
  ·have hf:QfD g.L i=false:=by simp [QfD,hf3]
   simp -implicitDefEqProofs (disch:=omega) only [go_sem,↓reduceIte,rA,rq,rL,rT,ZB,QqC,Qhr,lC,lN,nA,true_implies,and_true,g0,g1,g6,hf2,hf3,ho]
   refine Qs 1000 ?_
   simp -implicitDefEqProofs (disch:=omega) only [go_sem,↓reduceIte,rq,hw]
   refine ⟨_,_,QnU,_,rfl,fun j j0 j1=>?_,?_⟩
   ·rcases (show j<i∨j=i by omega) with h | h
    ·exact hnf j j0 h
    ·rw [h]; exact hf
   ·simp -implicitDefEqProofs (disch:=omega) only [go_sem,↓reduceIte,rq]
 ·have hf:QfD g.L i=false:=by simp [QfD,hf2]
  simp -implicitDefEqProofs (disch:=omega) only [go_sem,↓reduceIte,rA,rq,rL,rT,ZB,QqC,Qhr,lC,lN,nA,false_implies,true_implies,true_and,and_true,not_false_eq_true,g0,g1,g6,hf2,ho]
  refine Qs 1000 ?_
  simp -implicitDefEqProofs (disch:=omega) only [go_sem,↓reduceIte,rq,hw]
  refine ⟨_,_,QnU,_,rfl,fun j j0 j1=>?_,?_⟩
  ·rcases (show j<i∨j=i by omega) with h | h
   ·exact hnf j j0 h
   ·rw [h]; exact hf
  ·simp -implicitDefEqProofs (disch:=omega) only [go_sem,↓reduceIte,rq]
theorem QDb (hT:Qe P tab) (hi:i=g.L.length) (hJ:l1J g B e x y ev i fr σ) :
 W P G 235 0 wg fr σ (QdW (fun _ _=>False) (l1E g B e x y ev)):=by
 obtain ⟨t,rfl,hnf,f2,f3,f5,f9,f11,f12⟩:=hJ
 refine Qm [(2,.int .i64 x),(3,.int .i64 y),(5,ev),(9,.ptr 1 g.v0 0),(11,.ptr 7 g.b 0),(12,.int .i64 ((i:Nat):Int))] ⟨f2,f3,f5,f9,f11,f12,trivial⟩  1000 ?_
 simp -implicitDefEqProofs (disch:=omega) only [go_sem,↓reduceIte,rq]
 refine call hT QE (QeI hT) 1000 fun v σ hv=>?_
 obtain ⟨rfl,t1,ht1,rfl⟩:=hv
 simp -implicitDefEqProofs (disch:=omega) only [go_sem,↓reduceIte,rq,hi,Int.lt_irrefl]
 exact .inr ⟨rfl,fun j j0 j1=>hnf j j0 (by omega),_,rfl,rfl,rfl,rfl,rfl,rfl⟩
end
section
attribute [local go_sem] nT lR zA bne_self_eq_false decide_false decide_true Qk9 Qk8 Qk7 Qk6 Qk5 Qk4 Qk3 Qk2 Qk1 Qk0 QkZ QkY
theorem n64:((64:Nat):Int)=64:=rfl
def l2J (I:Int→Int→Bool) (val:Int→Int) (cap:Nat) (g:Gr) (x y:Int) (ev:V) (i:Nat) (fr:Fr) (σ:H):Prop :=
 ∃ t s B e,σ=⟨t,bT' g B s e⟩∧BInv I g.L val cap s∧0<s.S.cs.length∧(∀ j:Int,0≤j→j<i→(kL s.K j).isSome=true)∧Qf fr 2=.int .i64 x∧Qf fr 3=.int .i64 y∧Qf fr 5=ev∧Qf fr 9=.ptr 1 g.v0 0∧Qf fr 11=.ptr 7 g.b 0∧Qf fr 17=.int .i64 ((i:Nat):Int)
def l2E (I:Int→Int→Bool) (val:Int→Int) (cap:Nat) (g:Gr) (x y:Int) (ev:V) (ae:AE) (fr:Fr) (σ:H):Prop :=
 ae=.ex 2∧∃ t s B e,σ=⟨t,bT' g B s e⟩∧BInv I g.L val cap s∧0<s.S.cs.length∧(∀ j:Int,0≤j→j<g.L.length→(kL s.K j).isSome=true)∧Qf fr 2=.int .i64 x∧Qf fr 3=.int .i64 y∧Qf fr 5=ev∧Qf fr 9=.ptr 1 g.v0 0∧Qf fr 11=.ptr 7 g.b 0
variable {σ:H} {fr:Fr} {ev:V} {x y p q l1 l2:Int} {g:Gr} {cap i:Nat} {I:Int→Int→Bool}
theorem QuI (hT:Qe P tab) (SO:Xb P) {val:Int→Int} (cx:Ctx I g.L val) (hnf:Qg3 g.L) (hLl:g.L.length≤1000000) (hi:i<g.L.length) (hJ:l2J I val cap g x y ev i fr σ) :
 W P G 235 0 wh fr σ (QdW (fun fr σ=>∃ fr' σ',Shift G 235 0 fr σ fr' σ'∧l2J I val cap g x y ev (i+1) fr' σ') (l2E I val cap g x y ev)):=by
 obtain ⟨t,s,B,e,rfl,hs,hcs,hk,f2,f3,f5,f9,f11,f17⟩:=hJ
 have hki:(i:Int)<g.L.length:=by omega
 have hk0:(0:Int)≤(i:Int):=by omega
 have hw:=Qld hi (by omega)
 obtain ⟨i1,u1,k1,n1,-⟩:=bi_ok cx hnf hs hk0 hki
 have h64:(kx (blB g.L s i).K i).length=64:=n1.len
 refine Qm [(2,.int .i64 x),(3,.int .i64 y),(5,ev),(9,.ptr 1 g.v0 0),(11,.ptr 7 g.b 0),(17,.int .i64 ((i:Nat):Int))] ⟨f2,f3,f5,f9,f11,f17,trivial⟩  1000 ?_
 simp -implicitDefEqProofs (disch:=omega) only [go_sem,↓reduceIte,rq]
 refine call hT QE (QeI hT) 1000 fun v σ hv=>?_
 obtain ⟨rfl,t1,ht1,rfl⟩:=hv
 simp -implicitDefEqProofs (disch:=omega) only [go_sem,↓reduceIte,rq,hki]
 refine call hT Xe (YS (by decide) (by rw [ZB]; decide) (Qr6 hT SO cx hnf hs hLl hk0 hki)) 1000 fun v σ hv=>?_
 obtain ⟨rfl,t2,B2,e2,ht2,rfl⟩:=hv
 simp -implicitDefEqProofs (disch:=omega) only [go_sem,↓reduceIte,rA,rq,rT,lC,lN,hw,Qx n1.len,n64]
 refine ⟨_,_,Shift.refl _ _ _ _,_,blB g.L s i,B2,e2,rfl,i1,Nat.lt_of_lt_of_le hcs u1.c.length_le,fun j j0 j1=>?_,?_⟩
 ·rcases (show j<i∨j=i by omega) with h | h
  ·exact u1.some (hk j j0 h)
  ·rw [h]; exact k1
 ·simp -implicitDefEqProofs (disch:=omega) only [go_sem,↓reduceIte,rq]
theorem QDa (hT:Qe P tab) {val:Int→Int} (hi:i=g.L.length) (hJ:l2J I val cap g x y ev i fr σ) :
 W P G 235 0 wh fr σ (QdW (fun _ _=>False) (l2E I val cap g x y ev)):=by
 obtain ⟨t,s,B,e,rfl,hs,hcs,hk,f2,f3,f5,f9,f11,f17⟩:=hJ
 refine Qm [(2,.int .i64 x),(3,.int .i64 y),(5,ev),(9,.ptr 1 g.v0 0),(11,.ptr 7 g.b 0),(17,.int .i64 ((i:Nat):Int))] ⟨f2,f3,f5,f9,f11,f17,trivial⟩  1000 ?_
 simp -implicitDefEqProofs (disch:=omega) only [go_sem,↓reduceIte,rq]
 refine call hT QE (QeI hT) 1000 fun v σ hv=>?_
 obtain ⟨rfl,t1,ht1,rfl⟩:=hv
 simp -implicitDefEqProofs (disch:=omega) only [go_sem,↓reduceIte,rq,hi,Int.lt_irrefl]
 exact ⟨rfl,_,s,B,e,rfl,hs,hcs,fun j j0 j1=>hk j j0 (by omega),rfl,rfl,rfl,rfl,rfl⟩
def l3J (Sy:List Int) (tS:Bool) (C':List Cl) (tC:Bool) (M:List Bool) (S2:List Int) (C2:List Cl) (p q l1 l2:Int) (g:Gr) (s:Bs) (i:Nat) (fr:Fr) (σ:H):Prop :=
 ∃ t B e,σ=⟨t,bT' g B s e⟩∧Qf fr 5=eR Sy tS C' tC∧Qf fr 9=.ptr 1 g.v0 0∧Qf fr 11=.ptr 7 g.b 0∧Qf fr 20=.int .i64 p∧Qf fr 21=.int .i64 q∧Qf fr 22=.int .i64 l1∧Qf fr 24=.int .i64 l2∧Qf fr 26=.lst 1 (nbs M) false∧Qf fr 28=eR S2 false C2 false∧Qf fr 29=.int .i64 ((i:Nat):Int)
def l3E (Sy:List Int) (tS:Bool) (C':List Cl) (tC:Bool) (M:List Bool) (p q l1 l2:Int) (g:Gr) (s:Bs) (ae:AE) (fr:Fr) (σ:H):Prop :=
 ae=.ex 4∧∃ t B e,σ=⟨t,bT' g B s e⟩∧Qf fr 5=eR Sy tS C' tC∧Qf fr 9=.ptr 1 g.v0 0∧Qf fr 11=.ptr 7 g.b 0∧Qf fr 20=.int .i64 p∧Qf fr 21=.int .i64 q∧Qf fr 22=.int .i64 l1∧Qf fr 24=.int .i64 l2∧Qf fr 26=.lst 1 (nbs M) false
variable {M:List Bool} {s:Bs} {C' C2:List Cl} {tS tC:Bool} {Sy S2:List Int}
theorem QuH (hT:Qe P tab) (SO:Xb P) (hok:okN g.L) (hS:∀ x∈Sy,i64 x) (hC:C'.length≤1000000) (hCn:∀ c∈C',i64 c.n) (hnf:Qg3 g.L) (hLl:g.L.length≤1000000)
 (hS2:∀ x∈S2,i64 x) (hC2:C2.length≤1000000) (hC2n:∀ c∈C2,i64 c.n) (hb:∀ id:Int,0≤id→id<g.L.length→val S2 C2 g.L id=val Sy C' g.L id)
 (hs:BInv (QbU Sy C' g.L) g.L (val Sy C' g.L) cap s) (hk:∀ j:Int,0≤j→j<g.L.length→(kL s.K j).isSome=true) (hM:M=mdl (QbU Sy C' g.L) s.S.gs) (hi:i<g.L.length) (hJ:l3J Sy tS C' tC M S2 C2 p q l1 l2 g s i fr σ) :
 W P G 235 0 wi fr σ (QdW (fun fr σ=>∃ fr' σ',Shift G 235 0 fr σ fr' σ'∧l3J Sy tS C' tC M S2 C2 p q l1 l2 g s (i+1) fr' σ') (l3E Sy tS C' tC M p q l1 l2 g s)):=by
 obtain ⟨t,B,e,rfl,f5,f9,f11,f20,f21,f22,f24,f26,f28,f29⟩:=hJ
 have cx:=QkJ hok hS hCn
 have hki:(i:Int)<g.L.length:=by omega
 have hk0:(0:Int)≤(i:Int):=by omega
 have hw:=Qld hi (by omega)
 have hbi:=hb i hk0 hki
 obtain ⟨-,n1,w1⟩:=hs.k.get (hk i hk0 hki)
 have hgl:s.S.gs.length≤9000000:=by have:=hs.g; have:=hs.hc; omega
 have hml:(mdl (QbU Sy C' g.L) s.S.gs).length=s.S.gs.length:=Qa6 _
 rw [← hM] at w1 hml
 rw [← hml] at n1 hgl
 have hN:=Qpz (P:=P) (G:=G) hT n1 hgl w1 (cx.v64 i)
 have hB:=fun t B e=>Qr6 (P:=P) (G:=G) (t:=t) (B:=B) (e:=e) hT SO cx hnf hs hLl hk0 hki
 rw [QD3 hk] at hB
 refine Qm [(5,eR Sy tS C' tC),(9,.ptr 1 g.v0 0),(11,.ptr 7 g.b 0),(20,.int .i64 p),(21,.int .i64 q),(22,.int .i64 l1),(24,.int .i64 l2),(26,.lst 1 (nbs M) false),(28,eR S2 false C2 false),(29,.int .i64 ((i:Nat):Int))] ⟨f5,f9,f11,f20,f21,f22,f24,f26,f28,f29,trivial⟩  1000 ?_
 simp -implicitDefEqProofs (disch:=omega) only [go_sem,↓reduceIte,rq]
 refine call hT QE (QeI hT) 1000 fun v σ hv=>?_
 obtain ⟨rfl,t1,ht1,rfl⟩:=hv
 simp -implicitDefEqProofs (disch:=omega) only [go_sem,↓reduceIte,reduceCtorEq,rA,rq,lC,lN,false_implies,and_true,hki]
 refine call hT QaQ (q_Of hT SO hLl hok hS hC hCn hk0 hki) 1000 fun v σ hv=>?_
 obtain ⟨rfl,t2,ht2,rfl⟩:=hv
 simp -implicitDefEqProofs (disch:=omega) only [go_sem,↓reduceIte,reduceCtorEq,rA,rq,rT,lC,lN,false_implies,and_true]
 refine call hT QaQ (q_Of hT SO hLl hok hS2 hC2 hC2n hk0 hki) 1000 fun v σ hv=>?_
 obtain ⟨rfl,t3,ht3,rfl⟩:=hv
 simp -implicitDefEqProofs (disch:=omega) only [go_sem,↓reduceIte,rA,rq,rT,lC,lN]
 refine call hT Xe (YS (by decide) (by rw [ZB]; decide) (hB _ _ _)) 1000 fun v σ hv=>?_
 obtain ⟨rfl,t4,B4,e4,ht4,rfl⟩:=hv
 simp -implicitDefEqProofs (disch:=omega) only [go_sem,↓reduceIte,rA,rq,rT,lC,lN]
 refine QY hT YB hN (by simp [Qc,Qd]) 1000 ?_
 simp -implicitDefEqProofs (disch:=omega) only [go_sem,↓reduceIte,rA,rq,hbi,hw]
 refine ⟨_,_,Shift.refl _ _ _ _,_,B4,e4,rfl,?_⟩
 simp -implicitDefEqProofs (disch:=omega) only [go_sem,↓reduceIte,rq]
theorem QC9 (hT:Qe P tab) (hi:i=g.L.length) (hJ:l3J Sy tS C' tC M S2 C2 p q l1 l2 g s i fr σ) :
 W P G 235 0 wi fr σ (QdW (fun _ _=>False) (l3E Sy tS C' tC M p q l1 l2 g s)):=by
 obtain ⟨t,B,e,rfl,f5,f9,f11,f20,f21,f22,f24,f26,f28,f29⟩:=hJ
 refine Qm [(5,eR Sy tS C' tC),(9,.ptr 1 g.v0 0),(11,.ptr 7 g.b 0),(20,.int .i64 p),(21,.int .i64 q),(22,.int .i64 l1),(24,.int .i64 l2),(26,.lst 1 (nbs M) false),(28,eR S2 false C2 false),(29,.int .i64 ((i:Nat):Int))] ⟨f5,f9,f11,f20,f21,f22,f24,f26,f28,f29,trivial⟩  1000 ?_
 simp -implicitDefEqProofs (disch:=omega) only [go_sem,↓reduceIte,rq]
 refine call hT QE (QeI hT) 1000 fun v σ hv=>?_
 obtain ⟨rfl,t1,ht1,rfl⟩:=hv
 simp -implicitDefEqProofs (disch:=omega) only [go_sem,↓reduceIte,rq,hi,Int.lt_irrefl]
 exact ⟨rfl,_,B,e,rfl,rfl,rfl,rfl,rfl,rfl,rfl,rfl,rfl⟩
end
end Go.Proofs.YtoeicjlflmmmcaaGreatDoor
