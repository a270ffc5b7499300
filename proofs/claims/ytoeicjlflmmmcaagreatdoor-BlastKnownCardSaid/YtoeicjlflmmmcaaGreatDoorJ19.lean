/- BlastKnown: the loop over operations. -/
import Derived.Test.YtoeicjlflmmmcaaGreatDoorJ18
open Nat renaming reduceEqDiff → rq, reduceAdd → rA, reduceLeDiff → rL, reduceLT → rT, zero_add → zA, le_refl → lR, zero_le → zL, add_zero → aZ
open List renaming length_cons → lC, length_nil → lN, take_succ_cons → tSq, length_append → lA, nil_append → nA, cons_append → cA, append_assoc → aA, take_nil → tN, take_zero → tZ, length_map → lM
open Bool renaming not_false → nFq, not_true → nT
namespace Go.Proofs.YtoeicjlflmmmcaaGreatDoor
open Go Go.Am Go.Bl Go.Cl
set_option maxRecDepth 100000
variable {G:Nat→Option V}
set_option maxHeartbeats 1000000
section
attribute [local go_sem] nFq nT lR zA decide_false decide_true QoC Qwd Qwc QqY QqX QqW QqV QqU
def nums:List Int:=[0,1,-1,5,63,64,2147483648,-9223372036854775808,9223372036854775807]
theorem Qrd {j:Nat} (h:j<9):∃ n,(Qb nums).getD j V.any=.int .i64 n∧i64 n:=by
 rcases (show j=0∨j=1∨j=2∨j=3∨j=4∨j=5∨j=6∨j=7∨j=8 by omega) with rfl | rfl | rfl | rfl | rfl | rfl | rfl | rfl | rfl <;> exact ⟨_,rfl,by decide,by decide⟩
theorem QhW:(Qb nums).length=9:=rfl
theorem QnE (hT:Qe Tryz.prog tab) (F:Fmt Tryz.prog G) (SO:Q1 Tryz.prog) (l:List Nd) (tl:Bool) (hl:∀ d∈l,i64 d.n∧i64 d.a) (hll:l.length≤14) (z:Nat) (Sy:List Int) (tS:Bool) (hz:Sy=[]∨z=1) (hS:∀ x∈Sy,i64 x) (x y:Int) :
 Pure Tryz.prog G Yy [.lst 6 (l.map fun d=>.agg d.cells) tl,.agg [.lst z (Qb Sy) tS,.lst 0 [] true],.int .i64 x,.int .i64 y] fun v=>v=.bool true :=
 Pure.args (.cons _ _ _ _ (.refl _) (.cons (.agg [.lst z (Qb Sy) tS,.lst 0 [] true]) _ _ _ (.agg _ _ (.cons _ _ _ _ (.lst z 1 _ _ tS (WkL.refl _) (hz.imp (fun e=>by rw [e]; rfl) id)) (.cons _ _ _ _ (.lst 0 4 _ _ true .nil (.inl rfl)) .nil))) (.cons _ _ _ _ (.refl _) (.cons _ _ _ _ (.refl _) .nil)))) (QjP hT F SO l tl hl (by omega) Sy false [] false hS (by simp) x y)
def b1E (o:Nat) (e:AE) (fr:Fr) (σ:H):Prop:=e=.ex 2∧∃ t,σ=⟨t,[]⟩∧Qd fr 1=.lst 1 (Qb nums) true∧Qd fr 2=.int .u8 ((o:Nat):Int)
variable {σ:H} {fr:Fr} {i:Nat}
theorem QA5 (hT:Qe Tryz.prog tab) (F:Fmt Tryz.prog G) (SO:Q1 Tryz.prog) {o:Nat} (ho:o≤16) (ho1:1≤o) (hi:i<9) (hJ:∃ t,σ=⟨t,[]⟩∧Qd fr 1=.lst 1 (Qb nums) true∧Qd fr 2=.int .u8 ((o:Nat):Int)∧Qd fr 3=.int .i64 ((i:Nat):Int)) :
 W Tryz.prog G 187 0 wu fr σ (Qbb (fun fr' σ=>∃ fr σ',Shift G 187 0 fr' σ fr σ'∧∃ t,σ'=⟨t,[]⟩∧Qd fr 1=.lst 1 (Qb nums) true∧Qd fr 2=.int .u8 ((o:Nat):Int)∧Qd fr 3=.int .i64 ((i+1:Nat):Int)) (b1E o)):=by
 obtain ⟨t,rfl,f1,f2,f3⟩:=hJ
 have hki:(i:Int)<9:=by omega
 have hk0:(0:Int)≤(i:Int):=by omega
 have hw:IntKind.i64.wrap ((i:Int)+1)=((i+1:Nat):Int):=by rw [wrap_i64 (by omega) (by omega)]; omega
 have hw2:IntKind.i64.wrap ((i:Int) * 2)=((i * 2:Nat):Int):=by rw [wrap_i64 (by omega) (by omega)]; omega
 have hwo:IntKind.i64.wrap (o:Int)=(o:Int):=wrap_i64 (by omega) (by omega)
 have hw3:IntKind.i64.wrap (((i * 2:Nat):Int)+(o:Int))=((i * 2+o:Nat):Int):=by rw [wrap_i64 (by omega) (by omega)]; omega
 have hw4:Int.tmod ((i * 2+o:Nat):Int) 9=(((i * 2+o) % 9:Nat):Int):=by rw [Int.tmod_eq_emod_of_nonneg (by omega)]; omega
 have hj9:(i * 2+o) % 9<9:=Nat.mod_lt _ (by decide)
 obtain ⟨a,ga,ia⟩:=Qrd hi
 obtain ⟨b,gb,ib⟩:=Qrd hj9
 generalize (i * 2+o) % 9=j at *
 have hj0:(0:Int)≤(j:Int):=by omega
 have hjl:(j:Int)<9:=by omega
 by_cases h3:(o:Int)=3
 ·have h3t:((o:Int)=3)=True:=eq_true h3
  by_cases h:i<3
  ·obtain ⟨c,gc,ic⟩:=Qrd (show i * 2<9 by omega)
   have hB:=QnE (G:=G) hT F SO [⟨2,0,0,0,0,0⟩,⟨1,c,0,0,0,0⟩,⟨4,0,0,o,0,1⟩] true (by simp [i64] at ic ⊢; exact ic) (by simp) 1 [a,b] true (.inr rfl) (by simp; exact ⟨ia,ib⟩) 2 i
   have hi3:(i:Int)<3:=by omega
   have hc0:(0:Int)≤((i * 2:Nat):Int):=by omega
   have hcl:((i * 2:Nat):Int)<9:=by omega
   have hcl2:i * 2<9:=by omega
   refine Qh [(1,.lst 1 (Qb nums) true),(2,.int .u8 ((o:Nat):Int)),(3,.int .i64 ((i:Nat):Int))] ⟨f1,f2,f3,trivial⟩  1000 ?_
   simp -implicitDefEqProofs (disch:=omega) only [go_sem,↓reduceIte,reduceCtorEq,rA,rq,rL,Int.reduceEq,QhW,lC,lN,nA,cA,false_implies,true_implies,true_and,and_true,not_true_eq_false,not_false_eq_true,hk0,hi,Int.toNat_natCast,ga,gb,gc,hw2,hw3,hwo,hw4,hj0,hj9,h3t,hi3,hc0,hcl2]
   refine Qy hT QV hB (by simp [Qc,Qf]) 1000 ?_
   simp -implicitDefEqProofs (disch:=omega) only [go_sem,↓reduceIte,rA,rq,hw]
   refine ⟨_,_,Shift.drop (o':=[]) (t':=_) (by simp [Zl]) (lR _) (zL _),_,rfl,?_⟩
   simp -implicitDefEqProofs (disch:=omega) only [go_sem,↓reduceIte,rq]
  ·have hi3:¬ (i:Int)<3:=by omega
   refine Qh [(1,.lst 1 (Qb nums) true),(2,.int .u8 ((o:Nat):Int)),(3,.int .i64 ((i:Nat):Int))] ⟨f1,f2,f3,trivial⟩  1000 ?_
   simp -implicitDefEqProofs (disch:=omega) only [go_sem,↓reduceIte,reduceCtorEq,rA,rq,rL,Int.reduceEq,QhW,lC,lN,nA,cA,false_implies,true_implies,true_and,and_true,not_true_eq_false,not_false_eq_true,hk0,hi,Int.toNat_natCast,ga,gb,hw,hw2,hw3,hwo,hw4,hj0,hj9,h3t,hi3]
   refine ⟨_,_,Shift.drop (o':=[]) (t':=_) (by simp [Zl]) (lR _) (zL _),_,rfl,?_⟩
   simp -implicitDefEqProofs (disch:=omega) only [go_sem,↓reduceIte,rq]
 ·have hB:=QnE (G:=G) hT F SO [⟨2,0,0,0,0,0⟩,⟨2,1,0,0,0,0⟩,⟨4,0,0,o,0,1⟩] true (by simp [i64]) (by simp) 1 [a,b] true (.inr rfl) (by simp; exact ⟨ia,ib⟩) 2 i
  refine Qh [(1,.lst 1 (Qb nums) true),(2,.int .u8 ((o:Nat):Int)),(3,.int .i64 ((i:Nat):Int))] ⟨f1,f2,f3,trivial⟩  1000 ?_
  simp -implicitDefEqProofs (disch:=omega) only [go_sem,↓reduceIte,reduceCtorEq,rA,rq,rL,Int.reduceEq,QhW,lC,lN,nA,cA,false_implies,true_implies,true_and,and_true,not_false_eq_true,hk0,hi,Int.toNat_natCast,ga,gb,hw2,hw3,hwo,hw4,hj0,hj9,h3]
  refine Qy hT QV hB (by simp [Qc,Qf]) 1000 ?_
  simp -implicitDefEqProofs (disch:=omega) only [go_sem,↓reduceIte,reduceCtorEq,rA,rq,rL,QhW,lC,lN,nA,cA,false_implies,true_implies,true_and,and_true,not_false_eq_true,hw,h3]
  refine ⟨_,_,Shift.drop (o':=[]) (t':=_) (by simp [Zl]) (lR _) (zL _),_,rfl,?_⟩
  simp -implicitDefEqProofs (disch:=omega) only [go_sem,↓reduceIte,rq]
theorem QMt (hT:Qe Tryz.prog tab) {o:Nat} (hi:i=9) (hJ:∃ t,σ=⟨t,[]⟩∧Qd fr 1=.lst 1 (Qb nums) true∧Qd fr 2=.int .u8 ((o:Nat):Int)∧Qd fr 3=.int .i64 ((i:Nat):Int)) :
 W Tryz.prog G 187 0 wu fr σ (Qbb (fun _ _=>False) (b1E o)):=by
 obtain ⟨t,rfl,f1,f2,f3⟩:=hJ
 have h9:¬ ((9:Nat):Int)<9:=by decide
 subst hi
 refine Qh [(1,.lst 1 (Qb nums) true),(2,.int .u8 ((o:Nat):Int)),(3,.int .i64 ((9:Nat):Int))] ⟨f1,f2,f3,trivial⟩ 1000 ?_
 simp -implicitDefEqProofs (disch:=omega) only [go_sem,↓reduceIte,rq,rT,QhW]
 exact ⟨rfl,t,rfl,rfl,rfl⟩
theorem QA6 (hT:Qe Tryz.prog tab) (F:Fmt Tryz.prog G) (SO:Q1 Tryz.prog) (hi:i<16) (hJ:∃ t,σ=⟨t,[]⟩∧Qd fr 1=.lst 1 (Qb nums) true∧Qd fr 2=.int .u8 ((i+1:Nat):Int)) :
 W Tryz.prog G 187 0 wv fr σ (Qbb (fun fr' σ=>∃ fr σ',Shift G 187 0 fr' σ fr σ'∧∃ t,σ'=⟨t,[]⟩∧Qd fr 1=.lst 1 (Qb nums) true∧Qd fr 2=.int .u8 ((i+1+1:Nat):Int)) (fun e _ σ=>e=.ex 0∧∃ t,σ=⟨t,[]⟩)):=by
 obtain ⟨t,rfl,f1,f2⟩:=hJ
 have hk:((i+1:Nat):Int)≤16:=by omega
 have hw:IntKind.u8.wrap (((i+1:Nat):Int)+1)=((i+1+1:Nat):Int):=by
  rw [QgN] <;> simp [IntKind.min,IntKind.max,IntKind.signed,IntKind.bits] <;> omega
 refine Qh [(1,.lst 1 (Qb nums) true),(2,.int .u8 ((i+1:Nat):Int))] ⟨f1,f2,trivial⟩  1000 ?_
 simp -implicitDefEqProofs (disch:=omega) only [go_sem,↓reduceIte,rq,hk]
 refine XQ 9 (fun k fr σ=>∃ t,σ=⟨t,[]⟩∧Qd fr 1=.lst 1 (Qb nums) true∧Qd fr 2=.int .u8 ((i+1:Nat):Int)∧Qd fr 3=.int .i64 ((k:Nat):Int)) (b1E (i+1)) ⟨t,rfl,by simp -implicitDefEqProofs (disch:=omega) only [go_sem,↓reduceIte],by simp -implicitDefEqProofs (disch:=omega) only [go_sem,↓reduceIte,rq],by simp -implicitDefEqProofs (disch:=omega) only [go_sem,↓reduceIte,rq]; rfl⟩ (fun k hk fr σ hJ=>QA5 hT F SO (by omega) (by omega) hk hJ) (fun k hk fr σ hJ=>QMt hT hk hJ) (fun e fr σ hE=>?_)
 obtain ⟨rfl,t1,rfl,f1,f2⟩:=hE
 refine XN [(1,.lst 1 (Qb nums) true),(2,.int .u8 ((i+1:Nat):Int))] ⟨f1,f2,trivial⟩ 1000 ?_
 simp -implicitDefEqProofs (disch:=omega) only [go_sem,↓reduceIte,rq,hw]
 exact ⟨_,_,Shift.refl _ _ _ _,t1,rfl,by simp -implicitDefEqProofs (disch:=omega) only [go_sem,↓reduceIte],by simp -implicitDefEqProofs (disch:=omega) only [go_sem,↓reduceIte,rq]⟩
theorem QMu (hT:Qe Tryz.prog tab) (hi:i=16) (hJ:∃ t,σ=⟨t,[]⟩∧Qd fr 1=.lst 1 (Qb nums) true∧Qd fr 2=.int .u8 ((i+1:Nat):Int)) :
 W Tryz.prog G 187 0 wv fr σ (Qbb (fun _ _=>False) (fun e _ σ=>e=.ex 0∧∃ t,σ=⟨t,[]⟩)):=by
 obtain ⟨t,rfl,f1,f2⟩:=hJ
 have h9:¬ ((16+1:Nat):Int)≤16:=by decide
 subst hi
 refine Qh [(1,.lst 1 (Qb nums) true),(2,.int .u8 ((16+1:Nat):Int))] ⟨f1,f2,trivial⟩ 1000 ?_
 simp -implicitDefEqProofs (disch:=omega) only [go_sem,↓reduceIte,rA,rq,true_and,and_true,h9]
 exact ⟨t,rfl⟩
end
section
attribute [local go_sem] nFq nT lR Nat.succ_ne_zero zA beq_self_eq_true decide_false decide_true Xu zq1_0 zq1_1 QoC QGP QGO QsB QsA Qsz Qsy Qsx QGN QGM zq1_2 QGL QGK QGJ Qwd Qwc QqY QqX QqW QqV QqU
def cV:V:=.lst 6 (cL.map fun d=>.agg d.cells) true
def k2E (e:AE) (fr:Fr) (σ:H):Prop:=e=.ex 4∧∃ t,σ=⟨t,[]⟩∧Qd fr 5=cV
variable {σ:H} {fr:Fr} {i:Nat}
theorem QAk (hT:Qe Tryz.prog tab) (F:Fmt Tryz.prog G) (SO:Q1 Tryz.prog) (hi:i<3) (hJ:∃ t,σ=⟨t,[]⟩∧Qd fr 5=cV∧Qd fr 6=.int .i64 ((i+3:Nat):Int)) :
 W Tryz.prog G 187 0 ww fr σ (Qbb (fun fr' σ=>∃ fr σ',Shift G 187 0 fr' σ fr σ'∧∃ t,σ'=⟨t,[]⟩∧Qd fr 5=cV∧Qd fr 6=.int .i64 ((i+1+3:Nat):Int)) k2E):=by
 obtain ⟨t,rfl,f5,f6⟩:=hJ
 have hk:((i+3:Nat):Int)<6:=by omega
 have hw:IntKind.i64.wrap (((i+3:Nat):Int)+1)=((i+1+3:Nat):Int):=by rw [wrap_i64 (by omega) (by omega)]; omega
 have h0:(0:Int)≤((i+3:Nat):Int):=by omega
 generalize ((i+3:Nat):Int)=n at *
 have hn:i64 n:=⟨by omega,by omega⟩
 have hM:=QjP (G:=G) hT F SO cL true cL_i (by decide) [n] true [⟨0,0,4,9⟩,⟨0,0,n,8⟩,⟨0,1,n,7⟩] true (by simpa using hn) (by simp [i64]) 2 3
 have hTd:=c_Told (G:=G) hT F SO (tl:=true) (Sy:=[n]) (tS:=true) (C':=[⟨0,0,4,9⟩,⟨0,0,n,8⟩,⟨0,1,n,7⟩]) (tC:=true) (by simp) (by simp) (by simpa using hn) (by simp [i64]) (Ws:=[0,65,130,200,300,400,500,600]) (by simp) (by simp) (wt:=true)
 unfold cV at *
 refine Qh [(5,.lst 6 (cL.map fun d=>.agg d.cells) true),(6,.int .i64 n)] ⟨f5,f6,trivial⟩ 1000 ?_
 simp -implicitDefEqProofs (disch:=omega) only [go_sem,↓reduceIte,reduceCtorEq,rA,rq,rL,lC,lN,nA,cA,false_implies,and_true,hk]
 refine Qy hT QV hM (by simp [Qc,Qf]) 1000 ?_
 simp -implicitDefEqProofs (disch:=omega) only [go_sem,↓reduceIte,reduceCtorEq,rA,rq,rL,lC,lN,nA,cA,false_implies,and_true]
 refine Qy hT Z2 hTd (by simp [Qc,Qf]) 1000 ?_
 simp -implicitDefEqProofs (disch:=omega) only [go_sem,↓reduceIte,rA,rq,hw]
 refine ⟨_,_,Shift.drop (o':=[]) (t':=_) (by simp [Zl]) (lR _) (zL _),_,rfl,?_⟩
 simp -implicitDefEqProofs (disch:=omega) only [go_sem,↓reduceIte,rq]
theorem QLx (hT:Qe Tryz.prog tab) (hi:i=3) (hJ:∃ t,σ=⟨t,[]⟩∧Qd fr 5=cV∧Qd fr 6=.int .i64 ((i+3:Nat):Int)) :
 W Tryz.prog G 187 0 ww fr σ (Qbb (fun _ _=>False) k2E):=by
 obtain ⟨t,rfl,f5,f6⟩:=hJ
 have h9:¬ ((3+3:Nat):Int)<6:=by decide
 subst hi
 refine Qh [(5,cV),(6,.int .i64 ((3+3:Nat):Int))] ⟨f5,f6,trivial⟩ 1000 ?_
 simp -implicitDefEqProofs (disch:=omega) only [go_sem,↓reduceIte,rA,rq,h9]
 exact ⟨rfl,t,rfl,rfl⟩
theorem Qqm (hT:Qe Tryz.prog tab) (F:Fmt Tryz.prog G) (SO:Q1 Tryz.prog) :
 Pure Tryz.prog G ZJ [] fun v=>v=.bool true:=by
 intro t
 have h00:(((0:Nat):Int)=0)=True:=by simp
 have hWk:=QlC (P:=Tryz.prog) (G:=G) hT F SO
 refine Qj 0 (zL _) (Qo hT Qb1 (by simp [Xu]) (Qm 1000 ?_))
 simp -implicitDefEqProofs (disch:=omega) only [go_sem,↓reduceIte,reduceCtorEq,rA,rq,rL,lC,lN,nA,cA,and_true]
 refine XQ 16 (fun i fr σ=>∃ t,σ=⟨t,[]⟩∧Qd fr 1=.lst 1 (Qb nums) true∧Qd fr 2=.int .u8 ((i+1:Nat):Int)) (fun e _ σ=>e=.ex 0∧∃ t,σ=⟨t,[]⟩) ⟨t,rfl,by simp -implicitDefEqProofs (disch:=omega) only [go_sem,↓reduceIte,reduceCtorEq]; rfl,by simp -implicitDefEqProofs (disch:=omega) only [go_sem,↓reduceIte,reduceCtorEq,rq]; rfl⟩ (fun i hi fr σ hJ=>QA6 hT F SO hi hJ) (fun i hi fr σ hJ=>QMu hT hi hJ) (fun e fr σ hE=>?_)
 obtain ⟨rfl,t1,rfl⟩:=hE
 refine XN [] trivial 1000 ?_
 simp -implicitDefEqProofs (disch:=omega) only [go_sem,↓reduceIte,rA,rq,rL,lC,lN,nA,cA,and_true]
 refine XQ 3 (fun i fr σ=>∃ t,σ=⟨t,[]⟩∧Qd fr 5=cV∧Qd fr 6=.int .i64 ((i+3:Nat):Int)) k2E ⟨t1,rfl,by simp -implicitDefEqProofs (disch:=omega) only [go_sem,↓reduceIte]; rfl,by simp -implicitDefEqProofs (disch:=omega) only [go_sem,↓reduceIte,rq]; rfl⟩ (fun i hi fr σ hJ=>QAk hT F SO hi hJ) (fun i hi fr σ hJ=>QLx hT hi hJ) (fun e fr σ hE=>?_)
 obtain ⟨rfl,t2,rfl,f5⟩:=hE
 unfold cV at f5
 refine XN [(5,.lst 6 (cL.map fun d=>.agg d.cells) true)] ⟨f5,trivial⟩ 1000 ?_
 simp -implicitDefEqProofs (disch:=omega) only [go_sem,↓reduceIte,rq]
 refine Qy hT QR (n_Bits hT) rfl 1000 ?_
 simp -implicitDefEqProofs (disch:=omega) only [go_sem,↓reduceIte,rA,rq,rT,lC,lN]
 refine Qy hT QQ (QzJ hT) rfl 1000 ?_
 simp -implicitDefEqProofs (disch:=omega) only [go_sem,↓reduceIte,rA,rq,rT,lC,lN]
 refine Qy hT Qan (n_New hT) rfl 1000 ?_
 simp -implicitDefEqProofs (disch:=omega) only [go_sem,↓reduceIte,rq]
 refine Qy hT Xc (QK2 hT) rfl 1000 ?_
 simp -implicitDefEqProofs (disch:=omega) only [go_sem,↓reduceIte,rA,rq,rT,lC,lN,nA,cA,and_true]
 refine Qy hT QY (Qxl hT) rfl 1000 ?_
 simp -implicitDefEqProofs (disch:=omega) only [go_sem,↓reduceIte,rA,rq]
 refine Qy hT Qt (Qxm hT) rfl 1000 ?_
 simp -implicitDefEqProofs (disch:=omega) only [go_sem,↓reduceIte,rA,rq,rL,lC,lN,true_implies,and_true]
 refine Qy hT YY (n_Free hT) rfl 1000 ?_
 simp -implicitDefEqProofs (disch:=omega) only [go_sem,↓reduceIte,reduceCtorEq,rA,rq,lN,false_implies,true_implies,true_and,and_true,not_true_eq_false,h00]
 refine Qy hT QM (QK3 hT) rfl 1000 ?_
 simp -implicitDefEqProofs (disch:=omega) only [go_sem,↓reduceIte,reduceCtorEq,rA,rq,rL,lC,lN,nA,cA,false_implies,true_implies,true_and,and_true,not_true_eq_false,h00]
 refine Qy hT XV (Qyn hT F SO (lits:=[1,-2]) (by simp) (.inr rfl)) (by simp [Qc,Qf]) 1000 ?_
 simp -implicitDefEqProofs (disch:=omega) only [go_sem,↓reduceIte,rA,rq,lC,lN,nA,cA,and_true]
 refine Qy hT XV (Qyn hT F SO (lits:=[0]) (by simp) (.inr rfl)) (by simp [Qc,Qf]) 1000 ?_
 simp -implicitDefEqProofs (disch:=omega) only [go_sem,↓reduceIte,rA,rq]
 refine Qy hT XV (Qyn hT F SO (lits:=[]) (by simp) (.inl rfl)) (by simp [Qc,Qf]) 1000 ?_
 simp -implicitDefEqProofs (disch:=omega) only [go_sem,↓reduceIte,rA,rq]
 have hM1:=Pure.args (P:=Tryz.prog) (G:=G) (.cons (.lst 0 [] true) _ _ _ (.lst 0 6 _ _ true .nil (.inl rfl)) (WkL.refl _)) (QnE hT F SO [] false (by simp) (by simp) 0 [] true (.inl rfl) (by simp) 0 0)
 refine Qy hT QV hM1 rfl 1000 ?_
 simp -implicitDefEqProofs (disch:=omega) only [go_sem,↓reduceIte,rA,rq,rL,lC,lN,nA,cA,and_true]
 have hM2:=QnE (G:=G) hT F SO [⟨2,65537,0,0,0,0⟩] true (by simp [i64]) (by simp) 0 [] true (.inl rfl) (by simp) 0 0
 refine Qy hT QV hM2 rfl 1000 ?_
 simp -implicitDefEqProofs (disch:=omega) only [go_sem,↓reduceIte,rA,rq]
 refine Qy hT QJ hWk rfl 1000 ?_
 simp -implicitDefEqProofs (disch:=omega) only [go_sem,↓reduceIte,reduceCtorEq,rq,lN,and_true]
end
end Go.Proofs.YtoeicjlflmmmcaaGreatDoor
