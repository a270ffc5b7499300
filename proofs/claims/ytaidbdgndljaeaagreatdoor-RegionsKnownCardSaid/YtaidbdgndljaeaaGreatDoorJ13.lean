/- The document's functions of regions: the ways out of an instruction. -/
import Derived.Test.YtaidbdgndljaeaaGreatDoorJ12
import Derived.Test.YtaidbdgndljaeaaGreatDoorJ8
open Nat renaming reduceEqDiff → rq, reduceAdd → rA, reduceLeDiff → rL, reduceLT → rT, zero_add → zA, le_refl → lR, zero_le → zL, add_zero → aZ
open List renaming length_cons → lC, length_nil → lN, take_succ_cons → tS, length_append → lA, nil_append → nA, cons_append → cA, append_assoc → aA, take_nil → tN, take_zero → tZ, length_map → lM
open Bool renaming not_false → nF, not_true → nT
namespace Go.Proofs.YtaidbdgndljaeaaGreatDoor
open Go Go.Am Go.Rv Go.Rg
set_option maxRecDepth 100000
set_option maxHeartbeats 2000000
section
attribute [local go_sem] nF nT aZ lR Nat.mul_one zA zL decide_false decide_true ge_iff_le Qw XG QDX QDW QpA Quv QDV QDU QDT QDS Quu Qut Qus Qur
abbrev nxH (c:List In) (F:Int) (x:In) (w0 w1 w:Nat) (out:List Int):List (Option Ob):=[some (.arr w0 87 (dC c F)),some (.arr w1 96 (inC x)),some (.arr w 3 (ints out))]
abbrev nxJ (c:List In) (F:Int) (x:In) (w0 w1 i:Nat):Nat→Fr→H→Prop:=fun k fr σ=>∃ t w out,out=upD x i k∧Qg fr 1=.int .i64 ((i:Nat):Int)∧Qg fr 2=.ptr 0 w0 0∧Qg fr 5=.ptr 1 w1 0∧Qg fr 6=.sl 2 w 0 1 out.length none∧Qg fr 7=.int .i64 ((k:Nat):Int)∧σ=⟨t,nxH c F x w0 w1 w out⟩
abbrev nxE (c:List In) (F:Int) (x:In) (w0 w1 i:Nat):AE→Fr→H→Prop:=fun e fr σ=>∃ t w out,e=.ex 0∧out=upD x i c.length∧Qg fr 6=.sl 2 w 0 1 out.length none∧σ=⟨t,nxH c F x w0 w1 w out⟩
theorem QxB {P:Program} {G:Nat→Option V} (hT:Qk P tab) {c:List In} {F:Int} {x:In} {w0 w1 i:Nat} (hl:c.length≤1000000) (hx:c[i]?=some x) (hxo:Zq x) {k:Nat} {y:In} (hk:c[k]?=some y) {fr:Fr} {σ:H} (hJ:nxJ c F x w0 w1 i k fr σ) :
 W P G 75 0 (.seq (zg Quu [33,34,35,36] (zw 37 .skip (.exit 0))) (.seq (.block 1 (zg Qut [40,41,42,43,44,45,46,47,48,49,50,51] (zg Qus [52,53,54,55,56,57,58,59,60,61,62,63,64,65,66,67,68] (zw 69 (.reg Qur [70,71,72,73]) .skip)))) (.reg QpA [38,39]))) fr σ (QbQ (fun fr σ=>∃ fr' σ',Shift G 75 0 fr σ fr' σ'∧nxJ c F x w0 w1 i (k+1) fr' σ') (nxE c F x w0 w1 i)):=by
 obtain ⟨t,w,out,ho,f1,f2,f5,f6,f7,rfl⟩:=hJ
 have hlt:=(List.getElem?_eq_some_iff.1 hk).1
 have hlti:=(List.getElem?_eq_some_iff.1 hx).1
 have hJm:=Qqk (P:=P) (G:=G) hT c F hx
 have hnl:Qb [.agg (dC c F),.int .i64 (i:Int)]=true:=by simp [Qb,Qd,Qja]
 have hi64:-9223372036854775808≤x.imm∧x.imm≤9223372036854775807:=by have:=hxo.2.2.2.2; unfold i64 at this; omega
 have h4:=QrP hi64
 have w1':IntKind.i64.wrap (x.imm.tdiv 4)=x.imm.tdiv 4:=XA (by omega)
 have w2:IntKind.i64.wrap ((i:Int)+x.imm.tdiv 4)=tgt x i:=by rw [XA (by omega)]; rfl
 have w3:IntKind.i64.wrap ((i:Int)+1)=(i:Int)+1:=XA (by omega)
 have e2:=ZT hlt (by omega)
 have hap:∀ (l:List Int) (y:Int),ints l++[V.int .i64 y]=ints (l++[y]):=fun l y=>by simp [ints]
 have hol:out.length≤k:=by rw [ho]; exact QFJ _ _ _
 have hsu:=Qw5 x i k
 rw [← ho] at hsu
 have hln:out.length+1=(out++[(k:Int)]).length:=by simp
 have hb1:out.length+1≤9223372036854775807:=by omega
 simp only [dC,Q9,XP,inC] at hJm hnl
 have yes:goD x i k=true→upD x i (k+1)=out++[(k:Int)]:=fun h=>by rw [hsu,if_pos h]
 have no:goD x i k=false→upD x i (k+1)=out:=fun h=>by rw [hsu,if_neg (by simp [h]),List.append_nil]
 refine Qh [(1,.int .i64 ((i:Nat):Int)),(2,.ptr 0 w0 0),(5,.ptr 1 w1 0),(6,.sl 2 w 0 1 out.length none),(7,.int .i64 ((k:Nat):Int))] ⟨f1,f2,f5,f6,f7,trivial⟩  12 ?_
 simp -implicitDefEqProofs (disch:=omega) only [go_sem,↓reduceIte,rA,rq,rL,dC,Q9,XP,inC,lM,true_implies,and_true,hlt]
 iterate 4 (try (refine Qa 4 ?_; simp -implicitDefEqProofs (disch:=omega) only [go_sem,↓reduceIte,reduceCtorEq,rA,rq,dC,Q9,XP,inC,false_implies,and_true]))
 refine Qf hT Xp hJm hnl 4 ?_
 by_cases p1:Yh x=true∧((k:Nat):Int)=tgt x i
 ·have hg:goD x i k=true:=by unfold goD; simp [p1.1,p1.2]
  have p2:((k:Int)==tgt x i)=true:=by simp [p1.2]
  have p2':((k:Int)=tgt x i)=True:=eq_true p1.2
  rw [p1.1]
  simp -implicitDefEqProofs (disch:=omega) only [go_sem,↓reduceIte,rA,rq]
  iterate 12 (try (refine Qa 4 ?_; simp -implicitDefEqProofs (disch:=omega) only [go_sem,↓reduceIte,reduceCtorEq,rA,rq,rL,Int.reduceEq,dC,Q9,XP,inC,V.cells,Qq,true_implies,true_and,and_true,not_false_eq_true,cA,nA,w1',w2,e2,hap,p2]))
  refine ⟨_,_,Shift.refl _ _ _ _,t+1,t,out++[(k:Int)],(yes hg).symm,?_⟩
  simp -implicitDefEqProofs (disch:=omega) only [go_sem,↓reduceIte,rq,true_and,hln]
  all_goals first | rfl | exact ⟨rfl,rfl⟩ | exact ⟨rfl,rfl,rfl⟩
 ·have step:∀ b,Yh x=b→(b=true→((k:Int)==tgt x i)=false):=fun b hb hbt=>by
   rw [QlT]; exact decide_eq_false fun h=>p1 ⟨by rw [hb,hbt],h⟩
  have hg0:goD x i k=(decide (((k:Nat):Int)=(i:Int)+1)&&!(decide (x.op=3)&&decide (x.rd=0))):=by
   unfold goD
   have:(Yh x&&decide (((k:Nat):Int)=tgt x i))=false:=by
    rw [Bool.and_eq_false_iff]
    by_cases hj:Yh x=true
    ·exact .inr (decide_eq_false fun h=>p1 ⟨hj,h⟩)
    ·exact .inl (by simpa using hj)
   rw [this,Bool.false_or]
  rcases Bool.eq_false_or_eq_true (Yh x) with hj | hj
  ·rw [hj]
   have q:((k:Int)==tgt x i)=false:=step true hj rfl
   have q':((k:Int)=tgt x i)=False:=eq_false (by simpa using q)
   by_cases h1:((k:Nat):Int)=(i:Int)+1
   ·have h1b:((k:Int)==(i:Int)+1)=true:=by simp [h1]
    have h1p:((k:Int)=(i:Int)+1)=True:=eq_true h1
    by_cases h3:x.op=3
    ·have h3':(x.op==3)=true:=by simp [h3]
     by_cases h4:x.rd=0
     ·have h4':(x.rd==0)=true:=by simp [h4]
      have hg:goD x i k=false:=by rw [hg0]; simp [h3,h4]
      simp -implicitDefEqProofs (disch:=omega) only [go_sem,↓reduceIte,rA,rq]
      iterate 12 (try (refine Qa 4 ?_; simp -implicitDefEqProofs (disch:=omega) only [go_sem,↓reduceIte,rA,rq,rL,Int.reduceEq,inC,true_implies,and_true,not_false_eq_true,w1',w2,w3,e2,q,h1b,h3',h4']))
      refine ⟨_,_,Shift.refl _ _ _ _,t,w,out,(no hg).symm,?_⟩
      simp -implicitDefEqProofs (disch:=omega) only [go_sem,↓reduceIte,rq,and_true]
      all_goals first | rfl | exact ⟨rfl,rfl⟩ | exact ⟨rfl,rfl,rfl⟩
     ·have h4':(x.rd==0)=false:=by simp [h4]
      have hg:goD x i k=true:=by rw [hg0]; simp [h1,h4]
      simp -implicitDefEqProofs (disch:=omega) only [go_sem,↓reduceIte,rA,rq]
      iterate 12 (try (refine Qa 4 ?_; simp -implicitDefEqProofs (disch:=omega) only [go_sem,↓reduceIte,reduceCtorEq,rA,rq,rL,Int.reduceEq,dC,Q9,XP,inC,V.cells,Qq,true_implies,true_and,and_true,not_false_eq_true,cA,nA,w1',w2,w3,e2,hap,q,h1b,h3',h4']))
      refine ⟨_,_,Shift.refl _ _ _ _,t+1,t,out++[(k:Int)],(yes hg).symm,?_⟩
      simp -implicitDefEqProofs (disch:=omega) only [go_sem,↓reduceIte,rq,true_and,hln]
      all_goals first | rfl | exact ⟨rfl,rfl⟩ | exact ⟨rfl,rfl,rfl⟩
    ·have h3':(x.op==3)=false:=by simp [h3]
     have hg:goD x i k=true:=by rw [hg0]; simp [h1,h3]
     simp -implicitDefEqProofs (disch:=omega) only [go_sem,↓reduceIte,rA,rq]
     iterate 12 (try (refine Qa 4 ?_; simp -implicitDefEqProofs (disch:=omega) only [go_sem,↓reduceIte,reduceCtorEq,rA,rq,rL,Int.reduceEq,dC,Q9,XP,inC,V.cells,Qq,true_implies,true_and,and_true,not_false_eq_true,cA,nA,w1',w2,w3,e2,hap,q,h1b,h3']))
     refine ⟨_,_,Shift.refl _ _ _ _,t+1,t,out++[(k:Int)],(yes hg).symm,?_⟩
     simp -implicitDefEqProofs (disch:=omega) only [go_sem,↓reduceIte,rq,true_and,hln]
     all_goals first | rfl | exact ⟨rfl,rfl⟩ | exact ⟨rfl,rfl,rfl⟩
   ·have h1b:((k:Int)==(i:Int)+1)=false:=by rw [QlT]; exact decide_eq_false h1
    have h1p:((k:Int)=(i:Int)+1)=False:=eq_false h1
    have hg:goD x i k=false:=by rw [hg0]; simp [h1]
    simp -implicitDefEqProofs (disch:=omega) only [go_sem,↓reduceIte,rA,rq]
    iterate 12 (try (refine Qa 4 ?_; simp -implicitDefEqProofs (disch:=omega) only [go_sem,↓reduceIte,rA,rq,Int.reduceEq,inC,true_implies,and_true,not_false_eq_true,w1',w2,w3,e2,q,h1b]))
    refine ⟨_,_,Shift.refl _ _ _ _,t,w,out,(no hg).symm,?_⟩
    simp -implicitDefEqProofs (disch:=omega) only [go_sem,↓reduceIte,rq,and_true]
    all_goals first | rfl | exact ⟨rfl,rfl⟩ | exact ⟨rfl,rfl,rfl⟩
  ·rw [hj]
   by_cases h1:((k:Nat):Int)=(i:Int)+1
   ·have h1b:((k:Int)==(i:Int)+1)=true:=by simp [h1]
    have h1p:((k:Int)=(i:Int)+1)=True:=eq_true h1
    by_cases h3:x.op=3
    ·have h3':(x.op==3)=true:=by simp [h3]
     by_cases h4:x.rd=0
     ·have h4':(x.rd==0)=true:=by simp [h4]
      have hg:goD x i k=false:=by rw [hg0]; simp [h3,h4]
      simp -implicitDefEqProofs (disch:=omega) only [go_sem,↓reduceIte,rq]
      iterate 12 (try (refine Qa 4 ?_; simp -implicitDefEqProofs (disch:=omega) only [go_sem,↓reduceIte,rA,rq,rL,inC,true_implies,and_true,w3,e2,h1b,h3',h4']))
      refine ⟨_,_,Shift.refl _ _ _ _,t,w,out,(no hg).symm,?_⟩
      simp -implicitDefEqProofs (disch:=omega) only [go_sem,↓reduceIte,rq,and_true]
      all_goals first | rfl | exact ⟨rfl,rfl⟩ | exact ⟨rfl,rfl,rfl⟩
     ·have h4':(x.rd==0)=false:=by simp [h4]
      have hg:goD x i k=true:=by rw [hg0]; simp [h1,h4]
      simp -implicitDefEqProofs (disch:=omega) only [go_sem,↓reduceIte,rq]
      iterate 12 (try (refine Qa 4 ?_; simp -implicitDefEqProofs (disch:=omega) only [go_sem,↓reduceIte,reduceCtorEq,rA,rq,rL,dC,Q9,XP,inC,V.cells,Qq,true_implies,true_and,and_true,cA,nA,w3,e2,hap,h1b,h3',h4']))
      refine ⟨_,_,Shift.refl _ _ _ _,t+1,t,out++[(k:Int)],(yes hg).symm,?_⟩
      simp -implicitDefEqProofs (disch:=omega) only [go_sem,↓reduceIte,rq,true_and,hln]
      all_goals first | rfl | exact ⟨rfl,rfl⟩ | exact ⟨rfl,rfl,rfl⟩
    ·have h3':(x.op==3)=false:=by simp [h3]
     have hg:goD x i k=true:=by rw [hg0]; simp [h1,h3]
     simp -implicitDefEqProofs (disch:=omega) only [go_sem,↓reduceIte,rq]
     iterate 12 (try (refine Qa 4 ?_; simp -implicitDefEqProofs (disch:=omega) only [go_sem,↓reduceIte,reduceCtorEq,rA,rq,rL,dC,Q9,XP,inC,V.cells,Qq,true_implies,true_and,and_true,cA,nA,w3,e2,hap,h1b,h3']))
     refine ⟨_,_,Shift.refl _ _ _ _,t+1,t,out++[(k:Int)],(yes hg).symm,?_⟩
     simp -implicitDefEqProofs (disch:=omega) only [go_sem,↓reduceIte,rq,true_and,hln]
     all_goals first | rfl | exact ⟨rfl,rfl⟩ | exact ⟨rfl,rfl,rfl⟩
   ·have h1b:((k:Int)==(i:Int)+1)=false:=by rw [QlT]; exact decide_eq_false h1
    have h1p:((k:Int)=(i:Int)+1)=False:=eq_false h1
    have hg:goD x i k=false:=by rw [hg0]; simp [h1]
    simp -implicitDefEqProofs (disch:=omega) only [go_sem,↓reduceIte,rq]
    iterate 12 (try (refine Qa 4 ?_; simp -implicitDefEqProofs (disch:=omega) only [go_sem,↓reduceIte,rA,rq,w3,e2,h1b]))
    refine ⟨_,_,Shift.refl _ _ _ _,t,w,out,(no hg).symm,?_⟩
    simp -implicitDefEqProofs (disch:=omega) only [go_sem,↓reduceIte,rq,and_true]
    all_goals first | rfl | exact ⟨rfl,rfl⟩ | exact ⟨rfl,rfl,rfl⟩
theorem Qwk (hT:Qk Tryz.prog tab) (c:List In) (F:Int) (hd:Dec c) (hF:0≤F) (i:Int) (hl:c.length≤1000000) (hc:∀ x∈c,Zq x) (hi:-9≤i∧i≤2000000):Am.Pure Tryz.prog G0 Qar [.agg (dC c F),.int .i64 i] fun v=>v=Qz (next c F i):=by
 have hR:=Qrw (P:=Tryz.prog) (G:=G0) hT c F hd hF i hl hi
 have hE:=Qwl (P:=Tryz.prog) (G:=G0) hT c F hd i hl hc hi
 have hn2:Qb [.agg (dC c F),.int .i64 i]=true:=by simp [Qb,Qd,Qja]
 simp only [dC,Q9,XP,inC] at hR hE hn2
 refine Qe5 (fun t=>?_) (by simp [Qz,Qd])
 refine Qt hT YT (by simp [XG]) (Qn 12 ?_)
 by_cases h0:i<0
 ·have h0':decide (i<0)=true:=decide_eq_true h0
  have hr:next c F i=[]:=by unfold next nth; rw [if_pos h0]
  simp -implicitDefEqProofs (disch:=omega) only [go_sem,↓reduceIte,reduceCtorEq,rq,dC,Q9,XP,inC,Qz,V.cells,and_true,nA,h0]
  iterate 9 (try (refine Qa 4 ?_; simp -implicitDefEqProofs (disch:=omega) only [go_sem,↓reduceIte,reduceCtorEq,rq,true_and]))
  rw [hr]
  exact .inl (.lst 0 1 [] [] true .nil (.inl rfl))
 have h0':decide (i<0)=false:=decide_eq_false h0
 obtain ⟨k,rfl⟩:∃ k:Nat,i=k:=⟨i.toNat,by omega⟩
 by_cases h1:c.length≤k
 ·have h1':decide ((c.length:Int)≤(k:Int))=true:=decide_eq_true (by omega)
  have hr:next c F k=[]:=by unfold next; rw [Z2,List.getElem?_eq_none h1]
  simp -implicitDefEqProofs (disch:=omega) only [go_sem,↓reduceIte,reduceCtorEq,rq,dC,Q9,XP,inC,Qz,V.cells,and_true,nA,h0]
  iterate 12 (try (refine Qa 4 ?_; simp -implicitDefEqProofs (disch:=omega) only [go_sem,↓reduceIte,reduceCtorEq,rA,rq,rL,lM,true_implies,true_and,and_true,h1]))
  rw [hr]
  exact .inl (.lst 0 1 [] [] true .nil (.inl rfl))
 have h1':decide ((c.length:Int)≤(k:Int))=false:=decide_eq_false (by omega)
 have h1'':¬ (c.length:Int)≤(k:Int):=by omega
 have hlt:k<c.length:=by omega
 obtain ⟨x,hx⟩:∃ x,c[k]?=some x:=⟨_,List.getElem?_eq_getElem hlt⟩
 have hr:=Qq6 (F:=F) (show nth c (k:Int)=some x by rw [Z2]; exact hx)
 have hup:=upD_is c x (k:Int)
 simp -implicitDefEqProofs (disch:=omega) only [go_sem,↓reduceIte,reduceCtorEq,rq,dC,Q9,XP,inC,Qz,V.cells,and_true,nA,h0]
 iterate 6 (try (refine Qa 4 ?_; simp -implicitDefEqProofs (disch:=omega) only [go_sem,↓reduceIte,reduceCtorEq,rA,rq,rL,lM,false_implies,true_implies,and_true,h1'']))
 refine Qf hT Q7 hR hn2 4 ?_
 cases hrt:ret c F k with
 | true =>
   rw [hrt] at hr
   simp -implicitDefEqProofs (disch:=omega) only [go_sem,↓reduceIte,reduceCtorEq,rq]
   iterate 9 (try (refine Qa 4 ?_; simp -implicitDefEqProofs (disch:=omega) only [go_sem,↓reduceIte,reduceCtorEq,rq,true_and]))
   rw [hr]
   exact .inl (.lst 0 1 [] [] true .nil (.inl rfl))
 | false =>
   simp -implicitDefEqProofs (disch:=omega) only [go_sem,↓reduceIte,reduceCtorEq,rA,rq,false_implies,and_true]
   iterate 2 (try (refine Qa 4 ?_; simp -implicitDefEqProofs (disch:=omega) only [go_sem,↓reduceIte,reduceCtorEq,rA,rq]))
   refine Qf hT YU hE hn2 4 ?_
   cases hen:ends c k with
   | true =>
     rw [hrt,hen] at hr
     simp -implicitDefEqProofs (disch:=omega) only [go_sem,↓reduceIte,reduceCtorEq,rq]
     iterate 6 (try (refine Qa 4 ?_; simp -implicitDefEqProofs (disch:=omega) only [go_sem,↓reduceIte,reduceCtorEq,rq,true_and]))
     rw [hr]
     exact .inl (.lst 0 1 [] [] true .nil (.inl rfl))
   | false =>
     rw [hrt,hen,if_neg (by simp)] at hr
     have hr:next c F k=upD x k c.length:=by rw [hr,hup]; rfl
     have hD:=Xo hx
     simp only [inC] at hD
     simp -implicitDefEqProofs (disch:=omega) only [go_sem,↓reduceIte,reduceCtorEq,rq]
     iterate 3 (try (refine Qa 4 ?_; simp -implicitDefEqProofs (disch:=omega) only [go_sem,↓reduceIte,reduceCtorEq,rA,rq,rL,V.cells,lM,false_implies,true_implies,and_true,cA,nA,hD,hlt]))
     refine Qa 2 ?_
     simp -implicitDefEqProofs (disch:=omega) only [go_sem,↓reduceIte,reduceCtorEq,rq]
     refine Q8 (Shift.own (s:=6) (z:=0) (sz:=1) (T:=3) (by simp -implicitDefEqProofs (disch:=omega) only [go_sem,↓reduceIte,reduceCtorEq,rq]) (by decide)) ?_
     simp -implicitDefEqProofs (disch:=omega) only [go_sem,↓reduceIte,reduceCtorEq,rA,rq,H.push]
     refine Qa 6 ?_
     simp -implicitDefEqProofs (disch:=omega) only [go_sem,↓reduceIte,reduceCtorEq,rq]
     refine Xn c (nxJ c F x t (t+1) k) (nxE c F x t (t+1) k) ⟨t+1+1+1,t+1+1,[],rfl,?_⟩ (fun j y hj fr σ hJ=>QxB hT hl hx (hc x (List.mem_of_getElem? hx)) hj hJ) (fun j hj fr σ hJ=>?_) (fun e fr σ hE=>?_)
     ·simp -implicitDefEqProofs (disch:=omega) only [go_sem,↓reduceIte,reduceCtorEq,rq,true_and]
      all_goals first | rfl | exact ⟨rfl,rfl⟩ | exact ⟨rfl,rfl,rfl⟩
     ·obtain ⟨t2,w,out,ho,f1,f2,f5,f6,f7,rfl⟩:=hJ
      rw [hj] at ho
      refine Qh [(1,.int .i64 ((k:Nat):Int)),(2,.ptr 0 t 0),(5,.ptr 1 (t+1) 0),(6,.sl 2 w 0 1 out.length none),(7,.int .i64 ((j:Nat):Int))] ⟨f1,f2,f5,f6,f7,trivial⟩ 20 ?_
      simp -implicitDefEqProofs (disch:=omega) only [go_sem,↓reduceIte,rA,rq,rL,dC,Q9,XP,inC,lM,true_implies,and_true,hj,Nat.lt_irrefl]
      exact ⟨t2,w,out,rfl,ho,rfl,rfl⟩
     ·obtain ⟨t2,w,out,rfl,ho,f6,rfl⟩:=hE
      refine YE [(6,.sl 2 w 0 1 out.length none)] ⟨f6,trivial⟩ 12 ?_
      simp -implicitDefEqProofs (disch:=omega) only [go_sem,↓reduceIte,rq]
      rw [hr,← ho]
      have hfz:Qaa 2 w (ints out) (.sl 2 w 0 1 out.length none)=Qz out:=by
       simp [Qaa,Qcb,Qz,Qq]
       rw [List.take_of_length_le (by rw [Qq]; exact lR _)]
      refine ⟨2,w,3,ints out,rfl,Zp _,?_,?_⟩
      ·rw [hfz]; simp [Qz,Qd]
      ·rw [hfz]; exact .refl _
end
section
attribute [local go_sem] nF nT aZ lR Nat.mul_one zA zL decide_false decide_true gt_iff_lt Qw XJ QD0 QDZ QuC QuB QpE QpD QpC QpB QuA QDY Quz Quy Qux QqW QqV QqU Quw
def wyV (n:Nat) (f:Int→Nat):List V:=(List.range n).map fun k:Nat=>V.int .i64 ((f (k:Int):Nat):Int)
theorem Qhr (n:Nat) (f:Int→Nat):(wyV n f).length=n:=by simp [wyV]
variable {f:Int→Nat} {n k w0 w i:Nat}
theorem Qu3 (h:k<n):(wyV n f).getD k V.any=.int .i64 ((f (k:Int):Nat):Int):=by
 simp [wyV,List.getD_eq_getElem?_getD,h]
theorem QFG (h:k<n):(wyV n f).set k (.int .i64 ((f (k:Int)+1:Nat):Int))=wyV n fun q=>if q=(k:Int) then f q+1 else f q:=by
 apply List.ext_getElem?
 intro i
 by_cases hi:i<n
 ·by_cases hik:i=k
  ·subst hik
   rw [List.getElem?_set_self (by rw [Qhr]; exact hi)]
   simp [wyV,hi]
  ·rw [List.getElem?_set_ne (Ne.symm hik)]
   have:((i:Int)=(k:Int))=False:=eq_false (by omega)
   simp [wyV,hi,this]
 ·rw [List.getElem?_eq_none (by rw [List.length_set,Qhr]; omega),List.getElem?_eq_none (by rw [Qhr]; omega)]
theorem Qw2 (n:Nat):(List.replicate n [V.int .i64 0]).flatten=wyV n fun _=>0:=by
 apply List.ext_getElem?
 intro i
 have h1:(List.replicate n [V.int .i64 0]).flatten=List.replicate n (V.int .i64 0):=by
  induction n with
  | zero=>rfl
  | succ n ih=>rw [List.replicate_succ,List.flatten_cons,ih,List.replicate_succ]; rfl
 rw [h1]
 by_cases hi:i<n
 ·simp [wyV,hi]
 ·simp [wyV,hi]
theorem Qu4 {g:Int→Nat} (h:∀ k,f k=g k):wyV n f=wyV n g:=by rw [funext h]
def upC (n:Nat) (p:Int→Bool) (k:Nat):List Int:=((List.range k).filter fun q:Nat=>p (q:Int)).map fun q:Nat=>(q:Int)
theorem Qw6 (n:Nat) (p:Int→Bool) (k:Nat):upC n p (k+1)=upC n p k++if p (k:Int) then [(k:Int)] else []:=by
 unfold upC
 rw [List.range_succ,List.filter_append,List.map_append]
 congr 1
 by_cases h:p (k:Int)=true <;> simp [h]
theorem QFK (n:Nat) (p:Int→Bool) (k:Nat):(upC n p k).length≤k:=by
 unfold upC
 have:=List.length_filter_le (fun q:Nat=>p (q:Int)) (List.range k)
 simpa using this
abbrev dcJ (c:List In) (F:Int) (w0 w i:Nat) (L:List Int) (f0:Int→Nat):Nat→Fr→H→Prop:=fun j fr σ=>∃ t f,(∀ k,f k=f0 k+(L.take j).count k)∧Qg fr 1=.ptr 0 w0 0∧Qg fr 3=.sl 1 w 0 1 c.length none∧Qg fr 4=.int .i64 ((i:Nat):Int)∧Qg fr 5=.lst 1 (ints L) false∧Qg fr 6=.int .i64 ((j:Nat):Int)∧σ=⟨t,[some (.arr w0 87 (dC c F)),some (.arr w 3 (wyV c.length f))]⟩
abbrev dcE (c:List In) (F:Int) (w0 w i:Nat) (L:List Int) (f0:Int→Nat):AE→Fr→H→Prop:=fun e fr σ=>∃ t f,e=.ex 2∧(∀ k,f k=f0 k+L.count k)∧Qg fr 1=.ptr 0 w0 0∧Qg fr 3=.sl 1 w 0 1 c.length none∧Qg fr 4=.int .i64 ((i:Nat):Int)∧σ=⟨t,[some (.arr w0 87 (dC c F)),some (.arr w 3 (wyV c.length f))]⟩
variable {σ:H} {fr:Fr} {F:Int} {c:List In} {G:Nat→Option V} {P:Program}
theorem Qyk {L:List Int} {f0:Int→Nat} (hl:c.length≤1000000) (hL:L.length≤2) (h0:∀ k,f0 k≤1000000) (hin:∀ k∈L,0≤k∧k<c.length) {j:Nat} {x:Int} (hx:L[j]?=some x) (hJ:dcJ c F w0 w i L f0 j fr σ) :
 W P G 54 0 (.seq (zg QqW [23,24,25] (zw 26 .skip (.exit 2))) (.seq (.block 3 (.reg QqV [29,30,31,32,33,34,35,36,37])) (.reg QqU [27,28]))) fr σ (QbQ (fun fr σ=>∃ fr' σ',Shift G 54 0 fr σ fr' σ'∧dcJ c F w0 w i L f0 (j+1) fr' σ') (dcE c F w0 w i L f0)):=by
 obtain ⟨t,f,hf,f1,f3,f4,f5,f6,rfl⟩:=hJ
 have hlt:=(List.getElem?_eq_some_iff.1 hx).1
 have hD:=Qdd hx
 have e2:=ZT hlt (by omega)
 obtain ⟨g0,g1⟩:=hin x (List.mem_of_getElem? hx)
 obtain ⟨k,rfl⟩:∃ k:Nat,x=k:=⟨x.toNat,by omega⟩
 have hk:k<c.length:=by omega
 have hG:=Qu3 (f:=f) hk
 have hS:=QFG (f:=f) hk
 have hfb:f (k:Int)≤1000002:=by
  rw [hf]
  have h1:=h0 (k:Int)
  have h2:(L.take j).count (k:Int)≤(L.take j).length:=List.count_le_length
  have h3:(L.take j).length≤2:=by rw [List.length_take]; omega
  omega
 have w1:IntKind.i64.wrap (((f (k:Int):Nat):Int)+1)=((f (k:Int)+1:Nat):Int):=by rw [XA (by omega)]; rfl
 have hS':List.take k (wyV c.length f)++[V.int .i64 ((f (k:Int)+1:Nat):Int)]++List.drop (k+1) (wyV c.length f)=wyV c.length fun q=>if q=(k:Int) then f q+1 else f q:=by
  rw [← hS,List.set_eq_take_append_cons_drop,if_pos (by rw [Qhr]; exact hk)]; simp
 refine Qh [(1,.ptr 0 w0 0),(3,.sl 1 w 0 1 c.length none),(4,.int .i64 ((i:Nat):Int)),(5,.lst 1 (ints L) false),(6,.int .i64 ((j:Nat):Int))] ⟨f1,f3,f4,f5,f6,trivial⟩  30 ?_
 simp -implicitDefEqProofs (disch:=omega) only [go_sem,↓reduceIte,rq,dC,Q9,XP,inC,V.cells,Qq,Qhr,true_implies,true_and,and_true,hlt,hD,hk,hG,w1,hS']
 iterate 3 (try (refine Qa 8 ?_; simp -implicitDefEqProofs (disch:=omega) only [go_sem,e2]))
 refine ⟨_,_,Shift.refl _ _ _ _,t,_,fun q=>?_,rfl,rfl,rfl,rfl,rfl,rfl⟩
 rw [List.take_add_one,hx,List.count_append]
 have:=hf q
 by_cases e:q=(k:Int)
 ·subst e; simp; omega
 ·simp [e,Ne.symm e]; omega
abbrev ddJ (c:List In) (F:Int) (w0 w:Nat):Nat→Fr→H→Prop:=fun i fr σ=>∃ t,Qg fr 1=.ptr 0 w0 0∧Qg fr 3=.sl 1 w 0 1 c.length none∧Qg fr 4=.int .i64 ((i:Nat):Int)∧σ=⟨t,[some (.arr w0 87 (dC c F)),some (.arr w 3 (wyV c.length (XB c F i)))]⟩
abbrev ddE (c:List In) (F:Int) (w0 w:Nat):AE→Fr→H→Prop:=fun e fr σ=>∃ t,e=.ex 0∧Qg fr 1=.ptr 0 w0 0∧Qg fr 3=.sl 1 w 0 1 c.length none∧σ=⟨t,[some (.arr w0 87 (dC c F)),some (.arr w 3 (wyV c.length (XB c F c.length)))]⟩
variable {x:In}
theorem Qyj (hT:Qk Tryz.prog tab) (hd:Dec c) (hF:0≤F) (hl:c.length≤1000000) (hc:∀ x∈c,Zq x) (hx:c[i]?=some x) (hJ:ddJ c F w0 w i fr σ) :
 W Tryz.prog G0 54 0 (.seq (zg Quz [13,14,15,16] (zw 17 .skip (.exit 0))) (.seq (.block 1 (zg Quy [20,21,22] (zg Qux [] (.block 2 (.loop (.seq (zg QqW [23,24,25] (zw 26 .skip (.exit 2))) (.seq (.block 3 (.reg QqV [29,30,31,32,33,34,35,36,37])) (.reg QqU [27,28])))))))) (.reg Quw [18,19]))) fr σ (QbQ (fun fr σ=>∃ fr' σ',Shift G0 54 0 fr σ fr' σ'∧ddJ c F w0 w (i+1) fr' σ') (ddE c F w0 w)):=by
 obtain ⟨t,f1,f3,f4,rfl⟩:=hJ
 have hlt:=(List.getElem?_eq_some_iff.1 hx).1
 have e2:=ZT hlt (by omega)
 have hN:=Qwk hT c F hd hF (i:Int) hl hc (by omega)
 have hn2:Qb [.agg (dC c F),.int .i64 (i:Int)]=true:=by simp [Qb,Qd,Qja]
 have hll:=Qkq c F i
 have hin:=fun q hq=>Qnd (c:=c) (F:=F) (i:=(i:Int)) (k:=q) hq
 have hsuc:=fun k=>QkU c F i k
 generalize hL:next c F i=L at *
 simp only [dC,Q9,XP,inC,Qz] at hN hn2
 refine Qh [(1,.ptr 0 w0 0),(3,.sl 1 w 0 1 c.length none),(4,.int .i64 ((i:Nat):Int))] ⟨f1,f3,f4,trivial⟩  14 ?_
 simp -implicitDefEqProofs (disch:=omega) only [go_sem,↓reduceIte,rA,rq,rL,dC,Q9,XP,inC,lM,true_implies,and_true,hlt]
 iterate 4 (try (refine Qa 4 ?_; simp -implicitDefEqProofs (disch:=omega) only [go_sem,↓reduceIte,reduceCtorEq,rA,rq,false_implies,and_true]))
 refine Qf hT YT hN hn2 12 ?_
 simp -implicitDefEqProofs (disch:=omega) only [go_sem,↓reduceIte,rq]
 refine Xn L (dcJ c F w0 w i L (XB c F i)) (dcE c F w0 w i L (XB c F i)) ⟨t,XB c F i,by simp,?_⟩ (fun j x hx fr σ hJ=>Qyk hl hll (fun k=>by have:=Qn8 c F i k; omega) hin hx hJ) (fun j hj fr σ hJ=>?_) (fun e fr σ hE=>?_)
 ·simp -implicitDefEqProofs (disch:=omega) only [go_sem,↓reduceIte,rq,dC,Q9,XP,inC,true_and,and_true]
  all_goals first | rfl | exact ⟨rfl,rfl⟩ | exact ⟨rfl,rfl,rfl⟩
 ·obtain ⟨t2,f,hf,f1,f3,f4,f5,f6,rfl⟩:=hJ
  rw [hj,List.take_length] at hf
  refine Qh [(1,.ptr 0 w0 0),(3,.sl 1 w 0 1 c.length none),(4,.int .i64 ((i:Nat):Int)),(5,.lst 1 (ints L) false),(6,.int .i64 ((j:Nat):Int))] ⟨f1,f3,f4,f5,f6,trivial⟩  12 ?_
  simp -implicitDefEqProofs (disch:=omega) only [go_sem,↓reduceIte,rq,dC,Q9,XP,inC,Qq,hj,Nat.lt_irrefl]
  exact ⟨t2,f,rfl,hf,rfl,rfl,rfl,rfl⟩
 ·obtain ⟨t2,f,rfl,hf,f1,f3,f4,rfl⟩:=hE
  refine Qa3 [(1,.ptr 0 w0 0),(3,.sl 1 w 0 1 c.length none),(4,.int .i64 ((i:Nat):Int))] ⟨f1,f3,f4,trivial⟩ 12 ?_
  simp -implicitDefEqProofs (disch:=omega) only [go_sem,↓reduceIte,rq,dC,Q9,XP,inC,e2]
  refine ⟨_,_,Shift.refl _ _ _ _,t2,rfl,rfl,rfl,?_⟩
  rw [Qu4 (f:=f) (g:=XB c F (i+1)) fun k=>by rw [hf,hsuc]]
  rfl
abbrev deJ (c:List In) (F:Int) (w0 w:Nat):Nat→Fr→H→Prop:=fun k fr σ=>∃ t wo out,out=upC c.length (fun q=>decide (1<XB c F c.length q)) k∧Qg fr 3=.sl 1 w 0 1 c.length none∧Qg fr 7=.sl 2 wo 0 1 out.length none∧Qg fr 8=.int .i64 ((k:Nat):Int)∧σ=⟨t,[some (.arr w0 87 (dC c F)),some (.arr w 3 (wyV c.length (XB c F c.length))),some (.arr wo 3 (ints out))]⟩
abbrev deE (c:List In) (F:Int) (w0 w:Nat):AE→Fr→H→Prop:=fun e fr σ=>∃ t wo out,e=.ex 4∧out=Rg.cuts c F∧Qg fr 7=.sl 2 wo 0 1 out.length none∧σ=⟨t,[some (.arr w0 87 (dC c F)),some (.arr w 3 (wyV c.length (XB c F c.length))),some (.arr wo 3 (ints out))]⟩
theorem Qyi (hl:c.length≤1000000) (hx:c[k]?=some x) (hJ:deJ c F w0 w k fr σ) :
 W P G 54 0 (.seq (zg QpE [38,39,40] (zw 41 .skip (.exit 4))) (.seq (.block 5 (zg QpD [44,45,46,47] (zw 48 (.reg QpC [49,50,51,52]) .skip))) (.reg QpB [42,43]))) fr σ (QbQ (fun fr σ=>∃ fr' σ',Shift G 54 0 fr σ fr' σ'∧deJ c F w0 w (k+1) fr' σ') (deE c F w0 w)):=by
 obtain ⟨t,wo,out,ho,f3,f7,f8,rfl⟩:=hJ
 have hlt:=(List.getElem?_eq_some_iff.1 hx).1
 have e2:=ZT hlt (by omega)
 have hG:=Qu3 (f:=XB c F c.length) hlt
 have hsu:=Qw6 c.length (fun q=>decide (1<XB c F c.length q)) k
 have hol:out.length≤k:=by rw [ho]; exact QFK _ _ _
 rw [← ho] at hsu
 have hap:∀ (l:List Int) (y:Int),ints l++[V.int .i64 y]=ints (l++[y]):=fun l y=>by simp [ints]
 have hln:out.length+1=(out++[(k:Int)]).length:=by simp
 by_cases h:1<XB c F c.length (k:Int)
 ·have h':decide ((1:Int)<((XB c F c.length (k:Int):Nat):Int))=true:=decide_eq_true (by omega)
  have h'':((1:Int)<((XB c F c.length (k:Int):Nat):Int))=True:=eq_true (by omega)
  have hs:upC c.length (fun q=>decide (1<XB c F c.length q)) (k+1)=out++[(k:Int)]:=by rw [hsu]; simp [h]
  refine Qh [(3,.sl 1 w 0 1 c.length none),(7,.sl 2 wo 0 1 out.length none),(8,.int .i64 ((k:Nat):Int))] ⟨f3,f7,f8,trivial⟩  20 ?_
  simp -implicitDefEqProofs (disch:=omega) only [go_sem,↓reduceIte,rq,dC,Q9,XP,inC,Qhr,true_implies,true_and,and_true,hlt,hG,h'']
  iterate 9 (try (refine Qa 4 ?_; simp -implicitDefEqProofs (disch:=omega) only [go_sem,↓reduceIte,reduceCtorEq,rq,rL,V.cells,Qq,true_and,and_true,cA,nA,hap,e2]))
  refine ⟨_,_,Shift.refl _ _ _ _,t+1,t,out++[(k:Int)],hs.symm,?_⟩
  simp -implicitDefEqProofs (disch:=omega) only [go_sem,↓reduceIte,rq,dC,Q9,XP,inC,and_true,hln]
  all_goals first | rfl | exact ⟨rfl,rfl⟩ | exact ⟨rfl,rfl,rfl⟩
 ·have h':decide ((1:Int)<((XB c F c.length (k:Int):Nat):Int))=false:=decide_eq_false (by omega)
  have h'':((1:Int)<((XB c F c.length (k:Int):Nat):Int))=False:=eq_false (by omega)
  have hs:upC c.length (fun q=>decide (1<XB c F c.length q)) (k+1)=out:=by rw [hsu]; simp [h]
  refine Qh [(3,.sl 1 w 0 1 c.length none),(7,.sl 2 wo 0 1 out.length none),(8,.int .i64 ((k:Nat):Int))] ⟨f3,f7,f8,trivial⟩  20 ?_
  simp -implicitDefEqProofs (disch:=omega) only [go_sem,↓reduceIte,rq,dC,Q9,XP,inC,Qhr,true_implies,true_and,and_true,hlt,hG,h'']
  iterate 9 (try (refine Qa 4 ?_; simp -implicitDefEqProofs (disch:=omega) only [go_sem,↓reduceIte,rq,e2]))
  refine ⟨_,_,Shift.refl _ _ _ _,t,wo,out,hs.symm,?_⟩
  simp -implicitDefEqProofs (disch:=omega) only [go_sem,↓reduceIte,rq,dC,Q9,XP,inC,and_true]
  all_goals first | rfl | exact ⟨rfl,rfl⟩ | exact ⟨rfl,rfl,rfl⟩
theorem QG0 (hT:Qk Tryz.prog tab) (c:List In) (F:Int) (hd:Dec c) (hF:0≤F) (hl:c.length≤1000000) (hc:∀ x∈c,Zq x):Am.Pure Tryz.prog G0 Qau [.agg (dC c F)] fun v=>v=Qz (Rg.cuts c F):=by
 refine Qe5 (fun t=>?_) (by simp [Qz,Qd])
 have hl2:(0≤(c.length:Int)∧(c.length:Int)≤c.length∧(c.length:Int) * ((1:Nat):Int)≤140737488355328∧(c.length:Int)≤9223372036854775807∧ones [V.int .i64 0])=True:=eq_true ⟨by omega,by omega,by omega,by omega,by intro u hu; simp at hu; subst hu; rfl⟩
 refine Qt hT Qan (by simp [XJ]) (Qn 30 ?_)
 simp -implicitDefEqProofs (disch:=omega) only [go_sem,↓reduceIte,reduceCtorEq,rA,rq,rL,dC,Q9,XP,inC,Qz,V.cells,lM,true_implies,true_and,and_true,cA,nA,Int.toNat_natCast,Qw2,H.push]
 refine Xn c (ddJ c F t (t+1)) (ddE c F t (t+1)) ⟨t+1+1,?_⟩ (fun i x hx fr σ hJ=>Qyj hT hd hF hl hc hx hJ) (fun i hi fr σ hJ=>?_) (fun e fr σ hE=>?_)
 ·have h0:wyV c.length (XB c F 0)=wyV c.length fun _=>0:=Qu4 fun k=>by simp [XB]
  simp -implicitDefEqProofs (disch:=omega) only [go_sem,↓reduceIte,reduceCtorEq,rq,dC,Q9,XP,inC,true_and]
  rw [h0]
  all_goals first | rfl | exact ⟨rfl,rfl⟩ | exact ⟨rfl,rfl,rfl⟩
 ·obtain ⟨t2,f1,f3,f4,rfl⟩:=hJ
  rw [hi]
  refine Qh [(1,.ptr 0 t 0),(3,.sl 1 (t+1) 0 1 c.length none),(4,.int .i64 ((i:Nat):Int))] ⟨f1,f3,f4,trivial⟩ 12 ?_
  simp -implicitDefEqProofs (disch:=omega) only [go_sem,↓reduceIte,rA,rq,rL,dC,Q9,XP,inC,lM,true_implies,and_true,hi,Nat.lt_irrefl]
  exact ⟨t2,rfl,rfl,rfl,rfl⟩
 ·obtain ⟨t2,rfl,f1,f3,rfl⟩:=hE
  refine YE [(1,.ptr 0 t 0),(3,.sl 1 (t+1) 0 1 c.length none)] ⟨f1,f3,trivial⟩ 4 ?_
  simp -implicitDefEqProofs (disch:=omega) only [go_sem,↓reduceIte,rq,dC,Q9,XP,inC]
  refine Q8 (Shift.own (s:=7) (z:=0) (sz:=1) (T:=3) (by simp -implicitDefEqProofs (disch:=omega) only [go_sem,↓reduceIte,rq]) (by decide)) ?_
  simp -implicitDefEqProofs (disch:=omega) only [go_sem,↓reduceIte,rA,rq,H.push]
  refine Qa 6 ?_
  simp -implicitDefEqProofs (disch:=omega) only [go_sem,↓reduceIte,rq]
  refine Xn c (deJ c F t (t+1)) (deE c F t (t+1)) ⟨t2+1,t2,[],rfl,?_⟩ (fun k x hx fr σ hJ=>Qyi hl hx hJ) (fun k hk fr σ hJ=>?_) (fun e fr σ hE=>?_)
  ·simp -implicitDefEqProofs (disch:=omega) only [go_sem,↓reduceIte,rq,dC,Q9,XP,inC,true_and]
   all_goals first | rfl | exact ⟨rfl,rfl⟩ | exact ⟨rfl,rfl,rfl⟩
  ·obtain ⟨t3,wo,out,ho,f3,f7,f8,rfl⟩:=hJ
   rw [hk] at ho
   refine Qh [(3,.sl 1 (t+1) 0 1 c.length none),(7,.sl 2 wo 0 1 out.length none),(8,.int .i64 ((k:Nat):Int))] ⟨f3,f7,f8,trivial⟩ 12 ?_
   simp -implicitDefEqProofs (disch:=omega) only [go_sem,↓reduceIte,rq,dC,Q9,XP,inC,hk,Nat.lt_irrefl]
   exact ⟨t3,wo,out,rfl,ho,rfl,rfl⟩
  ·obtain ⟨t3,wo,out,rfl,ho,f7,rfl⟩:=hE
   refine YE [(7,.sl 2 wo 0 1 out.length none)] ⟨f7,trivial⟩ 12 ?_
   simp -implicitDefEqProofs (disch:=omega) only [go_sem,↓reduceIte,rq,dC,Q9,XP,inC]
   rw [← ho]
   have hfz:Qaa 2 wo (ints out) (.sl 2 wo 0 1 out.length none)=Qz out:=by
    simp [Qaa,Qcb,Qz,Qq]
    rw [List.take_of_length_le (by rw [Qq]; exact lR _)]
   refine ⟨2,wo,3,ints out,rfl,Zp _,?_,?_⟩
   ·rw [hfz]; simp [Qz,Qd]
   ·rw [hfz]; exact .refl _
end
section
attribute [local go_sem] nF nT cA lM nA aZ lR Nat.mul_one Nat.one_mul Nat.succ_ne_zero zA zL Nat.zero_mul Option.getD_none Option.getD_some Option.isSome_none Option.isSome_some V.cells and_true beq_self_eq_true bne_self_eq_false QF decide_false decide_true false_implies ge_iff_le gt_iff_lt inC Qw not_false_eq_true not_true_eq_false YM QEm QEl QpI QpH QpG QpF QEk QuM QuL QuK QuJ QuI QuH QuG true_and true_implies
def gdR (c:List In):List V:=c.map fun x=>V.bool (decide (x.op≠0))
theorem Qx5 (c:List In) (x:In):gdR (c++[x])=gdR c++[.bool (decide (x.op≠0))]:=by simp [gdR]
theorem QvM (c:List In):(gdR c).length=c.length:=by simp [gdR]
theorem QEz:∀ c:List In,Qb (gdR c)=true
 | []=>rfl
 | x::c=>by have:=QEz c; simpa [gdR,Qb,Qd] using this
theorem QGQ (c:List In):Ze 5 c.length (QaJ c)=c.map fun x=>V.agg (inC x):=by
 induction c with
 | nil=>rfl
 | cons x c ih =>
   show Ze 5 (c.length+1) (inC x++QaJ c)=_
   unfold Ze
   rw [List.map_cons,← ih]
   rfl
variable {w:Int} {i v0 v1:Nat} {ws:List Int}
theorem Qqf (h:ws[i]?=some w):codeOf (ws.take (i+1))=codeOf (ws.take i)++[(dec w).getD zeroI]:=by
 unfold codeOf
 rw [List.take_add_one,h]
 simp
abbrev drF (wc wg n:Nat) (F:Int):List V:=[.sl 2 wc 0 5 n none,.sl 3 wg 0 1 n none,.int .i64 F]
abbrev drH (v0 v1 wc wg:Nat) (C:List In) (F:Int):List (Option Ob):=[some (.arr v0 87 [.lst 0 [] true,.lst 0 [] true,.int .i64 0]),some (.arr v1 87 (drF wc wg C.length F)),some (.arr wc 96 (QaJ C)),some (.arr wg 4 (gdR C))]
abbrev drJ (ws:List Int) (v0 v1:Nat):Nat→Fr→H→Prop:=fun i fr σ=>∃ t wc wg C,C=codeOf (ws.take i)∧Qg fr 0=QF ws∧Qg fr 2=.ptr 0 v0 0∧Qg fr 3=.ptr 1 v1 0∧Qg fr 4=.int .i64 ((i:Nat):Int)∧σ=⟨t,drH v0 v1 wc wg C 0⟩
abbrev drE (ws:List Int) (v0 v1:Nat):AE→Fr→H→Prop:=fun e fr σ=>∃ t wc wg C,e=.ex 0∧C=codeOf ws∧Qg fr 0=QF ws∧Qg fr 2=.ptr 0 v0 0∧Qg fr 3=.ptr 1 v1 0∧σ=⟨t,drH v0 v1 wc wg C 0⟩
theorem take4 (a b c d e:Option Ob):YR [a,b,c,d] [a,b,c,d,e]:=Y0 4 [a,b,c,d,e]
variable {fr:Fr}
theorem Qyg (hT:Qk Tryz.prog tab) (hw:∀ w∈ws,0≤w∧w<4294967296) (hl:ws.length≤1000000) (hx:ws[i]?=some w) {σ:H} (hJ:drJ ws v0 v1 i fr σ) :
 W Tryz.prog G0 82 0 (.seq (zg QuM [10,11,12] (zw 13 .skip (.exit 0))) (.seq (.block 1 (zg QuL [17,18,19,20,21,16,22,23] (zg QuK [24,25,26,27,28,29] (.reg QuJ [30,31,32,33,34,35,36])))) (.reg QuI [14,15]))) fr σ (QbQ (fun fr σ=>∃ fr' σ',Shift G0 82 0 fr σ fr' σ'∧drJ ws v0 v1 (i+1) fr' σ') (drE ws v0 v1)):=by
 obtain ⟨t,wc,wg,C,hC,f0,f2,f3,f4,rfl⟩:=hJ
 have hlt:=(List.getElem?_eq_some_iff.1 hx).1
 have e2:=ZT hlt (by omega)
 have hb:=hw w (List.mem_of_getElem? hx)
 have hDw:(ws.map (V.int .u32)).getD i V.any=.int .u32 w:=by simp [List.getD_eq_getElem?_getD,hx]
 have hDc:=Qwd (P:=Tryz.prog) hT w hb.1 hb.2
 have hnx:=Qqf hx
 rw [← hC] at hnx
 have hCl:C.length≤1000000:=by rw [hC]; unfold codeOf; rw [lM,List.length_take]; omega
 have hrl:=Qid C
 have hgl:=QvM C
 have hd0:dec w=first w 0 T:=rfl
 rw [← hd0] at hDc
 have hgood:(dec w).isSome=decide (((dec w).getD zeroI).op≠0):=by
  cases h:dec w with
  | none=>rfl
  | some y =>
    have:=(Qrs hb.1 hb.2 h).2
    simp; omega
 obtain ⟨x,er,hv,hx1,hx2⟩:∃ (x:In) (er:Int),errT (dec w)=[.agg (inC x),.int .i64 er]∧x=(dec w).getD zeroI∧(er==0)=decide (x.op≠0):=by
  cases h:dec w with
  | none=>exact ⟨zeroI,100,rfl,rfl,rfl⟩
  | some y=>exact ⟨y,0,rfl,rfl,by rw [h] at hgood; simpa using hgood⟩
 rw [hv] at hDc
 rw [← hx1] at hnx
 have hs1:=QmA C x
 have hs2:=Qx5 C x
 rw [← hx2] at hs2
 have hln:C.length+1=(C++[x]).length:=by simp
 simp only [inC] at hDc hs1
 refine Qh [(0,QF ws),(2,.ptr 0 v0 0),(3,.ptr 1 v1 0),(4,.int .i64 ((i:Nat):Int))] ⟨f0,f2,f3,f4,trivial⟩  60 ?_
 simp -implicitDefEqProofs (disch:=omega) only [go_sem,↓reduceIte,reduceCtorEq,rq,hlt,hDw]
 refine Qf hT Qa2 hDc rfl 60 ?_
 simp -implicitDefEqProofs (disch:=omega) only [go_sem,↓reduceIte,reduceCtorEq,rA,rq,rL,rT,hrl,hgl]
 iterate 6 (try (refine Qa 9 ?_; simp -implicitDefEqProofs (disch:=omega) only [go_sem,↓reduceIte,reduceCtorEq,rA,rq,rL,rT,Nat.reduceSub,Nat.reduceMul,Int.reduceToNat,Int.reduceLE,Int.reduceLT,Int.reduceEq,Int.reduceNe,Nat.reduceBEq,Nat.reduceBNe,Int.reduceBEq,Int.reduceBNe,hrl,hgl,e2]))
 have hsub:YR (drH v0 v1 (t+1) (t+1+1) (C++[x]) 0) [some (.arr v0 87 [.lst 0 [] true,.lst 0 [] true,.int .i64 0]),some (.arr v1 87 [.sl 2 (t+1) 0 5 (C.length+1) none,.sl 3 (t+1+1) 0 1 (C.length+1) none,.int .i64 0]),some (.arr (t+1) 96 (QaJ C++[V.int .u8 x.op,.int .u8 x.rd,.int .u8 x.rs1,.int .u8 x.rs2,.int .i64 x.imm])),some (.arr (t+1+1) 4 (gdR C++[V.bool (er==0)])),some (.arr t 96 [V.int .u8 x.op,.int .u8 x.rd,.int .u8 x.rs1,.int .u8 x.rs2,.int .i64 x.imm])]:=by
  unfold drH drF
  rw [hs1,hs2,← hln]
  exact take4 _ _ _ _ _
 refine ⟨_,_,Shift.drop (o':=drH v0 v1 (t+1) (t+1+1) (C++[x]) 0) (t':=t+1+1+1) hsub (lR _) (zL _),t+1+1+1,t+1,t+1+1,C++[x],hnx.symm,?_⟩
 simp -implicitDefEqProofs (disch:=omega) only [go_sem,↓reduceIte,reduceCtorEq,rq,e2]
abbrev drQ (C:List In) (F:Int):V→H→Prop:=fun v σ=>∃ t' wc wg A B ex,v=.agg (drF wc wg C.length F)∧σ=⟨t',A::B::some (.arr wc 96 (QaJ C))::some (.arr wg 4 (gdR C))::ex⟩
theorem QGH (hT:Qk Tryz.prog tab) {wc wg t:Nat} {C:List In} {x:In} {cs:List In} (hC:C=x::cs) (hwl:0<ws.length) (hb:-1099511627776≤x.imm∧x.imm≤1099511627776) (f0:Qg fr 0=QF ws) (f2:Qg fr 2=.ptr 0 v0 0) (f3:Qg fr 3=.ptr 1 v1 0) :
 W Tryz.prog G0 82 0 (.seq (zg QuH [37,38,39,40,41,42,43,44] (zw 45 (zg QuG [46,47,48,49] (zg QpI [50,51,52] (zg QpH [53,54,55,56,57,58,59,60,61,62,63,64,65,66,67,68,69,70,71,72,73,74,75,76,77] (zw 78 (.reg QpG [79,80]) .skip)))) .skip)) (zg QpF [81] .ret)) fr ⟨t,drH v0 v1 wc wg C 0⟩ (QvY G0 [RV.cell 2 true 3] (drQ C (frameC C))):=by
 have hw0:decide (0<(ws.length:Int))=true:=decide_eq_true (by omega)
 have hw0':(0<(ws.length:Int))=True:=eq_true (by omega)
 have hr5:QaJ C=inC x++QaJ cs:=by rw [hC]; simp [QaJ]
 have hg1:gdR C=.bool (decide (x.op≠0))::gdR cs:=by rw [hC]; rfl
 have hfr:frameC C=XZ x:=by rw [hC]; rfl
 have hcl:0<C.length:=by rw [hC]; simp
 have hcl':(0<(C.length:Int))=True:=eq_true (by omega)
 have wn:IntKind.i64.wrap (0 - x.imm)=-x.imm:=by rw [XA (by omega)]; omega
 have wm:IntKind.i64.wrap ((-x.imm).tmod 8)=(-x.imm).tmod 8:=by
  have:=Int.tmod_lt_of_pos (-x.imm) (b:=8) (by omega)
  have:=Int.lt_tmod_of_pos (-x.imm) (b:=8) (by omega)
  exact XA (by omega)
 have hend:∀ (n:Nat) (F:Int) (A B:Option Ob) (ex:List (Option Ob)),F=frameC C→drQ C (frameC C) (.agg [.sl 2 wc 0 5 C.length none,.sl 3 wg 0 1 C.length none,.int .i64 F]) ⟨n,A::B::some (.arr wc 96 (inC x++QaJ cs))::some (.arr wg 4 (.bool (decide (x.op≠0))::gdR cs))::ex⟩:=fun n F A B ex h=>by
  subst h
  exact ⟨n,wc,wg,A,B,ex,rfl,by rw [hr5,hg1]⟩
 refine Qh [(0,QF ws),(2,.ptr 0 v0 0),(3,.ptr 1 v1 0)] ⟨f0,f2,f3,trivial⟩  12 ?_
 by_cases g0:x.op=0
 ·have g0':decide (x.op≠0)=false:=by simp [g0]
  rw [g0'] at hg1 hend
  have hF:XZ x=0:=by unfold XZ; simp [g0]
  simp -implicitDefEqProofs (disch:=omega) only [go_sem,↓reduceIte,reduceCtorEq,rA,rq,rL,Int.reduceToNat,Int.reduceLE,hw0',hr5,hg1,hcl]
  iterate 20 (try (refine Qa 4 ?_; simp -implicitDefEqProofs (disch:=omega) only [go_sem,↓reduceIte,reduceCtorEq,rA,rq,hr5,hg1]))
  exact hend _ _ _ _ _ (by rw [hfr,hF])
 have g0':decide (x.op≠0)=true:=by simp [g0]
 rw [g0'] at hg1 hend
 by_cases g1:x.op=22
 ·have g1':(x.op==22)=true:=by simp [g1]
  by_cases g2:x.rd=2
  ·have g2':(x.rd==2)=true:=by simp [g2]
   by_cases g3:x.rs1=2
   ·have g3':(x.rs1==2)=true:=by simp [g3]
    by_cases g4:8≤-x.imm
    ·have g4':decide (8≤-x.imm)=true:=decide_eq_true g4
     have g4'':(8≤-x.imm)=True:=eq_true g4
     by_cases g5:-x.imm≤1984
     ·have g5':decide (-x.imm≤1984)=true:=decide_eq_true g5
      have g5'':(-x.imm≤1984)=True:=eq_true g5
      by_cases g6:(-x.imm).tmod 8=0
      ·have g6':((-x.imm).tmod 8==0)=true:=by simp [g6]
       have hF:XZ x=-x.imm:=by unfold XZ; rw [if_pos ⟨g1,g2,g3,g4,g5,g6⟩]
       simp -implicitDefEqProofs (disch:=omega) only [go_sem,↓reduceIte,reduceCtorEq,rA,rq,rL,Int.reduceToNat,Int.reduceLE,hw0',hr5,hg1,hcl]
       iterate 20 (try (refine Qa 4 ?_; simp -implicitDefEqProofs (disch:=omega) only [go_sem,↓reduceIte,reduceCtorEq,rA,rq,rL,Int.reduceToNat,Int.reduceLE,Int.reduceEq,hr5,hg1,hcl,wn,g1',g2',g3',g4'',g5'',g6']))
       exact hend _ _ _ _ _ (by rw [hfr,hF])
      ·have g6':((-x.imm).tmod 8==0)=false:=by rw [QlT]; exact decide_eq_false g6
       have hF:XZ x=0:=by unfold XZ; rw [if_neg (fun h=>by first | omega | exact absurd h.2.2.2.2.2 g6)]
       simp -implicitDefEqProofs (disch:=omega) only [go_sem,↓reduceIte,reduceCtorEq,rA,rq,rL,Int.reduceToNat,Int.reduceLE,hw0',hr5,hg1,hcl]
       iterate 20 (try (refine Qa 4 ?_; simp -implicitDefEqProofs (disch:=omega) only [go_sem,↓reduceIte,reduceCtorEq,rA,rq,rL,Int.reduceToNat,Int.reduceLE,Int.reduceEq,hr5,hg1,hcl,wn,g1',g2',g3',g4'',g5'',g6']))
       exact hend _ _ _ _ _ (by rw [hfr,hF])
     ·have g5':decide (-x.imm≤1984)=false:=decide_eq_false g5
      have g5'':(-x.imm≤1984)=False:=eq_false g5
      have hF:XZ x=0:=by unfold XZ; rw [if_neg (fun h=>by first | omega | exact absurd h.2.2.2.2.2 g6)]
      simp -implicitDefEqProofs (disch:=omega) only [go_sem,↓reduceIte,reduceCtorEq,rA,rq,rL,Int.reduceToNat,Int.reduceLE,hw0',hr5,hg1,hcl]
      iterate 20 (try (refine Qa 4 ?_; simp -implicitDefEqProofs (disch:=omega) only [go_sem,↓reduceIte,reduceCtorEq,rA,rq,rL,Int.reduceToNat,Int.reduceLE,hr5,hg1,hcl,wn,g1',g2',g3',g4'',g5'']))
      exact hend _ _ _ _ _ (by rw [hfr,hF])
    ·have g4':decide (8≤-x.imm)=false:=decide_eq_false g4
     have g4'':(8≤-x.imm)=False:=eq_false g4
     have hF:XZ x=0:=by unfold XZ; rw [if_neg (fun h=>by first | omega | exact absurd h.2.2.2.2.2 g6)]
     simp -implicitDefEqProofs (disch:=omega) only [go_sem,↓reduceIte,reduceCtorEq,rA,rq,rL,Int.reduceToNat,Int.reduceLE,hw0',hr5,hg1,hcl]
     iterate 20 (try (refine Qa 4 ?_; simp -implicitDefEqProofs (disch:=omega) only [go_sem,↓reduceIte,reduceCtorEq,rA,rq,rL,Int.reduceToNat,Int.reduceLE,hr5,hg1,hcl,wn,g1',g2',g3',g4'']))
     exact hend _ _ _ _ _ (by rw [hfr,hF])
   ·have g3':(x.rs1==2)=false:=by simp [g3]
    have hF:XZ x=0:=by unfold XZ; rw [if_neg (fun h=>by first | omega | exact absurd h.2.2.2.2.2 g6)]
    simp -implicitDefEqProofs (disch:=omega) only [go_sem,↓reduceIte,reduceCtorEq,rA,rq,rL,Int.reduceToNat,Int.reduceLE,hw0',hr5,hg1,hcl]
    iterate 20 (try (refine Qa 4 ?_; simp -implicitDefEqProofs (disch:=omega) only [go_sem,↓reduceIte,reduceCtorEq,rA,rq,rL,Int.reduceToNat,Int.reduceLE,hr5,hg1,hcl,wn,g1',g2',g3']))
    exact hend _ _ _ _ _ (by rw [hfr,hF])
  ·have g2':(x.rd==2)=false:=by simp [g2]
   have hF:XZ x=0:=by unfold XZ; rw [if_neg (fun h=>by first | omega | exact absurd h.2.2.2.2.2 g6)]
   simp -implicitDefEqProofs (disch:=omega) only [go_sem,↓reduceIte,reduceCtorEq,rA,rq,rL,Int.reduceToNat,Int.reduceLE,hw0',hr5,hg1,hcl]
   iterate 20 (try (refine Qa 4 ?_; simp -implicitDefEqProofs (disch:=omega) only [go_sem,↓reduceIte,reduceCtorEq,rA,rq,rL,Int.reduceToNat,Int.reduceLE,hr5,hg1,hcl,wn,g1',g2']))
   exact hend _ _ _ _ _ (by rw [hfr,hF])
 ·have g1':(x.op==22)=false:=by simp [g1]
  have hF:XZ x=0:=by unfold XZ; rw [if_neg (fun h=>by first | omega | exact absurd h.2.2.2.2.2 g6)]
  simp -implicitDefEqProofs (disch:=omega) only [go_sem,↓reduceIte,reduceCtorEq,rA,rq,rL,Int.reduceToNat,Int.reduceLE,hw0',hr5,hg1,hcl]
  iterate 20 (try (refine Qa 4 ?_; simp -implicitDefEqProofs (disch:=omega) only [go_sem,↓reduceIte,reduceCtorEq,rA,rq,rL,Int.reduceToNat,Int.reduceLE,hr5,hg1,hcl,wn,g1']))
  exact hend _ _ _ _ _ (by rw [hfr,hF])
theorem Qyx (hT:Qk Tryz.prog tab) (hw:∀ w∈ws,0≤w∧w<4294967296) (hl:ws.length≤1000000) (h0:0<ws.length) (t:Nat) :
 C Tryz.prog G0 0 Z6 [QF ws] ⟨t,[]⟩ (drQ (codeOf ws) (frameC (codeOf ws))):=by
 obtain ⟨w0,wr,hws⟩:∃ a l,ws=a::l:=by cases ws with | nil=>simp at h0 | cons a l=>exact ⟨a,l,rfl⟩
 have hcs:codeOf ws=(dec w0).getD zeroI::codeOf wr:=by rw [hws]; rfl
 have hb:-1099511627776≤((dec w0).getD zeroI).imm∧((dec w0).getD zeroI).imm≤1099511627776:=by
  cases h:dec w0 with
  | none=>simp [zeroI]
  | some y=>have:=(QlA (hw w0 (by rw [hws]; simp)).1 h).2; simp; omega
 refine Qt hT ZY (by simp [YM]) (Qn 11 ?_)
 simp -implicitDefEqProofs (disch:=omega) only [go_sem,↓reduceIte,reduceCtorEq,rA,rq,H.push]
 refine Q8 (HShift.shift (HShift.ownAt 5 96 (base:=0) (k:=1) (v:=t+1) (T':=87) (p:=0) (z:=0) (cs:=[.lst 0 [] true,.lst 0 [] true,.int .i64 0]) (zL _) rfl rfl)) ?_
 simp only [List.set_cons_succ,List.set_cons_zero,lC,lN,cA,nA]
 refine Q8 (HShift.shift (HShift.ownAt 1 4 (base:=0) (k:=1) (v:=t+1) (T':=87) (p:=1) (z:=0) (cs:=[.sl 2 (t+1+1) 0 5 0 none,.lst 0 [] true,.int .i64 0]) (zL _) rfl rfl)) ?_
 simp only [List.set_cons_succ,List.set_cons_zero,lC,lN,cA,nA]
 refine Qa 6 ?_
 simp -implicitDefEqProofs (disch:=omega) only [go_sem,↓reduceIte,reduceCtorEq,rA,rq]
 refine Xn ws (drJ ws t (t+1)) (drE ws t (t+1)) ⟨t+1+1+1+1,t+1+1,t+1+1+1,[],rfl,?_⟩ (fun i w hx fr σ hJ=>Qyg hT hw hl hx hJ) (fun i hi fr σ hJ=>?_) (fun e fr σ hE=>?_)
 ·simp -implicitDefEqProofs (disch:=omega) only [go_sem,↓reduceIte,reduceCtorEq,rq]
  all_goals first | rfl | exact ⟨rfl,rfl⟩ | exact ⟨rfl,rfl,rfl⟩
 ·obtain ⟨t2,wc,wg,C,hC,f0,f2,f3,f4,rfl⟩:=hJ
  rw [hi,List.take_length] at hC
  refine Qh [(0,QF ws),(2,.ptr 0 t 0),(3,.ptr 1 (t+1) 0),(4,.int .i64 ((i:Nat):Int))] ⟨f0,f2,f3,f4,trivial⟩ 12 ?_
  simp -implicitDefEqProofs (disch:=omega) only [go_sem,↓reduceIte,reduceCtorEq,rq,hi,Nat.lt_irrefl]
  exact ⟨t2,wc,wg,C,rfl,hC,rfl,rfl,rfl,rfl⟩
 ·obtain ⟨t2,wc,wg,C,rfl,hC,f0,f2,f3,rfl⟩:=hE
  refine YE [(0,QF ws),(2,.ptr 0 t 0),(3,.ptr 1 (t+1) 0)] ⟨f0,f2,f3,trivial⟩ 0 ?_
  rw [← hC]
  exact QGH hT (hC.trans hcs) h0 hb rfl rfl rfl
theorem QGr {k w:Nat} {cs:List V} (l:List In):(gdR l).map (Qaa k w cs)=gdR l:=by simp [gdR,Qaa]
theorem Qwj (hT:Qk Tryz.prog tab) (hw:∀ w∈ws,0≤w∧w<4294967296) (hl:ws.length≤1000000) (h0:0<ws.length) :
 Am.Pure Tryz.prog G0 Z6 [QF ws] fun v=>v=.agg (dC (codeOf ws) (frameC (codeOf ws))):=by
 intro t
 generalize hC:codeOf ws=C
 generalize hF:frameC C=F
 have hR:=Qyx hT hw hl h0 t
 rw [hC,hF] at hR
 refine (Qeq (Q:=fun v σ=>∃ t' wg A B ex,v=.agg [Q9 C,.sl 3 wg 0 1 C.length none,.int .i64 F]∧σ=⟨t',A::B::none::some (.arr wg 4 (gdR C))::ex⟩) (Qeq hR fun v σ hv=>?_) fun v σ hv=>?_).conseq fun v σ hv=>hv
 ·obtain ⟨t',wc,wg,A,B,ex,rfl,rfl⟩:=hv
  have hle:C.length * 5≤(QaJ C).length:=by rw [Qid]; omega
  refine .inr ⟨2,wc,96,QaJ C,zL _,rfl,Qq3 _,?_⟩
  refine ⟨t',wg,_,_,_,?_,by simp [Xt,Ob.mapV,QGr]; exact ⟨rfl,rfl,rfl⟩⟩
  simp [Qaa,QiX,Qcb,Q9,QGQ,hle]
 ·obtain ⟨t',wg,A,B,ex,rfl,rfl⟩:=hv
  have hlu:(gdR C).length=C.length:=QvM C
  have hle:C.length≤(gdR C).length:=by rw [hlu]; exact lR _
  have ht:List.take C.length (gdR C)=gdR C:=List.take_of_length_le (by rw [hlu]; exact lR _)
  refine .inr ⟨3,wg,4,gdR C,zL _,rfl,QEz _,?_,?_⟩
  ·simp [Qaa,QiX,Qcb,Q9,Qd,Qb,hlu]
  ·have hg:XP C=.lst 1 (gdR C) false:=rfl
   simp [Qaa,QiX,Qcb,Q9,dC,hg,hle,ht]
end
section
attribute [local go_sem] nF nT cA lM nA aZ lR Nat.mul_one Nat.one_mul Nat.succ_ne_zero zA zL Nat.zero_mul Option.getD_none Option.getD_some Option.isSome_none Option.isSome_some V.cells and_true beq_self_eq_true bne_self_eq_false QF decide_false decide_true false_implies ge_iff_le gt_iff_lt X5 QaY Qw not_false_eq_true not_true_eq_false YA QD4 QD3 QD2 QuF QuE QuD QD1 Yz QEj QEi QEh QEg QEf QU true_and true_implies
variable {s:List UInt8 × Int}
theorem Qv9 (hT:Qk Tryz.prog tab) (m:Im) (hm:ImB m) (hr:right m=true) (hl:m.code.length≤1000) {n:Nat} (hs:m.syms[n]?=some s):Am.Pure Tryz.prog G0 Qbu [QaY m,.int .i64 (n:Int)] fun v=>v=QF (words m n):=by
 intro t
 obtain ⟨a,b,ef,et,hab,hbl,es,ew⟩:=(QgU hr).bounds hs
 have hB:=QrA (P:=Tryz.prog) (G:=G0) hT m hm hr hs
 rw [ef,et] at hB
 have hdt:List.take (b - a) (List.drop a (m.code.map (V.int .u32)))=(words m n).map (V.int .u32):=by rw [ew]; simp [List.map_take,List.map_drop]
 have hn2:Qb [QaY m,.int .i64 (n:Int)]=true:=by
  have:=Qbv m
  simp [Qb,Qd] at this ⊢
  exact this
 have q1:decide (4 * (a:Int)<0)=false:=decide_eq_false (by omega)
 have q1':(4 * (a:Int)<0)=False:=eq_false (by omega)
 have q2:decide (4 * (m.code.length:Int)<4 * (b:Int))=false:=decide_eq_false (by omega)
 have q2':(4 * (m.code.length:Int)<4 * (b:Int))=False:=eq_false (by omega)
 have q3:decide (4 * (b:Int)<4 * (a:Int))=false:=decide_eq_false (by omega)
 have q3':(4 * (b:Int)<4 * (a:Int))=False:=eq_false (by omega)
 have w1:IntKind.i64.wrap (4 * (m.code.length:Int))=4 * (m.code.length:Int):=XA (by omega)
 have w2:IntKind.i64.wrap ((4 * (a:Int)).tdiv 4)=(a:Int):=by rw [Int.tdiv_eq_ediv_of_nonneg (by omega),XA (by omega)]; omega
 have w3:IntKind.i64.wrap ((4 * (b:Int)).tdiv 4)=(b:Int):=by rw [Int.tdiv_eq_ediv_of_nonneg (by omega),XA (by omega)]; omega
 have q4:(0≤(a:Int)∧(a:Int)≤(b:Int)∧(b:Int)≤(m.code.length:Int))=True:=eq_true ⟨by omega,by omega,by omega⟩
 simp only [QaY,X5,QU,QF] at hB hn2
 refine Qp 0 (zL _) (Qt hT ZB (by simp [Yz]) (Qn 12 ?_))
 simp -implicitDefEqProofs (disch:=omega) only [go_sem,↓reduceIte,reduceCtorEq,rA,rq]
 refine Qf hT QdU hB hn2 4 ?_
 simp -implicitDefEqProofs (disch:=omega) only [go_sem,↓reduceIte,reduceCtorEq,rA,rq,rT]
 iterate 20 (try (refine Qa 4 ?_; simp -implicitDefEqProofs (disch:=omega) only [go_sem,↓reduceIte,reduceCtorEq,rA,rq,Int.reduceEq,q1',q2',q3',w1,w2,w3,hdt]))
abbrev plC (m:Im) (ws n:Nat):List V:=[.int .i64 m.data,.sl 3 ws 0 2 n none,QF m.code]
abbrev plH (m:Im) (v0 v1 v2 ws:Nat) (S:List (List UInt8 × Int)):List (Option Ob):=[some (.arr v0 25 (X5 m)),some (.arr v1 93 [.int .i64 0,.lst 0 [] true,.lst 0 [] true]),some (.arr v2 93 (plC m ws S.length)),some (.arr ws 127 (QnC S))]
abbrev plJ (m:Im) (v0 v1 v2:Nat):Nat→Fr→H→Prop:=fun i fr σ=>∃ t ws S,S=m.syms.take i∧Qg fr 1=.ptr 0 v0 0∧Qg fr 2=.ptr 1 v1 0∧Qg fr 3=.ptr 2 v2 0∧Qg fr 4=.int .i64 ((i:Nat):Int)∧σ=⟨t,plH m v0 v1 v2 ws S⟩
abbrev plE (m:Im) (v0 v1 v2:Nat):AE→Fr→H→Prop:=fun e fr σ=>∃ t ws S,e=.ex 0∧S=m.syms∧Qg fr 1=.ptr 0 v0 0∧Qg fr 2=.ptr 1 v1 0∧Qg fr 3=.ptr 2 v2 0∧σ=⟨t,plH m v0 v1 v2 ws S⟩
theorem Qxy {P:Program} {G:Nat→Option V} {m:Im} {v0 v1 v2:Nat} (hl:m.syms.length≤1000) {i:Nat} (hs:m.syms[i]?=some s) {fr:Fr} {σ:H} (hJ:plJ m v0 v1 v2 i fr σ) :
 W P G 28 0 (.seq (zg QuF [10,11,12,13] (zw 14 .skip (.exit 0))) (.seq (.block 1 (.reg QuE [17,18,19,20,21,22,23,24,25,26])) (.reg QuD [15,16]))) fr σ (QbQ (fun fr σ=>∃ fr' σ',Shift G 28 0 fr σ fr' σ'∧plJ m v0 v1 v2 (i+1) fr' σ') (plE m v0 v1 v2)):=by
 obtain ⟨t,ws,S,hS,f1,f2,f3,f4,rfl⟩:=hJ
 have hlt:=(List.getElem?_eq_some_iff.1 hs).1
 have e2:=ZT hlt (by omega)
 have hD:(m.syms.map Qju).getD i V.any=.agg [.str s.1,.int .i64 s.2]:=by rw [QhY hs]; rfl
 have hrl:=Qkn S
 have hsn:=Qoj S s
 have hnx:S++[s]=m.syms.take (i+1):=by rw [hS,ZW hs]
 have hSl:S.length≤i:=by rw [hS,List.length_take]; omega
 have hln:S.length+1=(S++[s]).length:=by simp
 simp only [QEv] at hsn
 refine Qh [(1,.ptr 0 v0 0),(2,.ptr 1 v1 0),(3,.ptr 2 v2 0),(4,.int .i64 ((i:Nat):Int))] ⟨f1,f2,f3,f4,trivial⟩  60 ?_
 simp -implicitDefEqProofs (disch:=omega) only [go_sem,↓reduceIte,reduceCtorEq,rA,rq,rL,hlt,hD,hrl]
 iterate 6 (try (refine Qa 9 ?_; simp -implicitDefEqProofs (disch:=omega) only [go_sem,↓reduceIte,reduceCtorEq,rA,rq,rL,rT,Nat.reduceSub,Nat.reduceMul,Int.reduceToNat,Int.reduceLE,Int.reduceLT,Int.reduceEq,Int.reduceNe,Nat.reduceBEq,Nat.reduceBNe,Int.reduceBEq,Int.reduceBNe,hlt,hD,hrl,e2]))
 refine ⟨_,_,Shift.refl _ _ _ _,t+1,t,S++[s],hnx,?_⟩
 simp -implicitDefEqProofs (disch:=omega) only [go_sem,↓reduceIte,rq,e2,hln]
 unfold plH plC
 rw [hsn]
 all_goals first | rfl | exact ⟨rfl,rfl⟩ | exact ⟨rfl,rfl,rfl⟩
theorem Qwe (hT:Qk Tryz.prog tab) (m:Im) (hl:m.syms.length≤1000):Am.Pure Tryz.prog G0 ZF [QaY m] fun v=>v=QaY m:=by
 intro t
 have hR:C Tryz.prog G0 0 ZF [QaY m] ⟨t,[]⟩ fun v σ=>∃ t' ws A B D,v=.agg (plC m ws m.syms.length)∧σ=⟨t',[A,B,D,some (.arr ws 127 (QnC m.syms))]⟩:=by
  refine Qt hT Qbp (by simp [YA]) (Qn 16 ?_)
  simp -implicitDefEqProofs (disch:=omega) only [go_sem,↓reduceIte,reduceCtorEq,rA,rq,rL,H.push]
  refine Q8 (HShift.shift (HShift.ownAt 2 127 (base:=0) (k:=2) (v:=t+1+1) (T':=93) (p:=1) (z:=0) (cs:=[.int .i64 m.data,.lst 0 [] true,QF m.code]) (zL _) rfl rfl)) ?_
  simp only [List.set_cons_succ,List.set_cons_zero,lC,lN,cA,nA]
  refine Qa 6 ?_
  simp -implicitDefEqProofs (disch:=omega) only [go_sem,↓reduceIte,reduceCtorEq,rA,rq]
  refine Xn m.syms (plJ m t (t+1) (t+1+1)) (plE m t (t+1) (t+1+1)) ⟨t+1+1+1+1,t+1+1+1,[],rfl,?_⟩ (fun i s hs fr σ hJ=>Qxy hl hs hJ) (fun i hi fr σ hJ=>?_) (fun e fr σ hE=>?_)
  ·simp -implicitDefEqProofs (disch:=omega) only [go_sem,↓reduceIte,reduceCtorEq,rq]
   all_goals first | rfl | exact ⟨rfl,rfl⟩ | exact ⟨rfl,rfl,rfl⟩
  ·obtain ⟨t2,ws,S,hS,f1,f2,f3,f4,rfl⟩:=hJ
   rw [hi,List.take_length] at hS
   refine Qh [(1,.ptr 0 t 0),(2,.ptr 1 (t+1) 0),(3,.ptr 2 (t+1+1) 0),(4,.int .i64 ((i:Nat):Int))] ⟨f1,f2,f3,f4,trivial⟩ 12 ?_
   simp -implicitDefEqProofs (disch:=omega) only [go_sem,↓reduceIte,rA,rq,rL,hi,Nat.lt_irrefl]
   exact ⟨t2,ws,S,rfl,hS,rfl,rfl,rfl,rfl⟩
  ·obtain ⟨t2,ws,S,rfl,hS,f1,f2,f3,rfl⟩:=hE
   refine YE [(1,.ptr 0 t 0),(2,.ptr 1 (t+1) 0),(3,.ptr 2 (t+1+1) 0)] ⟨f1,f2,f3,trivial⟩ 12 ?_
   simp -implicitDefEqProofs (disch:=omega) only [go_sem,↓reduceIte,reduceCtorEq,rA,rq]
   subst hS
   exact ⟨_,ws,_,_,_,rfl,rfl,rfl⟩
 refine (Qeq hR fun v σ hv=>?_).conseq fun v σ hv=>hv
 obtain ⟨t',ws,A,B,D,rfl,rfl⟩:=hv
 have hle:m.syms.length * 2≤(QnC m.syms).length:=by rw [Qkn]; omega
 refine .inr ⟨3,ws,127,QnC m.syms,zL _,rfl,Qvn _,?_,?_⟩
 ·simp [Qaa,QiX,Qcb,QF,Qd,Qb,hle]
 ·have h1:QU m.syms=.lst 2 (m.syms.map Qju) false:=rfl
  simp [Qaa,QiX,Qcb,QaY,X5,QF,h1,QEO,hle]
end
end Go.Proofs.YtaidbdgndljaeaaGreatDoor
