/- Functions: cuts. -/
import Derived.Test.YtaidbdgndljaeaaGreatDoorJ5
open Nat renaming reduceEqDiff → rq, reduceAdd → rA, reduceLeDiff → rL, reduceLT → rT, zero_add → zA, le_refl → lR, zero_le → zL, add_zero → aZ
open List renaming length_cons → lC, length_nil → lN, take_succ_cons → tS, length_append → lA, nil_append → nA, cons_append → cA, append_assoc → aA, take_nil → tN, take_zero → tZ, length_map → lM
open Bool renaming not_false → nF, not_true → nT
namespace Go.Proofs.YtaidbdgndljaeaaGreatDoor
open Go Go.Am Go.Rv Go.Rg
set_option maxRecDepth 100000
variable {G:Nat→Option V}
section
attribute [local go_sem] nF nT lR Nat.mul_one zA zL decide_false decide_true gt_iff_lt Qw Y8 QC1 QC0 Qpy Qub Qua Qpx Qpw Qpv Qpu Qt9 Qt8 QCZ Qt7 Qt6 Qt5 QqT QqS QqR QqQ
def cf (cnt:Int→Nat):Int→V:=fun k=>.int .i64 ((cnt k:Nat):Int)
theorem QGk (cnt:Int→Nat) (a:Int):Qr1 (cf cnt) a (.int .i64 ((cnt a+1:Nat):Int))=cf fun k=>if k=a then cnt a+1 else cnt k:=by
 funext k
 unfold Qr1 cf
 split <;> simp_all
def MapAt (S:List Int) (cnt:Int→Nat):Prop:=S.Nodup∧∀ k,k∈S↔0<cnt k
variable {cnt:Int→Nat} {S K:List Int}
theorem MapAt.add (h:MapAt S cnt) (a:Int):MapAt (Qrf S a) fun k=>if k=a then cnt a+1 else cnt k:=by
 refine ⟨Qr2 h.1,fun k=>?_⟩
 rw [Qq8]
 show _↔0<(if k=a then cnt a+1 else cnt k)
 split
 ·rename_i e; subst e; exact ⟨fun _=>by omega,fun _=>.inr rfl⟩
 ·rename_i e
  exact ⟨fun hk=>hk.elim (fun hk=>(h.2 k).1 hk) fun hk=>absurd hk e,fun hk=>.inl ((h.2 k).2 hk)⟩
abbrev wyJ (nm:List UInt8) (pl:Int) (c:List In) (F:Int) (K:List Int) (tm i:Nat) (L:List Int) (cnt0:Int→Nat):Nat→Fr→H→Prop:=fun j fr σ=>∃ t S cnt,MapAt S cnt∧(∀ k,cnt k=cnt0 k+(L.take j).count k)∧Qg fr 1=.ref (.agg (fnC nm pl c F K)) 0∧Qg fr 2=.lst 0 [] true∧Qg fr 3=.mp 1 tm∧Qg fr 13=.int .i64 c.length∧Qg fr 14=.int .i64 ((i:Nat):Int)∧Qg fr 19=.lst 1 (ints L) false∧Qg fr 20=.int .i64 L.length∧Qg fr 21=.int .i64 ((j:Nat):Int)∧σ=⟨t,[none,some (.map tm (km kI (cf cnt) S))]⟩
abbrev wyE (nm:List UInt8) (pl:Int) (c:List In) (F:Int) (K:List Int) (tm i:Nat) (L:List Int) (cnt0:Int→Nat):AE→Fr→H→Prop:=fun e fr σ=>∃ t S cnt,e=.ex 2∧MapAt S cnt∧(∀ k,cnt k=cnt0 k+L.count k)∧Qg fr 1=.ref (.agg (fnC nm pl c F K)) 0∧Qg fr 2=.lst 0 [] true∧Qg fr 3=.mp 1 tm∧Qg fr 13=.int .i64 c.length∧Qg fr 14=.int .i64 ((i:Nat):Int)∧σ=⟨t,[none,some (.map tm (km kI (cf cnt) S))]⟩
variable {σ:H} {fr:Fr} {tm i:Nat} {c:List In} {pl F:Int} {nm:List UInt8}
theorem Qw1 {P:Program} {L:List Int} {cnt0:Int→Nat} (hL:L.length≤1000000) (h0:∀ k,cnt0 k≤1000000) (hn:∀ k,L.count k≤1) {j:Nat} {x:Int} (hx:L[j]?=some x) (hJ:wyJ nm pl c F K tm i L cnt0 j fr σ) :
 W P G 47 0 (zg QqT [] (.seq (zw 22 .skip (.exit 2)) (.seq (.block 3 (zg QqS [23,24] (.reg QqR [25,26,27,28]))) (.reg QqQ [29])))) fr σ (QbQ (fun fr σ=>∃ fr' σ',Shift G 47 0 fr σ fr' σ'∧wyJ nm pl c F K tm i L cnt0 (j+1) fr' σ') (wyE nm pl c F K tm i L cnt0)):=by
 obtain ⟨t,S,cnt,hM,hc,f1,f2,f3,f13,f14,f19,f20,f21,rfl⟩:=hJ
 have hlt:=(List.getElem?_eq_some_iff.1 hx).1
 have hD:=Qdd hx
 have e2:=ZT hlt (by omega)
 have hcx:=hc x
 have hle:(L.take j).count x≤L.count x:=(List.take_sublist j L).count_le x
 have hcb:cnt x≤1000001:=by have:=h0 x; have:=hn x; omega
 have w1:IntKind.i64.wrap (((cnt x:Nat):Int)+1)=((cnt x+1:Nat):Int):=by rw [XA (by omega)]; rfl
 have hg:(Qq7 [Kd.i] (.int .i64 x) (km kI (cf cnt) S)).getD (.int .i64 0)=.int .i64 ((cnt x:Nat):Int):=by
  have:=QiR (ks:=[Kd.i]) (key:=kI) QxO (cf cnt) x S
  rw [show kI x=V.int .i64 x from rfl] at this
  rw [this]
  split
  ·rfl
  ·rename_i hx
   have:cnt x=0:=by
    rcases Nat.eq_zero_or_pos (cnt x) with h | h
    ·exact h
    ·exact absurd ((hM.2 x).2 h) hx
   simp [this]
 have hp:Qr0 [Kd.i] (.int .i64 x) (.int .i64 ((cnt x+1:Nat):Int)) (km kI (cf cnt) S)=km kI (cf fun k=>if k=x then cnt x+1 else cnt k) (Qrf S x):=by
  have:=Qlf (ks:=[Kd.i]) (key:=kI) QxO (cf cnt) x (.int .i64 ((cnt x+1:Nat):Int)) S hM.1
  rw [QGk] at this
  exact this
 have hk:∀ f S,Qdc false [Kd.i] (V.int .i64 x) (km kI f S)=True:=fun f S=>eq_true (Qni x f S)
 have hnl:Qd (V.int .i64 x)=true:=rfl
 refine Qh [(1,.ref (.agg (fnC nm pl c F K)) 0),(2,.lst 0 [] true),(3,.mp 1 tm),(13,.int .i64 c.length),(14,.int .i64 ((i:Nat):Int)),(19,.lst 1 (ints L) false),(20,.int .i64 L.length),(21,.int .i64 ((j:Nat):Int))] ⟨f1,f2,f3,f13,f14,f19,f20,f21,trivial⟩  1000 ?_
 simp -implicitDefEqProofs (disch:=omega) only [go_sem,↓reduceIte,rq,fnC,Q9,Qz,inC,V.cells,Qq,true_implies,and_true,hlt,hD,hg,hp,hk,w1,hnl]
 refine ⟨_,_,Shift.refl _ _ _ _,t,Qrf S x,_,hM.add x,fun k=>?_,?_⟩
 ·rw [List.take_add_one,hx,List.count_append]
  have:=hc k
  by_cases e:k=x
  ·subst e; simp; omega
  ·simp [e,Ne.symm e]; omega
 ·simp -implicitDefEqProofs (disch:=omega) only [go_sem,↓reduceIte,rq,fnC,Q9,Qz,inC,and_true,e2]
abbrev cuJ (nm:List UInt8) (pl:Int) (c:List In) (F:Int) (K:List Int) (tm:Nat):Nat→Fr→H→Prop:=fun i fr σ=>∃ t S cnt,MapAt S cnt∧(∀ k,cnt k=XB c F i k)∧Qg fr 1=.ref (.agg (fnC nm pl c F K)) 0∧Qg fr 2=.lst 0 [] true∧Qg fr 3=.mp 1 tm∧Qg fr 13=.int .i64 c.length∧Qg fr 14=.int .i64 ((i:Nat):Int)∧σ=⟨t,[none,some (.map tm (km kI (cf cnt) S))]⟩
abbrev cuE (nm:List UInt8) (pl:Int) (c:List In) (F:Int) (K:List Int) (tm:Nat):AE→Fr→H→Prop:=fun e fr σ=>∃ t S cnt,e=.ex 0∧MapAt S cnt∧(∀ k,cnt k=XB c F c.length k)∧Qg fr 1=.ref (.agg (fnC nm pl c F K)) 0∧Qg fr 2=.lst 0 [] true∧Qg fr 3=.mp 1 tm∧σ=⟨t,[none,some (.map tm (km kI (cf cnt) S))]⟩
theorem Qkq (c:List In) (F i:Int):(next c F i).length≤2:=by
 unfold next
 split
 ·simp
 ·split
  ·simp
  ·refine Nat.le_trans (List.length_filter_le _ _) ?_
   unfold Rg.ways
   split
   ·unfold two; split
    ·simp
    ·split <;> simp
   ·split <;> simp
theorem Qym (hT:Qk Tryz.prog tab) (hl:c.length≤1000000) (hc:∀ x∈c,Zq x) {x:In} (hx:c[i]?=some x) (hJ:cuJ nm pl c F K tm i fr σ) :
 W Tryz.prog G 47 0 (zg Qt7 [] (.seq (zw 15 .skip (.exit 0)) (.seq (.block 1 (zg Qt6 [16] (zg Qt5 [17,18] (.block 2 (.loop (zg QqT [] (.seq (zw 22 .skip (.exit 2)) (.seq (.block 3 (zg QqS [23,24] (.reg QqR [25,26,27,28]))) (.reg QqQ [29]))))))))) (.reg Qpy [30])))) fr σ (QbQ (fun fr σ=>∃ fr' σ',Shift G 47 0 fr σ fr' σ'∧cuJ nm pl c F K tm (i+1) fr' σ') (cuE nm pl c F K tm)):=by
 obtain ⟨t,S,cnt,hM,hcn,f1,f2,f3,f13,f14,rfl⟩:=hJ
 have hlt:=(List.getElem?_eq_some_iff.1 hx).1
 have e2:=ZT hlt (by omega)
 have hN:=Qry (G:=G) hT nm pl F c K (i:Int) hl hc (by omega)
 have hn2:Qb [.agg (fnC nm pl c F K),.int .i64 (i:Int)]=true:=by
  have hnl:=Qfl (nm:=nm) (pl:=pl) (F:=F) (c:=c) (K:=K)
  simp [Qb,Qd,hnl]
 have hll:=Qkq c F i
 have hnd:=QmC c F i
 have hsuc:=fun k=>QkU c F i k
 generalize hL:next c F i=L at *
 simp only [fnC,Q9,Qz,inC] at hN hn2
 refine Qh [(1,.ref (.agg (fnC nm pl c F K)) 0),(2,.lst 0 [] true),(3,.mp 1 tm),(13,.int .i64 c.length),(14,.int .i64 ((i:Nat):Int))] ⟨f1,f2,f3,f13,f14,trivial⟩  14 ?_
 simp -implicitDefEqProofs (disch:=omega) only [go_sem,↓reduceIte,rq,fnC,Q9,Qz,inC,hlt]
 iterate 4 (try (refine Qa 4 ?_; simp -implicitDefEqProofs (disch:=omega) only [go_sem,↓reduceIte,reduceCtorEq,rA,rq,V.cells,false_implies,and_true]))
 refine Qf hT YI hN hn2 12 ?_
 simp -implicitDefEqProofs (disch:=omega) only [go_sem,↓reduceIte,rq,Qq]
 refine Xn L (wyJ nm pl c F K tm i L cnt) (wyE nm pl c F K tm i L cnt) ⟨t,S,cnt,hM,by simp,?_⟩ (fun j x hx fr σ hJ=>Qw1 (by omega) (fun k=>by rw [hcn]; have:=Qn8 c F i k; omega) (fun k=>?_) hx hJ) (fun j hj fr σ hJ=>?_) (fun e fr σ hE=>?_)
 ·simp -implicitDefEqProofs (disch:=omega) only [go_sem,↓reduceIte,rq,fnC,Q9,Qz,inC,true_and,and_true]
  try simp
 ·by_cases hk:k∈L
  ·rw [count_one hnd hk]; exact lR _
  ·rw [List.count_eq_zero.2 hk]; omega
 ·obtain ⟨t2,S2,cnt2,hM2,hc2,f1,f2,f3,f13,f14,f19,f20,f21,rfl⟩:=hJ
  rw [hj,List.take_length] at hc2
  refine Qh [(1,.ref (.agg (fnC nm pl c F K)) 0),(2,.lst 0 [] true),(3,.mp 1 tm),(13,.int .i64 c.length),(14,.int .i64 ((i:Nat):Int)),(19,.lst 1 (ints L) false),(20,.int .i64 L.length),(21,.int .i64 ((j:Nat):Int))] ⟨f1,f2,f3,f13,f14,f19,f20,f21,trivial⟩  12 ?_
  simp -implicitDefEqProofs (disch:=omega) only [go_sem,↓reduceIte,rq,fnC,Q9,Qz,inC,hj,Nat.lt_irrefl]
  exact ⟨t2,S2,cnt2,rfl,hM2,hc2,rfl,rfl,rfl,rfl,rfl,rfl⟩
 ·obtain ⟨t2,S2,cnt2,rfl,hM2,hc2,f1,f2,f3,f13,f14,rfl⟩:=hE
  refine Qa3 [(1,.ref (.agg (fnC nm pl c F K)) 0),(2,.lst 0 [] true),(3,.mp 1 tm),(13,.int .i64 c.length),(14,.int .i64 ((i:Nat):Int))] ⟨f1,f2,f3,f13,f14,trivial⟩ 12 ?_
  simp -implicitDefEqProofs (disch:=omega) only [go_sem,↓reduceIte,rq,fnC,Q9,Qz,inC,e2]
  refine ⟨_,_,Shift.refl _ _ _ _,t2,S2,cnt2,hM2,fun k=>by rw [hc2,hcn,hsuc],?_⟩
  simp -implicitDefEqProofs (disch:=omega) only [go_sem,↓reduceIte,rq,fnC,Q9,Qz,inC,and_true]
def got (S:List Int) (cnt:Int→Nat) (seen:List Nat):List Int:=(seen.map fun i=>S.getD i 0).filter fun k=>decide (1<cnt k)
theorem Qx3 (S:List Int) (cnt:Int→Nat) (seen:List Nat) (i:Nat):got S cnt (seen++[i])=got S cnt seen++(if 1<cnt (S.getD i 0) then [S.getD i 0] else []):=by
 unfold got
 rw [List.map_append,List.filter_append]
 congr 1
 simp only [List.map_cons,List.map_nil,List.filter_cons,List.filter_nil,decide_eq_true_eq]
theorem Qm4 {seen:List Nat} {n:Nat} (hn:seen.Nodup) (h:∀ i∈seen,i<n):seen.length≤n:=by
 have:=List.Nodup.length_le_of_subset hn (l₂:=List.range n) fun i hi=>List.mem_range.2 (h i hi)
 simpa using this
abbrev rgJ (nm:List UInt8) (pl:Int) (c:List In) (F:Int) (K:List Int) (tm ti:Nat) (S:List Int) (cnt:Int→Nat):Nat→Fr→H→Prop:=fun m fr σ=>∃ t w seen out,seen.Nodup∧(∀ i∈seen,i<S.length)∧m=S.length - seen.length∧out=got S cnt seen∧Qg fr 1=.ref (.agg (fnC nm pl c F K)) 0∧Qg fr 7=.sl 2 w 0 1 out.length none∧Qg fr 32=.ptr 3 ti 0∧σ=⟨t,[none,some (.map tm (km kI (cf cnt) S)),some (.arr w 3 (ints out)),some (.it ti 1 tm S.length seen)]⟩
abbrev rgE (S:List Int) (cnt:Int→Nat):AE→Fr→H→Prop:=fun e fr σ=>∃ t w seen out X Y,e=.ex 4∧seen.Nodup∧(∀ i∈seen,i<S.length)∧(∀ i,i<S.length→i∈seen)∧out=got S cnt seen∧Qg fr 7=.sl 2 w 0 1 out.length none∧σ=⟨t,[none,X,some (.arr w 3 (ints out)),Y]⟩
theorem Qxo {P:Program} {ti:Nat} (hS:S.length≤1000000) {m:Nat} (hJ:rgJ nm pl c F K tm ti S cnt m fr σ) :
 W P G 47 0 (zg Qpx [33] (.seq (zw 34 .skip (.exit 4)) (.block 5 (zg Qpw [35,36,37] (zg Qpv [38] (zw 39 (.reg Qpu [40,41,42,43]) .skip)))))) fr σ (QbQ (fun fr σ=>∃ m' fr' σ',m'<m∧Shift G 47 0 fr σ fr' σ'∧rgJ nm pl c F K tm ti S cnt m' fr' σ') (rgE S cnt)):=by
 obtain ⟨t,w,seen,out,hn,hlt,rfl,ho,f1,f7,f32,rfl⟩:=hJ
 have hsl:=Qm4 hn hlt
 refine Qh [(1,.ref (.agg (fnC nm pl c F K)) 0),(7,.sl 2 w 0 1 out.length none),(32,.ptr 3 ti 0)] ⟨f1,f7,f32,trivial⟩  12 ?_
 simp -implicitDefEqProofs (disch:=omega) only [go_sem,↓reduceIte,fnC,Q9,Qz,inC]
 simp only [evW]
 simp -implicitDefEqProofs (disch:=omega) only [go_sem,↓reduceIte,rA,rq,rT,and_true,Qli]
 refine ⟨fun hall=>⟨t,w,seen,out,_,_,rfl,hn,hlt,hall,ho,rfl,rfl⟩,fun i hi hni=>?_⟩
 have hgl:(seen++[i]).getLast?=some i:=by simp
 have hgd:(km kI (cf cnt) S).getD i (V.any,V.any)=(.int .i64 (S.getD i 0),.int .i64 ((cnt (S.getD i 0):Nat):Int)):=by
  simp [km,List.getD_eq_getElem?_getD,List.getElem?_eq_getElem hi,kI,cf]
 have hgs:=Qx3 S cnt seen i
 rw [← ho] at hgs
 have hol:out.length≤S.length:=by rw [ho]; unfold got; have:=List.length_filter_le (fun k=>decide (1<cnt k)) (seen.map fun i=>S.getD i 0); rw [lM] at this; omega
 have hsn:seen.length<S.length:=by
  have h2:(seen++[i]).Nodup:=by rw [List.nodup_append]; exact ⟨hn,by simp,fun a ha b hb=>by simp at hb; subst hb; exact fun e=>hni (e▸ha)⟩
  have:=Qm4 h2 (n:=S.length) fun j hj=>by
   simp only [List.mem_append,List.mem_singleton] at hj
   rcases hj with hj | rfl
   ·exact hlt j hj
   ·exact hi
  simp at this; omega
 have hn2:(seen++[i]).Nodup:=by rw [List.nodup_append]; exact ⟨hn,by simp,fun a ha b hb=>by simp at hb; subst hb; exact fun e=>hni (e▸ha)⟩
 have hlt2:∀ j∈seen++[i],j<S.length:=fun j hj=>by
  simp only [List.mem_append,List.mem_singleton] at hj
  rcases hj with hj | rfl
  ·exact hlt j hj
  ·exact hi
 generalize S.getD i 0=x at *
 have hap:∀ (l:List Int) (y:Int),ints l++[V.int .i64 y]=ints (l++[y]):=fun l y=>by simp [ints]
 simp only [evW]
 simp -implicitDefEqProofs (disch:=omega) only [go_sem,↓reduceIte,rq,and_true,Qli,hgl,hgd,hi]
 by_cases h1:1<cnt x
 ·rw [if_pos h1] at hgs
  have h1':decide ((1:Int)<((cnt x:Nat):Int))=true:=decide_eq_true (by omega)
  have h1'':((1:Int)<((cnt x:Nat):Int))=True:=eq_true (by omega)
  have hln:out.length+1=(out++[x]).length:=by simp
  iterate 6 (try (refine Qa 4 ?_; simp -implicitDefEqProofs (disch:=omega) only [go_sem,↓reduceIte,reduceCtorEq,rA,rq,rL,rT,V.cells,Qq,true_and,and_true,cA,nA,h1'',hap]))
  refine ⟨S.length - (seen.length+1),_,_,by omega,Shift.refl _ _ _ _,t+1,t,seen++[i],out++[x],hn2,hlt2,by simp,hgs.symm,?_⟩
  simp -implicitDefEqProofs (disch:=omega) only [go_sem,↓reduceIte,rq,fnC,Q9,Qz,inC,and_true,hln]
  try simp
 ·rw [if_neg h1,List.append_nil] at hgs
  have h1':decide ((1:Int)<((cnt x:Nat):Int))=false:=decide_eq_false (by omega)
  have h1'':((1:Int)<((cnt x:Nat):Int))=False:=eq_false (by omega)
  iterate 6 (try (refine Qa 4 ?_; simp -implicitDefEqProofs (disch:=omega) only [go_sem,↓reduceIte,rA,rq,rT,h1'']))
  refine ⟨S.length - (seen.length+1),_,_,by omega,Shift.refl _ _ _ _,t,w,seen++[i],out,hn2,hlt2,by simp,hgs.symm,?_⟩
  simp -implicitDefEqProofs (disch:=omega) only [go_sem,↓reduceIte,rq,fnC,Q9,Qz,inC,and_true]
  try simp
theorem c_cuts (hT:Qk Tryz.prog tab) (nm:List UInt8) (pl F:Int) (c:List In) (K:List Int) (hl:c.length≤1000) (hc:∀ x∈c,Zq x):Am.Pure Tryz.prog G Qc4 [.agg (fnC nm pl c F K)] fun v=>v=Qz (Rg.cuts c F):=by
 have hnl:=Qfl (nm:=nm) (pl:=pl) (F:=F) (c:=c) (K:=K)
 refine Qe5 (fun t=>?_) (by simp [Qz,Qd])
 refine Qt hT QcW (by simp [Y8]) (Qn 5 ?_)
 simp -implicitDefEqProofs (disch:=omega) only [go_sem,↓reduceIte,reduceCtorEq,rq,fnC,Q9,Qz,inC,V.cells,and_true,nA]
 refine Q8 (Shift.freeze (k:=0) (v:=t) (T:=37) (cs:=fnC nm pl c F K) (zL _) rfl hnl) ?_
 simp only [fnC,Q9,Qz,inC,YG,Zd,QiX,Qaa,Xt,List.set_cons_zero,Option.map_none]
 refine Qa 40 ?_
 simp -implicitDefEqProofs (disch:=omega) only [go_sem,↓reduceIte,reduceCtorEq,rA,rq,rL,V.cells,lM,true_implies,and_true,cA,nA,H.push]
 generalize t+1=tm at *
 refine Xn c (cuJ nm pl c F K tm) (cuE nm pl c F K tm) ⟨tm+1,[],fun _=>0,⟨by simp,by simp⟩,by simp [XB],?_⟩ (fun i x hx fr σ hJ=>Qym hT (by omega) hc hx hJ) (fun i hi fr σ hJ=>?_) (fun e fr σ hE=>?_)
 ·simp -implicitDefEqProofs (disch:=omega) only [go_sem,↓reduceIte,reduceCtorEq,rq,fnC,Q9,Qz,inC,true_and]
  try simp [km]
 ·obtain ⟨t2,S,cnt,hM,hcn,f1,f2,f3,f13,f14,rfl⟩:=hJ
  refine Qh [(1,.ref (.agg (fnC nm pl c F K)) 0),(2,.lst 0 [] true),(3,.mp 1 tm),(13,.int .i64 c.length),(14,.int .i64 ((i:Nat):Int))] ⟨f1,f2,f3,f13,f14,trivial⟩  12 ?_
  simp -implicitDefEqProofs (disch:=omega) only [go_sem,↓reduceIte,rq,fnC,Q9,Qz,inC,hi,Nat.lt_irrefl]
  exact ⟨t2,S,cnt,rfl,hM,by rw [← hi]; exact hcn,rfl,rfl,rfl,rfl⟩
 ·obtain ⟨t2,S,cnt,rfl,hM,hcn,f1,f2,f3,rfl⟩:=hE
  have hSl:S.length≤c.length:=by
   have h:=List.Nodup.length_le_of_subset hM.1 (l₂:=(List.range c.length).map fun k:Nat=>(k:Int)) fun k hk=>by
    have h1:=(hM.2 k).1 hk
    rw [hcn] at h1
    have:=QiG h1
    exact List.mem_map.2 ⟨k.toNat,List.mem_range.2 (by omega),by omega⟩
   simpa using h
  refine YE [(1,.ref (.agg (fnC nm pl c F K)) 0),(2,.lst 0 [] true),(3,.mp 1 tm)] ⟨f1,f2,f3,trivial⟩ 4 ?_
  simp -implicitDefEqProofs (disch:=omega) only [go_sem,↓reduceIte,rq,fnC,Q9,Qz,inC]
  refine Q8 (Shift.own (s:=7) (z:=0) (sz:=1) (T:=3) (by simp -implicitDefEqProofs (disch:=omega) only [go_sem,↓reduceIte,rq]) (by decide)) ?_
  simp -implicitDefEqProofs (disch:=omega) only [go_sem,↓reduceIte,rA,rq,H.push]
  refine Qa 12 ?_
  simp -implicitDefEqProofs (disch:=omega) only [go_sem,↓reduceIte,rq]
  simp only [evW]
  simp -implicitDefEqProofs (disch:=omega) only [go_sem,↓reduceIte,rA,rq,cA,nA,Qli,H.push]
  refine QcH (rgJ nm pl c F K tm (t2+1) S cnt) (rgE S cnt) (m0:=S.length) ⟨t2+1+1,t2,[],[],by simp,by simp,by simp,by simp [got],?_⟩ (fun m fr σ hJ=>Qxo (by omega) hJ) (fun e fr σ hE=>?_)
  ·simp -implicitDefEqProofs (disch:=omega) only [go_sem,↓reduceIte,rq,fnC,Q9,Qz,inC,true_and]
   try simp [ints]
  ·obtain ⟨t3,w,seen,out,X,Y,rfl,hsn,hslt,hall,hout,f7,rfl⟩:=hE
   have hol:out.length≤S.length:=by
    rw [hout]; unfold got
    have h1:=List.length_filter_le (fun k=>decide (1<cnt k)) (seen.map fun i=>S.getD i 0)
    rw [lM] at h1
    have h2:=Qm4 hsn hslt
    omega
   have hfin:(out.mergeSort fun x y=>decide (x≤y))=Rg.cuts c F:=by
    have:=QGJ (c:=c) (F:=F) hM.1 (fun k=>by rw [hM.2,hcn]) hsn hslt hall
    rw [hout]; unfold got
    rw [show (fun k=>decide (1<cnt k))=fun k=>decide (1<XB c F c.length k) from funext fun k=>by rw [hcn]]
    exact this
   have hS:=Qwm (P:=Tryz.prog) (G:=G) (sortI rfl) (base:=0) (k:=2) (v:=w) (T:=3) (t:=t3) (o:=[none,X,some (.arr w 3 (ints out)),Y]) (zs:=out) (n:=out.length) (lim:=none) (zL _) rfl rfl (by omega)
   rw [hfin] at hS
   have hcl:(Rg.cuts c F).length=out.length:=by rw [← hfin]; simp
   refine YE [(7,.sl 2 w 0 1 out.length none)] ⟨f7,trivial⟩ 12 ?_
   simp -implicitDefEqProofs (disch:=omega) only [go_sem,↓reduceIte,rq]
   refine call hT QbK hS 12 fun v σ hv=>?_
   obtain ⟨rfl,rfl⟩:=hv
   simp -implicitDefEqProofs (disch:=omega) only [go_sem,↓reduceIte,rq]
   have hfz:Qaa 2 w (ints (Rg.cuts c F)) (.sl 2 w 0 1 out.length none)=Qz (Rg.cuts c F):=by
    rw [← hcl]
    have hle:(Rg.cuts c F).length≤(ints (Rg.cuts c F)).length:=by rw [Qq]; exact lR _
    simp [Qaa,Qcb,Qz,List.take_of_length_le,Qq]
   refine ⟨2,w,3,ints (Rg.cuts c F),rfl,Zp _,?_,?_⟩
   ·rw [hfz]; simp [Qz,Qd]
   ·rw [hfz]; exact .refl _
end
end Go.Proofs.YtaidbdgndljaeaaGreatDoor
namespace Go.Proofs.YtaidbdgndljaeaaGreatDoor
open Go Go.Am Go.Rv Go.Rg
set_option maxRecDepth 100000
variable {P:Program} {G:Nat→Option V}
section
attribute [local go_sem] aZ lR Nat.succ_ne_zero zA zL decide_false decide_true ge_iff_le gt_iff_lt Qw Qa7 QDa QC9 QC8 QC7 QC6 Xh QAn QAm XC Qz2 Qz1 Qz0 QzZ QzY QzX QzW QzV
theorem ibne (a b:Int):(a != b) = !decide (a=b):=by rw [Bool.eq_iff_iff]; simp
theorem QGY (hT:Qk P tab) (x:In) (hb:-9223372036854775808<x.imm∧x.imm≤9223372036854775807):Am.Pure P G Qgi [.agg (inC x)] fun v=>v=.int .i64 (XZ x):=by
 intro t
 have w1:IntKind.i64.wrap (0 - x.imm)=-x.imm:=by rw [XA (by omega)]; omega
 have w2:IntKind.i64.wrap (-x.imm)=-x.imm:=XA (by omega)
 refine Qp 0 (zL _) (Qt hT Qf6 (by simp [Qa7]) (Qn 12 ?_))
 unfold XZ
 by_cases g1:x.op=22
 ·have g1':(x.op != 22)=false:=by simp [g1]
  by_cases g2:x.rd=2
  ·have g2':(x.rd != 2)=false:=by simp [g2]
   by_cases g3:x.rs1=2
   ·have g3':(x.rs1 != 2)=false:=by simp [g3]
    by_cases g4:-x.imm<8
    ·have g4':decide (-x.imm<8)=true:=decide_eq_true g4
     rw [if_neg (by omega)]
     simp -implicitDefEqProofs (disch:=omega) only [go_sem,↓reduceIte,reduceCtorEq,rA,rq,inC,V.cells,true_implies,and_true,nA,w1]
     iterate 12 (try (refine Qa 4 ?_; simp -implicitDefEqProofs (disch:=omega) only [go_sem,↓reduceIte,reduceCtorEq,rA,rq,rL,true_implies,and_true,g1',g2',g3',g4]))
    ·have g4':decide (-x.imm<8)=false:=decide_eq_false g4
     by_cases g5:1984 < -x.imm
     ·have g5':decide (1984 < -x.imm)=true:=decide_eq_true g5
      rw [if_neg (by omega)]
      simp -implicitDefEqProofs (disch:=omega) only [go_sem,↓reduceIte,reduceCtorEq,rA,rq,inC,V.cells,true_implies,and_true,nA,w1]
      iterate 12 (try (refine Qa 4 ?_; simp -implicitDefEqProofs (disch:=omega) only [go_sem,↓reduceIte,reduceCtorEq,rA,rq,rL,true_implies,and_true,g1',g2',g3',g4,g5]))
     ·have g5':decide (1984 < -x.imm)=false:=decide_eq_false g5
      by_cases g6:(-x.imm).tmod 8=0
      ·have g6':((-x.imm).tmod 8 != 0)=false:=by rw [ibne,decide_eq_true g6]; rfl
       rw [if_pos ⟨g1,g2,g3,by omega,by omega,g6⟩]
       simp -implicitDefEqProofs (disch:=omega) only [go_sem,↓reduceIte,reduceCtorEq,rA,rq,inC,V.cells,true_implies,and_true,nA,w1]
       iterate 12 (try (refine Qa 4 ?_; simp -implicitDefEqProofs (disch:=omega) only [go_sem,↓reduceIte,reduceCtorEq,rA,rq,rL,Int.reduceEq,true_implies,and_true,not_false_eq_true,g1',g2',g3',g4,g5,g6']))
      ·have g6':((-x.imm).tmod 8 != 0)=true:=by rw [ibne,decide_eq_false g6]; rfl
       rw [if_neg (fun h=>g6 h.2.2.2.2.2)]
       simp -implicitDefEqProofs (disch:=omega) only [go_sem,↓reduceIte,reduceCtorEq,rA,rq,inC,V.cells,true_implies,and_true,nA,w1]
       iterate 12 (try (refine Qa 4 ?_; simp -implicitDefEqProofs (disch:=omega) only [go_sem,↓reduceIte,reduceCtorEq,rA,rq,rL,Int.reduceEq,true_implies,and_true,not_false_eq_true,g1',g2',g3',g4,g5,g6']))
   ·have g3':(x.rs1 != 2)=true:=by simp [g3]
    rw [if_neg (fun h=>g3 h.2.2.1)]
    simp -implicitDefEqProofs (disch:=omega) only [go_sem,↓reduceIte,reduceCtorEq,rA,rq,inC,V.cells,true_implies,and_true,nA,w1]
    iterate 12 (try (refine Qa 4 ?_; simp -implicitDefEqProofs (disch:=omega) only [go_sem,↓reduceIte,reduceCtorEq,rA,rq,rL,true_implies,and_true,g1',g2',g3']))
  ·have g2':(x.rd != 2)=true:=by simp [g2]
   rw [if_neg (fun h=>g2 h.2.1)]
   simp -implicitDefEqProofs (disch:=omega) only [go_sem,↓reduceIte,reduceCtorEq,rA,rq,inC,V.cells,true_implies,and_true,nA,w1]
   iterate 12 (try (refine Qa 4 ?_; simp -implicitDefEqProofs (disch:=omega) only [go_sem,↓reduceIte,reduceCtorEq,rA,rq,rL,true_implies,and_true,g1',g2']))
 ·have g1':(x.op != 22)=true:=by simp [g1]
  rw [if_neg (fun h=>g1 h.1)]
  simp -implicitDefEqProofs (disch:=omega) only [go_sem,↓reduceIte,reduceCtorEq,rA,rq,inC,V.cells,true_implies,and_true,nA,w1]
  iterate 12 (try (refine Qa 4 ?_; simp -implicitDefEqProofs (disch:=omega) only [go_sem,↓reduceIte,reduceCtorEq,rA,rq,rL,true_implies,and_true,g1']))
theorem QyB (hT:Qk P tab) (l:List Int) (q:Bool) (a:Int) (hl:l.length≤1000):Am.Pure P G Qao [.lst 1 (us l) q,.int .u8 a] fun v=>∃ k:Int,v=.int .i64 k∧(0≤k↔a∈l):=by
 intro t
 refine Qp 0 (zL _) (Qt hT Qak (by simp [XC]) (Qn 1000 ?_))
 simp -implicitDefEqProofs (disch:=omega) only [go_sem,↓reduceIte,reduceCtorEq,rq,lM,us]
 refine Xn l (fun i fr σ=>a ∉ l.take i∧Qg fr 0=.lst 1 (us l) q∧Qg fr 1=.int .u8 a∧Qg fr 7=.int .i64 l.length∧Qg fr 8=.int .i64 ((i:Nat):Int)∧σ=⟨t,[]⟩)
  (fun e fr σ=>σ=⟨t,[]⟩∧((e=.ret∧a∈l∧∃ i:Nat,Qg fr 4=.int .i64 (i:Int))∨(e=.ex 0∧a ∉ l))) ⟨by simp,?_⟩ (fun i x hx fr σ hJ=>?_) (fun i hi fr σ hJ=>?_) (fun e fr σ hE=>?_)
 ·simp -implicitDefEqProofs (disch:=omega) only [go_sem,↓reduceIte,reduceCtorEq,rq,us]
  try simp
 ·obtain ⟨hno,f0,f1,f7,f8,rfl⟩:=hJ
  have hlt:=(List.getElem?_eq_some_iff.1 hx).1
  have hD:(l.map (V.int .u8)).getD i V.any=.int .u8 x:=by simp [List.getD_eq_getElem?_getD,hx]
  have e2:=ZT hlt (by omega)
  refine Qn 1000 ?_
  by_cases he:a=x
  ·have he':(a==x)=true:=by simp [he]
   simp -implicitDefEqProofs (disch:=omega) only [go_sem,↓reduceIte,reduceCtorEq,rq,lM,us,f0,f1,f7,f8,hlt,hD,he']
   exact ⟨he▸List.mem_of_getElem? hx,i,rfl⟩
  ·have he':(a==x)=false:=by simp [he]
   simp -implicitDefEqProofs (disch:=omega) only [go_sem,↓reduceIte,reduceCtorEq,rq,lM,us,f0,f1,f7,f8,hlt,hD,he']
   refine ⟨_,_,Shift.refl _ _ _ _,?_,?_⟩
   ·rw [List.take_add_one,hx]; simp [hno,he]
   ·simp -implicitDefEqProofs (disch:=omega) only [go_sem,↓reduceIte,reduceCtorEq,rq,us,f0,f1,f7,e2]
 ·obtain ⟨hno,f0,f1,f7,f8,rfl⟩:=hJ
  rw [hi,List.take_length] at hno
  refine Qn 1000 ?_
  simp -implicitDefEqProofs (disch:=omega) only [go_sem,↓reduceIte,reduceCtorEq,rq,f7,f8,hi,Nat.lt_irrefl]
  exact hno
 ·obtain ⟨rfl,hE⟩:=hE
  rcases hE with ⟨rfl,hm,i,f4⟩ | ⟨rfl,hno⟩
  ·refine Qa 1000 ?_
   simp -implicitDefEqProofs (disch:=omega) only [go_sem,f4]
   exact ⟨i,rfl,by simp [hm]⟩
  ·refine Qa 1000 ?_
   simp -implicitDefEqProofs (disch:=omega) only [go_sem,↓reduceIte]
   exact ⟨-1,rfl,by simp [hno]⟩
theorem QlI (hT:Qk P tab) (l:List Int) (q:Bool) (a:Int) (hl:l.length≤1000):Am.Pure P G Zw [.lst 1 (us l) q,.int .u8 a] fun v=>v=.bool (decide (a∈l)):=by
 intro t
 have hI:=QyB (P:=P) (G:=G) hT l q a hl
 simp only [us] at hI
 refine Qp 0 (zL _) (Qt hT Yo (by simp [Xh]) (Qn 1000 ?_))
 simp -implicitDefEqProofs (disch:=omega) only [go_sem,↓reduceIte,reduceCtorEq,rq,us]
 refine QN hT Qak hI (by simp [Qb,Qd]) 1000 fun v hv=>?_
 obtain ⟨k,rfl,hk⟩:=hv
 simp -implicitDefEqProofs (disch:=omega) only [go_sem,↓reduceIte,reduceCtorEq,rq]
 simp [hk]
end
end Go.Proofs.YtaidbdgndljaeaaGreatDoor
namespace Go.Proofs.YtaidbdgndljaeaaGreatDoor
open Go Go.Am Go.Rv Go.Rg
set_option maxRecDepth 100000
variable {G:Nat→Option V}
section
attribute [local go_sem] nF nT cA lM nA aZ lR Nat.mul_one Nat.one_mul Nat.succ_ne_zero zA zL Nat.zero_mul Option.getD_none Option.getD_some Option.isSome_none Option.isSome_some V.cells and_true beq_self_eq_true bne_self_eq_false QF decide_false decide_true false_implies ge_iff_le gt_iff_lt inC Q9 Qw not_false_eq_true not_true_eq_false YK QBg QBf Y7 Yt QAp QAo QBA QBz QBy QBx QU true_and true_implies
def rdC (m:Im) (nm:List UInt8) (pl:Int) (c:List In) (F:Int):List V:=[.int .i64 m.data,QU m.syms,QF m.code,.str nm,.int .i64 pl,Q9 c,.int .i64 F,.lst 0 [] true]
def rdH (m:Im) (nm:List UInt8) (pl:Int) (c:List In) (F:Int) (vr:Nat) (X1 X2 X4 X6 X7:Option Ob):List (Option Ob):=[none,X1,X2,some (.arr vr 107 (rdC m nm pl c F)),X4,none,X6,X7]
variable {t i:Nat}
theorem c_opS1 {P:Program} (hT:Qk P tab) {base k w T:Nat} {o:List (Option Ob)} {op:Int} (ho:o[k]?=some (some (.arr w T [.int .u8 op]))) (a b:Int):C P G base Qbq [.int .u8 a,.int .u8 b,.ptr k w 0] ⟨t,o⟩ fun v σ=>v=.bool (decide (a≤op)&&decide (op≤b))∧σ=⟨t,o⟩:=by
 refine Qt hT Qbl (by simp [Yt]) (Qn 12 ?_)
 by_cases h:a≤op
 ·have h':decide (a≤op)=true:=decide_eq_true h
  simp -implicitDefEqProofs (disch:=omega) only [go_sem,↓reduceIte,reduceCtorEq,rA,rq,ho,h]
  iterate 4 (try (refine Qa 4 ?_; simp -implicitDefEqProofs (disch:=omega) only [go_sem,↓reduceIte,reduceCtorEq,rA,rq]))
 ·have h':decide (a≤op)=false:=decide_eq_false h
  simp -implicitDefEqProofs (disch:=omega) only [go_sem,↓reduceIte,reduceCtorEq,rA,rq,ho,h]
  iterate 4 (try (refine Qa 4 ?_; simp -implicitDefEqProofs (disch:=omega) only [go_sem,↓reduceIte,reduceCtorEq,rq]))
variable {x:In} {X2 X4 X6 X7:Option Ob} {c:List In} {pl F:Int} {nm:List UInt8} {m:Im}
theorem c_op {P:Program} (hT:Qk P tab) {vr:Nat} {X1:Option Ob} (hx:c[i]?=some x) (hl:c.length≤1000000) :
 C P G 0 QaL [.ptr 3 vr 0,.int .i64 (i:Int)] ⟨t,rdH m nm pl c F vr X1 X2 X4 X6 X7⟩ fun v σ=>v=.bool (Qna x)∧∃ t',t≤t'∧σ=⟨t',rdH m nm pl c F vr X1 X2 X4 X6 X7⟩:=by
 have hD:=Xo hx
 simp only [inC] at hD
 have hlt:=(List.getElem?_eq_some_iff.1 hx).1
 have h1:=fun (t':Nat) (a b:Int)=>CV.of (cap:=[.ptr 8 t 0]) (args:=[.int .u8 a,.int .u8 b]) hT Qbl (c_opS1 (G:=G) hT (base:=0) (t:=t') (k:=8) (w:=t) (T:=5) (o:=rdH m nm pl c F vr X1 X2 X4 X6 X7++[some (.arr t 5 [.int .u8 x.op])]) (op:=x.op) rfl a b)
 have hC:=QlI (P:=P) (G:=G) hT [14,21,50,64] true x.op (by simp)
 simp only [rdH,rdC,Q9,QU,QF,inC,cA,nA] at h1
 simp only [us,List.map_cons,List.map_nil] at hC
 have hop:Qna x=((decide (1≤x.op)&&decide (x.op≤10)) || ((decide (22≤x.op)&&decide (x.op≤49)) || ((decide (54≤x.op)&&decide (x.op≤62)) || decide (x.op∈[(14:Int),21,50,64])))):=rfl
 rw [hop]
 generalize decide (x.op∈[(14:Int),21,50,64])=b4 at *
 refine Qp 8 (zL _) (Qt hT QcV (by simp [Y7]) (Qn 30 ?_))
 simp -implicitDefEqProofs (disch:=omega) only [go_sem,↓reduceIte,reduceCtorEq,rA,rq,rL,rdH,rdC,hlt,hD]
 refine CV.use 4 (h1 _ 1 10) fun v σ hv=>?_
 obtain ⟨rfl,rfl⟩:=hv
 cases hb1:(decide (1≤x.op)&&decide (x.op≤10)) with
 | true =>
   simp -implicitDefEqProofs (disch:=omega) only [go_sem,↓reduceIte,reduceCtorEq,rq]
   iterate 9 (try (refine Qa 4 ?_; simp -implicitDefEqProofs (disch:=omega) only [go_sem,↓reduceIte,reduceCtorEq,rA,rq,rL]))
   exact ⟨by simp,t+1,Nat.le_succ t,rfl⟩
 | false =>
   simp -implicitDefEqProofs (disch:=omega) only [go_sem,↓reduceIte,reduceCtorEq,rA,rq]
   refine CV.use 4 (h1 _ 22 49) fun v σ hv=>?_
   obtain ⟨rfl,rfl⟩:=hv
   cases hb2:(decide (22≤x.op)&&decide (x.op≤49)) with
   | true =>
     simp -implicitDefEqProofs (disch:=omega) only [go_sem,↓reduceIte,reduceCtorEq,rq]
     iterate 9 (try (refine Qa 4 ?_; simp -implicitDefEqProofs (disch:=omega) only [go_sem,↓reduceIte,reduceCtorEq,rA,rq,rL]))
     exact ⟨by simp,t+1,Nat.le_succ t,rfl⟩
   | false =>
     simp -implicitDefEqProofs (disch:=omega) only [go_sem,↓reduceIte,reduceCtorEq,rA,rq]
     iterate 1 (try (refine Qa 4 ?_; simp -implicitDefEqProofs (disch:=omega) only [go_sem,↓reduceIte,reduceCtorEq,rA,rq,rL,rT,Nat.reduceSub,Nat.reduceMul,Int.reduceToNat,Int.reduceLE,Int.reduceLT,Int.reduceEq,Int.reduceNe,Nat.reduceBEq,Nat.reduceBNe,rdH,rdC,Int.reduceBEq,Int.reduceBNe]))
     refine CV.use 4 (h1 _ 54 62) fun v σ hv=>?_
     obtain ⟨rfl,rfl⟩:=hv
     cases hb3:(decide (54≤x.op)&&decide (x.op≤62)) with
     | true =>
       simp -implicitDefEqProofs (disch:=omega) only [go_sem,↓reduceIte,reduceCtorEq,rq]
       iterate 9 (try (refine Qa 4 ?_; simp -implicitDefEqProofs (disch:=omega) only [go_sem,↓reduceIte,reduceCtorEq,rA,rq,rL]))
       exact ⟨by simp,t+1,Nat.le_succ t,rfl⟩
     | false =>
       simp -implicitDefEqProofs (disch:=omega) only [go_sem,↓reduceIte,reduceCtorEq,rA,rq,rL]
       iterate 2 (try (refine Qa 4 ?_; simp -implicitDefEqProofs (disch:=omega) only [go_sem,↓reduceIte,reduceCtorEq,rA,rq]))
       refine Qf hT Yo hC rfl 4 ?_
       simp -implicitDefEqProofs (disch:=omega) only [go_sem,↓reduceIte,reduceCtorEq,rq]
       iterate 4 (try (refine Qa 4 ?_; simp -implicitDefEqProofs (disch:=omega) only [go_sem,↓reduceIte,reduceCtorEq,rA,rq,rL]))
       exact ⟨by simp,t+1,Nat.le_succ t,rfl⟩
def fnN (nm:List UInt8) (pl:Int) (c:List In) (F:Int):V:=.agg [.str nm,.int .i64 pl,Q9 c,.int .i64 F,.lst 0 [] true]
theorem QFI:Wk (fnN nm pl c F) (.agg (fnC nm pl c F [])) :=
 .agg _ _ (.cons _ _ _ _ (.refl _) (.cons _ _ _ _ (.refl _) (.cons _ _ _ _ (.refl _) (.cons _ _ _ _ (.refl _) (.cons _ _ _ _ (.lst 0 1 [] [] true .nil (.inl rfl)) .nil)))))
theorem QvP {i:Int}:Qb [fnN nm pl c F,.int .i64 i]=true:=by simp [fnN,Q9,Qb,Qd]
theorem Qr4 {P:Program} (hT:Qk P tab) (nm:List UInt8) (pl F:Int) (c:List In) (i:Int) (hl:c.length≤1000000) (hi:-10≤i∧i≤2000000):Am.Pure P G Zm [fnN nm pl c F,.int .i64 i] fun v=>v=.bool (XS c F i) :=
 Pure.args (.cons _ _ _ _ QFI (.cons _ _ _ _ (.refl _) .nil)) (QmI hT nm pl F c [] i hl hi)
theorem Qrg {P:Program} (hT:Qk P tab) (nm:List UInt8) (pl F:Int) (c:List In) (i:Int) (hl:c.length≤1000000) (hi:-9≤i∧i≤2000000):Am.Pure P G Z5 [fnN nm pl c F,.int .i64 i] fun v=>v=.bool (ret c F i) :=
 Pure.args (.cons _ _ _ _ QFI (.cons _ _ _ _ (.refl _) .nil)) (QeT hT nm pl F c [] i hl hi)
theorem c_back {P:Program} (hT:Qk P tab) {vr:Nat} {X1:Option Ob} (hx:c[i]?=some x) (hl:c.length≤1000000) :
 C P G 0 Z4 [.ptr 3 vr 0,.int .i64 (i:Int)] ⟨t,rdH m nm pl c F vr X1 X2 X4 X6 X7⟩ fun v σ=>v=.bool (QiC c F i x)∧∃ t',t≤t'∧σ=⟨t',rdH m nm pl c F vr X1 X2 X4 X6 X7⟩:=by
 have hD:=Xo hx
 simp only [inC] at hD
 have hlt:=(List.getElem?_eq_some_iff.1 hx).1
 have hR:=Qrg (P:=P) (G:=G) hT nm pl F c i hl (by omega)
 have hn:=QvP (nm:=nm) (pl:=pl) (c:=c) (F:=F) (i:=i)
 simp only [fnN,Q9,inC] at hR hn
 unfold QiC
 refine Qp 8 (zL _) (Qt hT QbM (by simp [YK]) (Qn 12 ?_))
 by_cases h:x.op=4
 ·have h':(x.op != 4)=false:=by simp [h]
  simp -implicitDefEqProofs (disch:=omega) only [go_sem,↓reduceIte,reduceCtorEq,rA,rq,rL,rdH,rdC]
  iterate 4 (try (refine Qa 4 ?_; simp -implicitDefEqProofs (disch:=omega) only [go_sem,↓reduceIte,reduceCtorEq,rA,rq,rL,hlt,hD,h']))
  refine Qf hT QJ hR hn 4 ?_
  simp -implicitDefEqProofs (disch:=omega) only [go_sem,↓reduceIte,reduceCtorEq,rq]
  iterate 4 (try (refine Qa 4 ?_; simp -implicitDefEqProofs (disch:=omega) only [go_sem,↓reduceIte,reduceCtorEq,rA,rq]))
  exact ⟨by simp [h],t,lR t,rfl⟩
 ·have h':(x.op != 4)=true:=by simp [h]
  simp -implicitDefEqProofs (disch:=omega) only [go_sem,↓reduceIte,reduceCtorEq,rA,rq,rL,rdH,rdC]
  iterate 6 (try (refine Qa 4 ?_; simp -implicitDefEqProofs (disch:=omega) only [go_sem,↓reduceIte,reduceCtorEq,rA,rq,rL,hlt,hD,h']))
  exact ⟨by simp [h],t,lR t,rfl⟩
theorem QEu (l:List Int):(us l).length=l.length:=by simp [us]
theorem QkW:∀ l:List Int,Qb (us l)=true
 | []=>rfl
 | n::c=>by have:=QkW c; simpa [us,Qb,Qd] using this
theorem Qyz (hT:Qk Tryz.prog tab) (x:In) (hx:Zq x):Am.Pure Tryz.prog G0 QiO [.agg (inC x)] fun u=>u=.lst 1 (us (rds x)) false:=by
 refine Qe5 (fun t=>C_pad (o':=[none]) (fun n ob h=>?_) (zL _) ((QG2 hT x hx (X:=none)).conseq fun v σ hv=>?_)) (by simp [Qd])
 ·cases n with
  | zero=>simp at h
  | succ n=>simp at h
 rcases hv with ⟨hr,rfl,_⟩ | ⟨t',w,B,cs,hcs,rfl,rfl⟩
 ·rw [hr]
  exact .inl ⟨rfl,.lst 0 1 [] [] true .nil (.inl rfl)⟩
 ·have hfz:Qaa 2 w (us (rds x)++cs) (.sl 2 w 0 1 (rds x).length none)=.lst 1 (us (rds x)) false:=by
   have hle:(rds x).length≤(us (rds x)).length+cs.length:=by rw [QEu]; omega
   simp [Qaa,Qcb,List.take_left' (QEu _),hle]
  refine .inr ⟨2,w,5,us (rds x)++cs,rfl,?_,?_,?_⟩
  ·rw [Yp,QkW,hcs]; rfl
  ·rw [hfz]; simp [Qd]
  ·rw [hfz]; exact .refl _
end
end Go.Proofs.YtaidbdgndljaeaaGreatDoor
namespace Go.Proofs.YtaidbdgndljaeaaGreatDoor
open Go Go.Am Go.Rv Go.Rg
set_option maxRecDepth 100000
section
attribute [local go_sem] nF nT cA lM nA aZ lR zA zL V.cells and_true QF decide_false decide_true false_implies gt_iff_lt inC Q9 Qw rdC rdH Ys QBw QBv Qpt Qps Qpr Qpq Qpp Qpo QBu QBt QBs QBr QBq QtS QtR QtQ QU true_and true_implies
variable {x:In} {t:Nat}
theorem Qvb (hT:Qk Tryz.prog tab) {w:Nat} {o:List (Option Ob)} (hxo:Zq x) (ho:o[8]?=some (some (.arr w 47 (inC x)))) {fr:Fr} {Q:V→H→Prop} (f5:Qg fr 5=.ptr 8 w 0)
 (hk:Q (.bool (!decide ((2:Int)∈rds x) || (if x.op=14 then true else if x.op=21∨x.op=10 then decide (x.rs2≠2) else false))) ⟨t,o⟩) :
 W Tryz.prog G0 58 0 (.seq (zg QtS [44,45,46] (zw 47 (zg QtR [] .ret) .skip)) (.seq (zg QtQ [48] (.block 0 (zg Qpt [51] (zw 50 (zg Qps [] .ret) (.seq (zg Qpr [53] (zw 52 .skip (.reg Qpq [54]))) (zw 52 (zg Qpp [55,56,57] .ret) .skip)))))) (zg Qpo [] .ret))) fr ⟨t,o⟩ (QvY G0 [RV.tmp 4] Q):=by
 have hRd:=Qyz hT x hxo
 have hrl:=QpS x
 have hC:=QlI (P:=Tryz.prog) (G:=G0) hT (rds x) false 2 (by omega)
 simp only [inC] at hRd ho
 refine Qh [(5,.ptr 8 w 0)] ⟨f5,trivial⟩  6 ?_
 simp -implicitDefEqProofs (disch:=omega) only [go_sem,↓reduceIte,reduceCtorEq,rA,rq,ho]
 refine Qf hT Qmy hRd rfl 4 ?_
 simp -implicitDefEqProofs (disch:=omega) only [go_sem,↓reduceIte,rq]
 refine Qf hT Yo hC (by simp [Qb,Qd]) 4 ?_
 generalize decide ((2:Int)∈rds x)=b2 at *
 cases b2 with
 | false =>
   simp -implicitDefEqProofs (disch:=omega) only [go_sem,↓reduceIte,rq]
   iterate 6 (try (refine Qa 4 ?_; simp -implicitDefEqProofs (disch:=omega) only [go_sem,↓reduceIte,rq]))
   exact hk
 | true =>
   simp -implicitDefEqProofs (disch:=omega) only [go_sem,↓reduceIte,rq]
   rw [nT,Bool.false_or] at hk
   by_cases h1:x.op=14
   ·have h1':(x.op==14)=true:=by simp [h1]
    rw [if_pos h1] at hk
    iterate 9 (try (refine Qa 4 ?_; simp -implicitDefEqProofs (disch:=omega) only [go_sem,↓reduceIte,rA,rq,rL,ho,h1']))
    exact hk
   ·have h1':(x.op==14)=false:=by simp [h1]
    rw [if_neg h1] at hk
    by_cases h2:x.op=21
    ·have h2':(x.op==21)=true:=by simp [h2]
     rw [if_pos (.inl h2)] at hk
     iterate 9 (try (refine Qa 4 ?_; simp -implicitDefEqProofs (disch:=omega) only [go_sem,↓reduceIte,rA,rq,rL,ho,h1',h2']))
     simpa [ibne] using hk
    ·have h2':(x.op==21)=false:=by simp [h2]
     by_cases h3:x.op=10
     ·have h3':(x.op==10)=true:=by simp [h3]
      rw [if_pos (.inr h3)] at hk
      iterate 9 (try (refine Qa 4 ?_; simp -implicitDefEqProofs (disch:=omega) only [go_sem,↓reduceIte,rA,rq,rL,ho,h1',h2',h3']))
      simpa [ibne] using hk
     ·have h3':(x.op==10)=false:=by simp [h3]
      rw [if_neg (by omega)] at hk
      iterate 9 (try (refine Qa 4 ?_; simp -implicitDefEqProofs (disch:=omega) only [go_sem,↓reduceIte,rA,rq,rL,ho,h1',h2',h3']))
      exact hk
theorem QGU (hT:Qk Tryz.prog tab) {m:Im} {nm:List UInt8} {pl F:Int} {c:List In} {vr i:Nat} {X1 X2 X4 X6 X7:Option Ob} (hx:c[i]?=some x) (hl:c.length≤1000000) (hxo:Zq x) :
 C Tryz.prog G0 0 ZD [.ptr 3 vr 0,.int .i64 (i:Int)] ⟨t,rdH m nm pl c F vr X1 X2 X4 X6 X7⟩ fun v σ=>v=.bool (QaH c F i x)∧∃ t',t≤t'∧σ=⟨t',rdH m nm pl c F vr X1 X2 X4 X6 X7⟩:=by
 have hD:=Xo hx
 simp only [inC] at hD
 have hlt:=(List.getElem?_eq_some_iff.1 hx).1
 have hR:=Qr4 (P:=Tryz.prog) (G:=G0) hT nm pl F c i hl (by omega)
 have hn:=QvP (nm:=nm) (pl:=pl) (c:=c) (F:=F) (i:=i)
 have hW:=Qrx hT x hxo
 simp only [fnN,Q9,inC] at hR hn hW
 refine Qp 8 (zL _) (Qt hT Qbk (by simp [Ys]) (Qn 17 ?_))
 simp -implicitDefEqProofs (disch:=omega) only [go_sem,↓reduceIte,reduceCtorEq,rA,rq,rL,hlt,hD]
 refine Qa 2 ?_
 simp -implicitDefEqProofs (disch:=omega) only [go_sem]
 have hst:QaH c F i x=((decide (i=0)&&decide (0<F)) || XS c F i || (!decide (wrs x=(2,true))&&(!decide ((2:Int)∈rds x) || (if x.op=14 then true else if x.op=21∨x.op=10 then decide (x.rs2≠2) else false)))):=rfl
 rw [hst]
 refine QiJ (fun fr σ=>Qg fr 5=.ptr 8 t 0∧Qg fr 33=.bool (decide (i=0)&&decide (0<F) || XS c F i)∧σ=⟨t+1,rdH m nm pl c F vr X1 X2 X4 X6 X7++[some (.arr t 47 (inC x))]⟩) ?_ fun fr σ hJ=>?_
 ·refine Qn 12 ?_
  generalize XS c F i=br at *
  by_cases h0:i=0
  ·have h0':((i:Int)==0)=true:=by simp [h0]
   have h0'':((i:Int)=0)=True:=eq_true (by omega)
   rw [decide_eq_true h0]
   by_cases hF:0<F
   ·have hF':decide (0<F)=true:=decide_eq_true hF
    simp -implicitDefEqProofs (disch:=omega) only [go_sem,↓reduceIte,reduceCtorEq,rA,rq,rL,hF,h0']
    iterate 9 (try (refine Qa 4 ?_; simp -implicitDefEqProofs (disch:=omega) only [go_sem,↓reduceIte,reduceCtorEq,rq]))
    try simp
   ·have hF':decide (0<F)=false:=decide_eq_false hF
    simp -implicitDefEqProofs (disch:=omega) only [go_sem,↓reduceIte,reduceCtorEq,rA,rq,rL,hF,h0']
    iterate 4 (try (refine Qa 4 ?_; simp -implicitDefEqProofs (disch:=omega) only [go_sem,↓reduceIte,reduceCtorEq,rA,rq]))
    refine Qf hT YB hR hn 4 ?_
    simp -implicitDefEqProofs (disch:=omega) only [go_sem,↓reduceIte,reduceCtorEq,rq]
    try simp
  ·have h0':((i:Int)==0)=false:=by simp [h0]
   have h0'':((i:Int)=0)=False:=eq_false (by omega)
   rw [decide_eq_false h0]
   simp -implicitDefEqProofs (disch:=omega) only [go_sem,↓reduceIte,reduceCtorEq,rq,h0']
   iterate 4 (try (refine Qa 4 ?_; simp -implicitDefEqProofs (disch:=omega) only [go_sem,↓reduceIte,reduceCtorEq,rA,rq]))
   refine Qf hT YB hR hn 4 ?_
   simp -implicitDefEqProofs (disch:=omega) only [go_sem,↓reduceIte,reduceCtorEq,rq]
   try simp
 obtain ⟨f5,f33,rfl⟩:=hJ
 refine Qh9 [(5,.ptr 8 t 0),(33,.bool (decide (i=0)&&decide (0<F) || XS c F i))] ⟨f5,f33,trivial⟩ ?_
 generalize (decide (i=0)&&decide (0<F) || XS c F i)=b1
 have hk:∀ (a:Int × Bool),decide (a=(2,true))=(a.2&&decide (a.1=2)):=fun a=>by
  obtain ⟨p,q⟩:=a
  rw [Bool.eq_iff_iff]; cases q <;> simp
 rw [hk]
 simp only [rdH,cA,nA]
 generalize wrs x=wx at *
 obtain ⟨wd,wb⟩:=wx
 simp only at hW ⊢
 refine Qa 5 ?_
 cases b1 with
 | true =>
   simp -implicitDefEqProofs (disch:=omega) only [go_sem,↓reduceIte,rq]
   iterate 4 (try (refine Qa 4 ?_; simp -implicitDefEqProofs (disch:=omega) only [go_sem,↓reduceIte,rA,rq,rL]))
   exact ⟨by simp,t+1,Nat.le_succ t,rfl⟩
 | false =>
   rw [Bool.false_or]
   simp -implicitDefEqProofs (disch:=omega) only [go_sem,↓reduceIte,rq]
   iterate 1 (try (refine Qa 4 ?_; simp -implicitDefEqProofs (disch:=omega) only [go_sem,↓reduceIte,reduceCtorEq,rA,rq]))
   refine Qf hT Qhv hW rfl 4 ?_
   simp -implicitDefEqProofs (disch:=omega) only [go_sem,↓reduceIte,rA,rq,rT]
   cases wb with
   | true =>
     by_cases h2:wd=2
     ·have h2':(wd==2)=true:=by simp [h2]
      iterate 9 (try (refine Qa 4 ?_; simp -implicitDefEqProofs (disch:=omega) only [go_sem,↓reduceIte,rA,rq,rL,h2']))
      exact ⟨by simp [h2],t+1,Nat.le_succ t,rfl⟩
     ·have h2':(wd==2)=false:=by simp [h2]
      iterate 3 (try (refine Qa 4 ?_; simp -implicitDefEqProofs (disch:=omega) only [go_sem,↓reduceIte,rA,rq,h2']))
      exact Qvb hT hxo rfl rfl ⟨by simp,by simp [h2],t+1,Nat.le_succ t,rfl⟩
   | false =>
     iterate 3 (try (refine Qa 4 ?_; simp -implicitDefEqProofs (disch:=omega) only [go_sem,↓reduceIte,rq]))
     exact Qvb hT hxo rfl rfl ⟨by simp,by simp,t+1,Nat.le_succ t,rfl⟩
end
variable {P:Program} {G:Nat→Option V}
section
attribute [local go_sem] nF aZ lR zA zL decide_false decide_true ge_iff_le gt_iff_lt Qw X9 XE QAd QAc QBp QBo QBn QBm QBl QBk QBj QBi QBh Qo Qum Qul
variable {at_:Int} {o:List (Option Ob)} {base t w k:Nat}
theorem Qsk (hT:Qk P tab) {T:Nat} (ho:o[k]?=some (some (.arr w T [.int .i64 at_]))) (hb:base≤o.length) (s:List UInt8 × Int) :
 C P G base XT [Qju s,.ptr k w 0] ⟨t,o⟩ fun v σ=>v=.bool (decide (s.2=at_))∧∃ t',t≤t'∧σ=⟨t',o⟩:=by
 have hk:=(List.getElem?_eq_some_iff.1 ho).1
 have h1:∀ X,(o++[X])[k]?=some (some (.arr w T [.int .i64 at_])):=fun X=>by rw [List.getElem?_append_left hk]; exact ho
 have h2:∀ X,(o++[X])[o.length]?=some X:=fun X=>List.getElem?_concat_length
 have h3:∀ X:Option Ob,List.take o.length (o++[X])=o:=fun X=>by simp
 refine Qp o.length hb (Qt hT Qam (by simp [XE]) (Qn 20 ?_))
 simp -implicitDefEqProofs (disch:=omega) only [go_sem,↓reduceIte,reduceCtorEq,rA,rq,Qju,V.cells,h1,h2]
 refine ⟨by simp,by rw [QlT],t+1,Nat.le_succ t,by simp [h3]⟩
theorem Qyv (hT:Qk P tab) {T:Nat} (ho:o[k]?=some (some (.arr w T [.int .i64 at_]))) (hb:base≤o.length) (l:List (List UInt8 × Int)) (hl:l.length≤1000) :
 C P G base Xa [QU l,.fn (.func XT) [] [.ptr k w 0]] ⟨t,o⟩ fun v σ=>v=.bool (decide (at_∈l.map (·.2)))∧∃ t',t≤t'∧σ=⟨t',o⟩:=by
 have hI:=Qrz (P:=P) (G:=G) hT (base:=base) (t:=t) (o:=o) (f:=.fn (.func XT) [] [.ptr k w 0]) (p:=fun i=>match l[i]? with | some s=>decide (s.2=at_) | none=>false) (l:=l) (tg:=false)
  (fun _ σ=>∃ t',t≤t'∧σ=⟨t',o⟩) (fun σ=>∃ t',t≤t'∧σ=⟨t',o⟩) (by omega) (fun i s hs σ hI=>?_) ⟨t,lR _,rfl⟩
 ·refine Qt hT QP (by simp [Qo]) (Qn 1000 ?_)
  simp -implicitDefEqProofs (disch:=omega) only [go_sem,↓reduceIte,reduceCtorEq,rq,QU]
  refine call hT Xk hI 1000 fun v σ hv=>?_
  rcases hv with ⟨i,hlt,_,hpi,rfl,t',ht,rfl⟩ | ⟨hno,rfl,t',ht,rfl⟩
  ·simp -implicitDefEqProofs (disch:=omega) only [go_sem,↓reduceIte,reduceCtorEq,rq]
   refine ⟨?_,t',ht,rfl⟩
   obtain ⟨s,hs⟩:∃ s,l[i]?=some s:=⟨_,List.getElem?_eq_getElem hlt⟩
   simp only [hs,decide_eq_true_eq] at hpi
   have hm:at_∈l.map (·.2):=List.mem_map.2 ⟨s,List.mem_of_getElem? hs,hpi⟩
   rw [decide_eq_true hm,decide_eq_true (by omega)]
  ·simp -implicitDefEqProofs (disch:=omega) only [go_sem,↓reduceIte,reduceCtorEq,rq,Int.reduceLE]
   refine ⟨?_,t',ht,rfl⟩
   have hm:at_ ∉ l.map (·.2):=fun h=>by
    obtain ⟨s,hs,e⟩:=List.mem_map.1 h
    obtain ⟨j,hj,e2⟩:=List.mem_iff_getElem.1 hs
    have:=hno j hj
    rw [List.getElem?_eq_getElem hj,e2] at this
    simp [e] at this
   rw [decide_eq_false hm]
 ·obtain ⟨t1,ht1,rfl⟩:=hI
  refine CV.of hT Qam ((Qsk (P:=P) (G:=G) hT ho hb s).conseq fun v σ hv=>?_)
  obtain ⟨rfl,t2,ht2,rfl⟩:=hv
  simp only [hs]
  exact ⟨trivial,fun _=>⟨t2,by omega,rfl⟩,fun _=>⟨t2,by omega,rfl⟩⟩
theorem Qyr (hT:Qk P tab) {m:Im} {nm:List UInt8} {pl F:Int} {c:List In} {vr i:Nat} {X1 X2 X4 X6 X7:Option Ob} {x:In} (hx:c[i]?=some x) (hl:c.length≤1000000) (hs:m.syms.length≤1000) (hb:-1099511627776≤x.imm∧x.imm≤1099511627776) (hpl:0≤pl∧pl≤1099511627776) :
 C P G 0 Zl [.ptr 3 vr 0,.int .i64 (i:Int)] ⟨t,rdH m nm pl c F vr X1 X2 X4 X6 X7⟩ fun v σ=>v=.bool (XN (ats m) pl c F i x)∧∃ t',t≤t'∧σ=⟨t',rdH m nm pl c F vr X1 X2 X4 X6 X7⟩:=by
 have hD:=Xo hx
 simp only [inC] at hD
 have hlt:=(List.getElem?_eq_some_iff.1 hx).1
 have hJm:=Qqj (P:=P) (G:=G) hT x
 have h4:=QrP (n:=x.imm) (by omega)
 have w1:IntKind.i64.wrap (x.imm.tdiv 4)=x.imm.tdiv 4:=XA (by omega)
 have w2:IntKind.i64.wrap ((i:Int)+x.imm.tdiv 4)=tgt x i:=by rw [XA (by omega)]; rfl
 have w3:IntKind.i64.wrap (4 * (i:Int))=4 * (i:Int):=XA (by omega)
 have w4:IntKind.i64.wrap (pl+4 * (i:Int))=pl+4 * (i:Int):=XA (by omega)
 have w5:IntKind.i64.wrap (pl+4 * (i:Int)+x.imm)=pl+4 * (i:Int)+x.imm:=XA (by omega)
 simp only [inC] at hJm
 have hto:XN (ats m) pl c F i x=if Yh x then decide (x.imm.tmod 4=0)&&(decide (0<tgt x i)&&(decide (tgt x i<c.length)&&!(decide (0<F)&&ret c F (tgt x i)))) else if x.op=3 then decide (x.rd=1)&&decide (pl+4 * i+x.imm∈ats m) else true:=rfl
 refine Qp 8 (zL _) (Qt hT Qa0 (by simp [X9]) (Qn 22 ?_))
 simp -implicitDefEqProofs (disch:=omega) only [go_sem,↓reduceIte,reduceCtorEq,rA,rq,rL,rdH,rdC,Q9,QU,QF,inC,V.cells,lM,false_implies,true_implies,and_true,cA,nA,hlt,hD]
 iterate 1 (try (refine Qa 4 ?_; simp -implicitDefEqProofs (disch:=omega) only [go_sem,↓reduceIte,reduceCtorEq,rq]))
 refine Qf hT Y5 hJm rfl 4 ?_
 cases hj:Yh x with
 | false =>
   simp -implicitDefEqProofs (disch:=omega) only [go_sem,↓reduceIte,reduceCtorEq,rq]
   by_cases h3:x.op=3
   ·have h3':(x.op==3)=true:=by simp [h3]
    by_cases h1:x.rd=1
    ·have h1':(x.rd==1)=true:=by simp [h1]
     iterate 9 (try (refine Qa 4 ?_; simp -implicitDefEqProofs (disch:=omega) only [go_sem,↓reduceIte,reduceCtorEq,rA,rq,rL,V.cells,true_implies,and_true,cA,nA,h3',h1',w3,w4,w5]))
     have hS:=fun T3=>Qyv (P:=P) (G:=G) hT (base:=0) (t:=t+1+1) (w:=t+1) (T:=2) (k:=9) (o:=[none,X1,X2,some (.arr vr 107 (rdC m nm pl c F)),X4,none,X6,X7,T3,some (.arr (t+1) 2 [.int .i64 (pl+4 * (i:Int)+x.imm)])]) (at_:=pl+4 * (i:Int)+x.imm) rfl (zL _) m.syms hs
     simp only [rdC,Q9,QU,QF,inC] at hS
     refine call hT QP (hS _) 4 fun v σ hv=>?_
     obtain ⟨rfl,t2,ht2,rfl⟩:=hv
     simp -implicitDefEqProofs (disch:=omega) only [go_sem,↓reduceIte,reduceCtorEq,rq]
     iterate 4 (try (refine Qa 4 ?_; simp -implicitDefEqProofs (disch:=omega) only [go_sem,↓reduceIte,reduceCtorEq,rA,rq,rL,true_and,and_true]))
     exact ⟨by rw [hto,hj]; simp [h1,h3,ats]; congr,t2,by omega,rfl⟩
    ·have h1':(x.rd==1)=false:=by simp [h1]
     iterate 12 (try (refine Qa 4 ?_; simp -implicitDefEqProofs (disch:=omega) only [go_sem,↓reduceIte,reduceCtorEq,rA,rq,rL,V.cells,true_implies,true_and,and_true,cA,nA,h3',h1',w3,w4,w5]))
     exact ⟨by rw [hto,hj]; simp [h1,h3],t+1+1,by omega,rfl⟩
   ·have h3':(x.op==3)=false:=by simp [h3]
    iterate 6 (try (refine Qa 4 ?_; simp -implicitDefEqProofs (disch:=omega) only [go_sem,↓reduceIte,reduceCtorEq,rA,rq,rL,true_implies,true_and,and_true,h3']))
    exact ⟨by rw [hto,hj]; simp [h3],t+1,by omega,rfl⟩
 | true =>
   simp -implicitDefEqProofs (disch:=omega) only [go_sem,↓reduceIte,reduceCtorEq,rq]
   have hR:=fun h=>Qrg (P:=P) (G:=G) hT nm pl F c (tgt x i) hl h
   have hn:=QvP (nm:=nm) (pl:=pl) (c:=c) (F:=F) (i:=tgt x i)
   simp only [fnN,Q9,inC] at hR hn
   by_cases g1:x.imm.tmod 4=0
   ·have g1':(x.imm.tmod 4==0)=true:=by simp [g1]
    by_cases g2:0<tgt x i
    ·have g2':decide (0<tgt x i)=true:=decide_eq_true g2
     by_cases g3:tgt x i<c.length
     ·have g3':decide (tgt x i<(c.length:Int))=true:=decide_eq_true g3
      by_cases g4:0<F
      ·have g4':decide (0<F)=true:=decide_eq_true g4
       iterate 12 (try (refine Qa 4 ?_; simp -implicitDefEqProofs (disch:=omega) only [go_sem,↓reduceIte,reduceCtorEq,rA,rq,rL,Int.reduceEq,lM,false_implies,true_implies,and_true,not_false_eq_true,w1,w2,g1',g2,g3,g4]))
       refine Qf hT QJ (hR (by omega)) hn 4 ?_
       simp -implicitDefEqProofs (disch:=omega) only [go_sem,↓reduceIte,reduceCtorEq,rA,rq]
       iterate 4 (try (refine Qa 4 ?_; simp -implicitDefEqProofs (disch:=omega) only [go_sem,↓reduceIte,reduceCtorEq,rA,rq,rL,true_and,and_true]))
       exact ⟨by rw [hto,hj]; simp [g1,g2,g3,g4],t+1,by omega,rfl⟩
      ·have g4':decide (0<F)=false:=decide_eq_false g4
       iterate 14 (try (refine Qa 4 ?_; simp -implicitDefEqProofs (disch:=omega) only [go_sem,↓reduceIte,reduceCtorEq,rA,rq,rL,Int.reduceEq,lM,true_implies,true_and,and_true,not_false_eq_true,w1,w2,g1',g2,g3,g4]))
       exact ⟨by rw [hto,hj]; simp [g1,g2,g3,g4],t+1,by omega,rfl⟩
     ·have g3':decide (tgt x i<(c.length:Int))=false:=decide_eq_false g3
      iterate 14 (try (refine Qa 4 ?_; simp -implicitDefEqProofs (disch:=omega) only [go_sem,↓reduceIte,reduceCtorEq,rA,rq,rL,Int.reduceEq,lM,true_implies,true_and,and_true,not_false_eq_true,w1,w2,g1',g2,g3]))
      exact ⟨by rw [hto,hj]; simp [g1,g2,g3],t+1,by omega,rfl⟩
    ·have g2':decide (0<tgt x i)=false:=decide_eq_false g2
     iterate 14 (try (refine Qa 4 ?_; simp -implicitDefEqProofs (disch:=omega) only [go_sem,↓reduceIte,reduceCtorEq,rA,rq,rL,Int.reduceEq,true_implies,true_and,and_true,not_false_eq_true,w1,w2,g1',g2]))
     exact ⟨by rw [hto,hj]; simp [g1,g2],t+1,by omega,rfl⟩
   ·have g1':(x.imm.tmod 4==0)=false:=by simp [g1]
    iterate 14 (try (refine Qa 4 ?_; simp -implicitDefEqProofs (disch:=omega) only [go_sem,↓reduceIte,reduceCtorEq,rA,rq,rL,Int.reduceEq,true_implies,true_and,and_true,not_false_eq_true,w1,w2,g1']))
    exact ⟨by rw [hto,hj]; simp [g1],t+1,by omega,rfl⟩
end
end Go.Proofs.YtaidbdgndljaeaaGreatDoor
