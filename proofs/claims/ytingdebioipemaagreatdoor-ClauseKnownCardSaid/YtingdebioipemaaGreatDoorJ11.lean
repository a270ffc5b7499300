/- Contracts: the document's side of clauses: Clean. -/
import Derived.Test.YtingdebioipemaaGreatDoorJ3
import Derived.Test.YtingdebioipemaaGreatDoorJ10
import Derived.Test.YtingdebioipemaaGreatDoorJ4
import Derived.Test.YtingdebioipemaaGreatDoorJ2
open Nat renaming reduceEqDiff → rq, reduceAdd → rA, reduceLeDiff → rL, reduceLT → rT, zero_add → zA, le_refl → lR, zero_le → zL, add_zero → aZ
open List renaming length_cons → lC, length_nil → lN, take_succ_cons → tS, length_append → lAq, nil_append → nAq, cons_append → cAq, append_assoc → aA, take_nil → tN, take_zero → tZ, length_map → lM
open Bool renaming not_false → nFq, not_true → nT
namespace Go.Proofs.YtingdebioipemaaGreatDoor
open Go Go.Am Go.Cl
set_option maxRecDepth 100000
variable {P:Program} {G:Nat→Option V}
section
attribute [local go_sem] nFq nT aZ lR Nat.mul_one Nat.one_mul Nat.succ_ne_zero zA zL Nat.zero_mul Option.getD_none Option.getD_some Option.isSome_none Option.isSome_some beq_self_eq_true bne_self_eq_false decide_false decide_true ge_iff_le gt_iff_lt Qt XE zqt_0 zqt_1 Qnc Qnb Qpl Qu6 zqt_2 Qzu Qzt Qzs Qzr Qzq Qzp QtD
variable {σ:H} {fr:Fr} {n:Int} {i:Nat} {c:List Int}
theorem Qr3 (hT:Qn P tab) {t tw:Nat} {z:Nat} {l:List Int} (hl:Srt l) (hn:∀ s∈l,av s≠av n) (hb:∀ s∈n::l,-9223372036854775808<s∧s≤9223372036854775807) (hz:l.length=z) (hlen:z≤1000000) {m:Nat} (hJ:rdnJ t tw c i z n l m fr σ) :
 W P G 76 0 (.seq (zg QtD [43,44,45,46,47,48,49,50,51,52,53,54,55] (zw 56 .skip (.exit 2))) (.seq (.block 3 (.reg Qnc [59,60,61,62,63,64,65,66,67,68,69,70,71,72,73,74])) (.reg Qnb [57,58]))) fr σ (ZB (fun fr σ=>∃ m' fr' σ',m'<m∧Shift G 76 0 fr σ fr' σ'∧rdnJ t tw c i z n l m' fr' σ') (rdnE t tw c i z n l)):=by
 obtain ⟨Q,S,hq,hQS,hS,f0,f4,f5,f6,rfl⟩:=hJ
 rcases List.eq_nil_or_concat Q with rfl | ⟨Q,p,rfl⟩
 ·rw [lN] at hq
  subst hq
  refine Qh [(0,.lst 1 (ints c) false),(4,.sl 0 tw 0 1 (z+1) none),(5,.int .i64 ((i:Nat):Int)),(6,.int .i64 0)] ⟨f0,f4,f5,f6,trivial⟩  14 ?_
  simp -implicitDefEqProofs (disch:=omega) only [go_sem,↓reduceIte,reduceCtorEq,rq,Int.lt_irrefl]
  iterate 9 (try (refine Qc 2 ?_; simp -implicitDefEqProofs (disch:=omega) only [go_sem,↓reduceIte,reduceCtorEq,rq]))
  iterate 4 (try (refine Qc 4 ?_; simp -implicitDefEqProofs (disch:=omega) only [go_sem,↓reduceIte,reduceCtorEq,rA,rq,rL,rT,Nat.reduceSub,Nat.reduceMul,Int.reduceToNat,Int.reduceLE,Int.reduceLT,Int.reduceEq,Int.reduceNe,Nat.reduceBEq,Nat.reduceBNe,lM,Qe,false_implies,true_implies,true_and,and_true,not_true_eq_false,not_false_eq_true,lAq,lC]))
  exact ⟨rfl,[],S,hQS,QjP (P:=[]) (hQS▸hl) hS (by simp),rfl,rfl,rfl,rfl⟩
 ·rw [List.concat_eq_append] at *
  rw [lAq,List.length_singleton] at hq
  rw [aA] at hQS
  have hQz:Q.length+S.length+1=z:=by rw [← hz,← hQS]; simp; omega
  subst hq
  have w1:=Qz7 (q:=Q.length) (by omega)
  have w2:(0:Int)<((Q.length+1:Nat):Int):=by omega
  have w2':decide ((0:Int)<((Q.length+1:Nat):Int))=true:=by simp
  have g1:=Qsz (Q:=Q) (S:=n::S) (n:=p)
  have g2:=QnX (Q:=Q) (S:=S) (p:=p) (n:=n)
  have g3:=Qk4 (Q:=Q) (S:=S) (p:=p) (n:=n) (q:=p)
  have g4:=QjS (Q:=Q) (S:=p::S) (p:=n) (n:=p)
  have hp:p∈l:=by rw [← hQS]; simp
  have hB:=Qoj (P:=P) (G:=G) hT n p (hb n (by simp)) (hb p (by simp [hp]))
  have e1:Q++[p]++n::S=Q++p::n::S:=by simp
  by_cases hlt:av n<av p
  ·have hlt':decide (av n<av p)=true:=by simpa using hlt
   rw [hlt'] at hB
   rw [e1]
   refine Qh [(0,.lst 1 (ints c) false),(4,.sl 0 tw 0 1 (z+1) none),(5,.int .i64 ((i:Nat):Int)),(6,.int .i64 ((Q.length+1:Nat):Int))] ⟨f0,f4,f5,f6,trivial⟩  14 ?_
   simp -implicitDefEqProofs (disch:=omega) only [go_sem,↓reduceIte,reduceCtorEq,rA,rq,Qe,true_implies,true_and,and_true,lAq,lC,w1,w2,g2]
   iterate 4 (try (refine Qc 2 ?_; simp -implicitDefEqProofs (disch:=omega) only [go_sem,↓reduceIte,reduceCtorEq,rA,rq,Qe,true_implies,true_and,and_true,lAq,lC,g1]))
   refine Qj hT Xf hB rfl 4 ?_
   simp -implicitDefEqProofs (disch:=omega) only [go_sem,↓reduceIte,reduceCtorEq,rq]
   iterate 9 (try (refine Qc 4 ?_; simp -implicitDefEqProofs (disch:=omega) only [go_sem,↓reduceIte,reduceCtorEq,rq,Qe,true_implies,true_and,and_true,lAq,lC,w1,g1,g2,g3,g4]))
   refine ⟨Q.length,_,_,by omega,Shift.refl _ _ _ _,Q,p::S,rfl,by rw [← hQS]; simp,fun s hs=>?_,?_⟩
   ·rcases List.mem_cons.1 hs with rfl | hs
    ·exact hlt
    ·exact hS s hs
   ·simp -implicitDefEqProofs (disch:=omega) only [go_sem,↓reduceIte,reduceCtorEq,rq,and_true]
  ·have hlt':decide (av n<av p)=false:=by simpa using hlt
   rw [hlt'] at hB
   rw [e1]
   have hsr:Srt (Q++p::n::S):=by
    have:=QjP (P:=Q++[p]) (S:=S) (n:=n) (by rw [← hQS] at hl; simpa using hl) hS (fun q hq=>by
     simp at hq; subst hq
     have:=hn p hp; omega)
    rwa [e1] at this
   refine Qh [(0,.lst 1 (ints c) false),(4,.sl 0 tw 0 1 (z+1) none),(5,.int .i64 ((i:Nat):Int)),(6,.int .i64 ((Q.length+1:Nat):Int))] ⟨f0,f4,f5,f6,trivial⟩  14 ?_
   simp -implicitDefEqProofs (disch:=omega) only [go_sem,↓reduceIte,reduceCtorEq,rA,rq,Qe,true_implies,true_and,and_true,lAq,lC,w1,w2,g2]
   iterate 4 (try (refine Qc 2 ?_; simp -implicitDefEqProofs (disch:=omega) only [go_sem,↓reduceIte,reduceCtorEq,rA,rq,Qe,true_implies,true_and,and_true,lAq,lC,g1]))
   refine Qj hT Xf hB rfl 4 ?_
   simp -implicitDefEqProofs (disch:=omega) only [go_sem,↓reduceIte,reduceCtorEq,rq]
   iterate 9 (try (refine Qc 4 ?_; simp -implicitDefEqProofs (disch:=omega) only [go_sem]))
   exact ⟨rfl,Q++[p],S,by rw [← hQS]; simp,by rw [e1]; exact hsr,rfl,rfl,rfl,by rw [e1]⟩
abbrev rcnJ (c:List Int):Nat→Fr→H→Prop:=fun i fr σ=>∃ out t tw,Srt out∧(∀ x,x∈out↔x∈c.take i)∧(∀ x∈c.take i,x≠0∧neg x ∉ c)∧Qi fr 0=.lst 1 (ints c) false∧Qi fr 4=.sl 0 tw 0 1 out.length none∧Qi fr 5=.int .i64 ((i:Nat):Int)∧σ=⟨t,[some (.arr tw 3 (ints out))]⟩
abbrev rcnE (c:List Int):AE→Fr→H→Prop:=fun e fr σ=>(e=.ret∧bad c=true∧Qi fr 2=.lst 0 [] true∧Qi fr 3=.bool false)∨(e=.ex 0∧bad c=false∧∃ t tw,Qi fr 4=.sl 0 tw 0 1 (canon c).length none∧σ=⟨t,[some (.arr tw 3 (ints (canon c)))]⟩)
theorem Qze (h:n∈c) (k:n=0∨neg n∈c):bad c=true:=Qik.2 ⟨n,h,k⟩
theorem Qr4 (hT:Qn P tab) (hb:∀ n∈c,-9223372036854775808≤n∧n≤9223372036854775807) (hl:c.length≤1000000) (ha:c[i]?=some n) (hJ:rcnJ c i fr σ) :
 W P G 76 0 (.seq (zg Qzu [7,8,9] (zw 10 .skip (.exit 0))) (.seq (.block 1 (.seq (zg Qzt [13,14,15,16,17,18,19,20,21,22,23,24,25] (zw 26 (zg Qzs [] .ret) .skip)) (.seq (zg Qzr [27,28,29,30,31] (zw 32 (.exit 1) .skip)) (zg Qzq [33,34,35,36,37,38,39] (zg Qzp [40,41,42] (.block 2 (.loop (.seq (zg QtD [43,44,45,46,47,48,49,50,51,52,53,54,55] (zw 56 .skip (.exit 2))) (.seq (.block 3 (.reg Qnc [59,60,61,62,63,64,65,66,67,68,69,70,71,72,73,74])) (.reg Qnb [57,58])))))))))) (.reg Qpl [11,12]))) fr σ (ZB (fun fr σ=>∃ fr' σ',Shift G 76 0 fr σ fr' σ'∧rcnJ c (i+1) fr' σ') (rcnE c)):=by
 obtain ⟨out,t,tw,hs,hm,hno,f0,f4,f5,rfl⟩:=hJ
 obtain ⟨hlt,hD,e2⟩:=Qas ha (by omega)
 have hnm:=List.mem_of_getElem? ha
 have hts:=Qp ha
 have hol:out.length≤1000000:=by
  have:=QhO (QrM hs) (m:=c) fun x hx=>List.mem_of_mem_take ((hm x).1 hx)
  omega
 have hneg:=QgY (hb n hnm)
 by_cases h0:n=0
 ·have h0':(n==0)=true:=by simp [h0]
  have hbad:=Qze hnm (.inl h0)
  refine Qh [(0,.lst 1 (ints c) false),(4,.sl 0 tw 0 1 out.length none),(5,.int .i64 ((i:Nat):Int))] ⟨f0,f4,f5,trivial⟩  14 ?_
  simp -implicitDefEqProofs (disch:=omega) only [go_sem,↓reduceIte,reduceCtorEq,rq,Qe,hlt]
  iterate 9 (try (refine Qc 4 ?_; simp -implicitDefEqProofs (disch:=omega) only [go_sem,↓reduceIte,reduceCtorEq,rq,Qe,true_implies,and_true,lC,hlt,hD,h0]))
  exact .inl ⟨rfl,hbad,rfl,rfl⟩
 have h0':(n==0)=false:=by simpa using h0
 have hH:=QiQ (P:=P) (G:=G) hT c (neg n) (by omega)
 have hH2:=QiQ (P:=P) (G:=G) hT out n (by omega)
 simp only [row] at hH hH2
 by_cases h1:neg n∈c
 ·have h1':decide (neg n∈c)=true:=by simpa using h1
  have hbad:=Qze hnm (.inr h1)
  rw [h1'] at hH
  refine Qh [(0,.lst 1 (ints c) false),(4,.sl 0 tw 0 1 out.length none),(5,.int .i64 ((i:Nat):Int))] ⟨f0,f4,f5,trivial⟩  14 ?_
  simp -implicitDefEqProofs (disch:=omega) only [go_sem,↓reduceIte,reduceCtorEq,rq,Qe,hlt]
  iterate 9 (try (refine Qc 2 ?_; simp -implicitDefEqProofs (disch:=omega) only [go_sem,↓reduceIte,reduceCtorEq,rA,rq,Qe,true_implies,and_true,lC,h0',hneg,hlt,hD]))
  refine Qj hT Qk hH (by simp [Qb,Qd]) 4 ?_
  simp -implicitDefEqProofs (disch:=omega) only [go_sem,↓reduceIte,reduceCtorEq,rq]
  iterate 9 (try (refine Qc 4 ?_; simp -implicitDefEqProofs (disch:=omega) only [go_sem,↓reduceIte,reduceCtorEq,rq]))
  exact .inl ⟨rfl,hbad,rfl,rfl⟩
 have h1':decide (neg n∈c)=false:=by simpa using h1
 rw [h1'] at hH
 have hno2:∀ x∈c.take (i+1),x≠0∧neg x ∉ c:=fun x hx=>by
  rw [hts,List.mem_append] at hx
  rcases hx with hx | hx
  ·exact hno x hx
  ·simp at hx; subst hx; exact ⟨h0,h1⟩
 by_cases h2:n∈out
 ·have h2':decide (n∈out)=true:=by simpa using h2
  rw [h2'] at hH2
  have hm2:∀ x,x∈out↔x∈c.take (i+1):=fun x=>by
   rw [hts,List.mem_append,← hm x]
   simp only [List.mem_singleton]
   exact ⟨.inl,fun h=>h.elim id fun e=>e▸h2⟩
  refine Qh [(0,.lst 1 (ints c) false),(4,.sl 0 tw 0 1 out.length none),(5,.int .i64 ((i:Nat):Int))] ⟨f0,f4,f5,trivial⟩  14 ?_
  simp -implicitDefEqProofs (disch:=omega) only [go_sem,↓reduceIte,reduceCtorEq,rq,Qe,hlt]
  iterate 9 (try (refine Qc 2 ?_; simp -implicitDefEqProofs (disch:=omega) only [go_sem,↓reduceIte,reduceCtorEq,rA,rq,Qe,true_implies,and_true,lC,h0',hneg,hlt,hD]))
  refine Qj hT Qk hH (by simp [Qb,Qd]) 4 ?_
  simp -implicitDefEqProofs (disch:=omega) only [go_sem,↓reduceIte,reduceCtorEq,rq]
  iterate 5 (try (refine Qc 4 ?_; simp -implicitDefEqProofs (disch:=omega) only [go_sem,↓reduceIte,reduceCtorEq,rq,Qe,true_implies,and_true,lC,hlt,hD]))
  refine Y8 hT Qk hH2 (.cons _ _ _ _ (seen_ints rfl) (.cons _ _ _ _ (.same _ rfl) .nil)) rfl 1000 ?_
  simp -implicitDefEqProofs (disch:=omega) only [go_sem,↓reduceIte,reduceCtorEq,rq]
  refine ⟨_,_,Shift.refl _ _ _ _,out,t,tw,hs,hm2,hno2,?_⟩
  simp -implicitDefEqProofs (disch:=omega) only [go_sem,↓reduceIte,reduceCtorEq,rq,and_true,e2]
 ·have h2':decide (n∈out)=false:=by simpa using h2
  rw [h2'] at hH2
  have w1:=Qz7 (q:=out.length) hol
  have hap:ints out++[V.int .i64 n]=ints (out++[n]):=by simp [ints]
  have hne:∀ s∈out,av s≠av n:=fun s hs' e=>by
   obtain ⟨hs0,hs1⟩:=hno s ((hm s).1 hs')
   have hsc:s∈c:=List.mem_of_mem_take ((hm s).1 hs')
   have hsm:s≠mn:=fun e'=>hs1 (by subst e'; exact hsc)
   by_cases e2:s=n
   ·exact h2 (e2▸hs')
   ·have:n=-s:=by unfold av at e; split at e <;> split at e <;> omega
    rw [QhP hsm,← this] at hs1
    exact hs1 hnm
  have hbn:∀ s∈n::out,-9223372036854775808<s∧s≤9223372036854775807:=fun s hs'=>by
   have hk:s∈c∧neg s ∉ c:=by
    rcases List.mem_cons.1 hs' with rfl | hs'
    ·exact ⟨hnm,h1⟩
    ·exact ⟨List.mem_of_mem_take ((hm s).1 hs'),(hno s ((hm s).1 hs')).2⟩
   have hsm:s≠mn:=fun e'=>hk.2 (by subst e'; exact hk.1)
   have:=hb s hk.1
   unfold mn at hsm
   omega
  refine Qh [(0,.lst 1 (ints c) false),(4,.sl 0 tw 0 1 out.length none),(5,.int .i64 ((i:Nat):Int))] ⟨f0,f4,f5,trivial⟩  14 ?_
  simp -implicitDefEqProofs (disch:=omega) only [go_sem,↓reduceIte,reduceCtorEq,rq,Qe,hlt]
  iterate 9 (try (refine Qc 2 ?_; simp -implicitDefEqProofs (disch:=omega) only [go_sem,↓reduceIte,reduceCtorEq,rA,rq,Qe,true_implies,and_true,lC,h0',hneg,hlt,hD]))
  refine Qj hT Qk hH (by simp [Qb,Qd]) 4 ?_
  simp -implicitDefEqProofs (disch:=omega) only [go_sem,↓reduceIte,reduceCtorEq,rq]
  iterate 5 (try (refine Qc 4 ?_; simp -implicitDefEqProofs (disch:=omega) only [go_sem,↓reduceIte,reduceCtorEq,rq,Qe,true_implies,and_true,lC,hlt,hD]))
  refine Y8 hT Qk hH2 (.cons _ _ _ _ (seen_ints rfl) (.cons _ _ _ _ (.same _ rfl) .nil)) rfl 1000 ?_
  simp -implicitDefEqProofs (disch:=omega) only [go_sem,↓reduceIte,reduceCtorEq,rq,rL,Qe,true_implies,true_and,and_true,lC,hlt,hD,w1]
  refine QX (rdnJ (t+1) t c i out.length n out) (rdnE (t+1) t c i out.length n out) (m0:=out.length) ⟨out,[],rfl,by simp,by simp,?_⟩ (fun m fr σ hJ=>Qr3 hT hs hne hbn rfl hol hJ) (fun e fr σ hE=>?_)
  ·rw [← hap]
   simp -implicitDefEqProofs (disch:=omega) only [go_sem,↓reduceIte,reduceCtorEq,rq,and_true]
  ·obtain ⟨rfl,Q,S,hQS,hsr,f0,f4,f5,rfl⟩:=hE
   subst hQS
   have hm2:∀ x,x∈Q++n::S↔x∈c.take (i+1):=fun x=>by
    rw [hts,List.mem_append (s:=c.take i),← hm x,Qsl]
    simp only [List.mem_singleton]
   refine Qc 1000 ?_
   simp -implicitDefEqProofs (disch:=omega) only [go_sem,↓reduceIte,f5]
   refine ⟨_,_,Shift.refl _ _ _ _,Q++n::S,t+1,t,hsr,hm2,hno2,?_⟩
   simp -implicitDefEqProofs (disch:=omega) only [go_sem,↓reduceIte,reduceCtorEq,rq,and_true,lAq,lC,f0,f4,e2,Nat.add_assoc]
set_option maxHeartbeats 1000000 in
theorem Qog (hT:Qn P tab) (c:List Int) (hb:∀ n∈c,-9223372036854775808≤n∧n≤9223372036854775807) (hl:c.length≤1000000):Pure P G ZM [row c] fun u=>u=.tup [row (XM c).1,.bool (XM c).2]:=by
 refine Qku (fun t=>?_) (by simp [Qd,Qb,Qbr])
 simp only [row]
 refine QM hT Yz (by simp [XE]) (Qx 1000 ?_)
 simp -implicitDefEqProofs (disch:=omega) only [go_sem,↓reduceIte,reduceCtorEq,rq]
 refine Xk (Shift.own (s:=4) (z:=0) (sz:=1) (T:=3) (by simp -implicitDefEqProofs (disch:=omega) only [go_sem,↓reduceIte,reduceCtorEq,rq]) (by decide)) ?_
 simp -implicitDefEqProofs (disch:=omega) only [go_sem,↓reduceIte,reduceCtorEq,rq,H.push,lN,nAq]
 refine XZ c (rcnJ c) (rcnE c) ⟨[],t+1,t,.nil,by simp,by simp,?_⟩ (fun i n ha fr σ hJ=>Qr4 hT hb hl ha hJ) (fun i hi fr σ hJ=>?_) (fun e fr σ hE=>?_)
 ·simp -implicitDefEqProofs (disch:=omega) only [go_sem,↓reduceIte,reduceCtorEq,rq,true_and]
  simp [ints]
 ·obtain ⟨out,t,tw,hs,hm,hno,f0,f4,f5,rfl⟩:=hJ
  rw [hi,List.take_length] at hm hno
  have hbad:bad c=false:=by
   rw [Bool.eq_false_iff,ne_eq,Qik]
   rintro ⟨n,hn,h⟩
   exact h.elim (hno n hn).1 (hno n hn).2
  have ho:=Qod hbad hs hm
  refine Qh [(0,.lst 1 (ints c) false),(4,.sl 0 tw 0 1 out.length none),(5,.int .i64 ((i:Nat):Int))] ⟨f0,f4,f5,trivial⟩  1000 ?_
  simp -implicitDefEqProofs (disch:=omega) only [go_sem,↓reduceIte,reduceCtorEq,rq,Qe,hi,Nat.lt_irrefl]
  exact .inr ⟨rfl,hbad,t,tw,by rw [ho]; rfl,by rw [ho]⟩
 ·rcases hE with ⟨rfl,hbad,f2,f3⟩ | ⟨rfl,hbad,t,tw,f4,rfl⟩
  ·refine Qc 1000 ?_
   have hcs:XM c=([],false):=by rw [XM,if_pos hbad]
   simp -implicitDefEqProofs (disch:=omega) only [go_sem,true_and,f2,f3,hcs]
   exact .inl (.tup _ _ (.cons _ _ _ _ (QrA _) (.cons _ _ _ _ (.refl _) .nil)))
  ·refine Qc 1000 ?_
   have hcs:XM c=(canon c,true):=by rw [XM,if_neg (by simp [hbad])]
   simp -implicitDefEqProofs (disch:=omega) only [go_sem,↓reduceIte,rq,f4,hcs]
   refine ⟨0,tw,_,ints (canon c),rfl,QQ _,?_,?_⟩
   ·simp only [X3,Qix] at *
    have:=QmD (k:=0) (w:=tw) (T:=0) (l:=canon c)
    simp only [X3] at this
    rw [this]
    simp [Qd,Qb,Qbr]
   ·have:=QmD (k:=0) (w:=tw) (T:=0) (l:=canon c)
    simp only [X3,Qix] at this ⊢
    rw [this]
    exact .refl _
end
section
attribute [local go_sem] nT lR Nat.mul_one zA and_true bne_self_eq_false decide_true false_implies Qe Qt not_false_eq_true Qna Qm9 Qm8 Qm7 QtC QtB QtA Qtz true_and true_implies
def rvA (v:Int) (a:List Int):List Int:=a.filter fun n=>decide (n≠v)
def rvO (w:Nat) (q:List Int):List (Option Ob):=[some (.arr w 3 (ints q))]
theorem QrY (v:Int) (a:List Int):(rvA v a).length≤a.length:=List.length_filter_le _ _
abbrev rv1J (a b:List Int) (v:Int):Nat→Fr→H→Prop:=fun i fr σ=>∃ t w Q,Q=rvA v (a.take i)∧Qi fr 0=.lst 1 (ints a) false∧Qi fr 1=.lst 1 (ints b) false∧Qi fr 2=.int .i64 v∧Qi fr 8=.sl 0 w 0 1 Q.length none∧Qi fr 9=.int .i64 ((i:Nat):Int)∧σ=⟨t,rvO w Q⟩
abbrev rv1E (a b:List Int) (v:Int):AE→Fr→H→Prop:=fun e fr σ=>∃ t w,e=.ex 0∧Qi fr 0=.lst 1 (ints a) false∧Qi fr 1=.lst 1 (ints b) false∧Qi fr 2=.int .i64 v∧Qi fr 8=.sl 0 w 0 1 (rvA v a).length none∧σ=⟨t,rvO w (rvA v a)⟩
abbrev rv2J (a b:List Int) (v:Int):Nat→Fr→H→Prop:=fun i fr σ=>∃ t w Q,Q=rvA v a++rvA (-v) (b.take i)∧Qi fr 0=.lst 1 (ints a) false∧Qi fr 1=.lst 1 (ints b) false∧Qi fr 2=.int .i64 v∧Qi fr 8=.sl 0 w 0 1 Q.length none∧Qi fr 10=.int .i64 ((i:Nat):Int)∧σ=⟨t,rvO w Q⟩
abbrev rv2E (a b:List Int) (v:Int):AE→Fr→H→Prop:=fun e fr σ=>∃ t w,e=.ex 2∧Qi fr 8=.sl 0 w 0 1 (rvA v a++rvA (-v) b).length none∧σ=⟨t,rvO w (rvA v a++rvA (-v) b)⟩
variable {σ:H} {fr:Fr} {i:Nat} {v n:Int} {a b:List Int}
theorem Qr0 (ha:a.length≤1000) (hn:a[i]?=some n) (hJ:rv1J a b v i fr σ) :
 W P G 80 0 (.seq (zg QtC [37,38,39] (zw 40 .skip (.exit 0))) (.seq (.block 1 (zg QtB [43,44,45,46,47] (zw 48 (.reg QtA [49,50,51,52,53,54,55]) .skip))) (.reg Qtz [41,42]))) fr σ (ZB (fun fr σ=>∃ fr' σ',Shift G 80 0 fr σ fr' σ'∧rv1J a b v (i+1) fr' σ') (rv1E a b v)):=by
 obtain ⟨t,w,Q,hQ,f0,f1,f2,f8,f9,rfl⟩:=hJ
 obtain ⟨hlt,hD,e3⟩:=Qas hn (by omega)
 have hts:=Qp hn
 have hQl:Q.length≤1000:=by
  have:=QrY v (a.take i)
  rw [hQ]; rw [List.length_take] at this; omega
 have hQ2:rvA v (a.take (i+1))=if n=v then Q else Q++[n]:=by
  rw [hts,hQ]; unfold rvA; rw [List.filter_append]
  by_cases h:n=v <;> simp [h]
 have hap:ints Q++[V.int .i64 n]=ints (Q++[n]):=by simp [ints]
 by_cases g:n=v
 ·rw [if_pos g] at hQ2
  refine Qh [(0,.lst 1 (ints a) false),(1,.lst 1 (ints b) false),(2,.int .i64 v),(8,.sl 0 w 0 1 Q.length none),(9,.int .i64 ((i:Nat):Int))] ⟨f0,f1,f2,f8,f9,trivial⟩  1000 ?_
  simp -implicitDefEqProofs (disch:=omega) only [go_sem,↓reduceIte,reduceCtorEq,rq,rvO,hlt,hD,g]
  exact ⟨_,_,Shift.refl _ _ _ _,t,w,Q,hQ2.symm,by simp -implicitDefEqProofs (disch:=omega) only [go_sem,↓reduceIte,reduceCtorEq,rq,rvO,e3]⟩
 ·rw [if_neg g] at hQ2
  refine Qh [(0,.lst 1 (ints a) false),(1,.lst 1 (ints b) false),(2,.int .i64 v),(8,.sl 0 w 0 1 Q.length none),(9,.int .i64 ((i:Nat):Int))] ⟨f0,f1,f2,f8,f9,trivial⟩  1000 ?_
  simp -implicitDefEqProofs (disch:=omega) only [go_sem,↓reduceIte,reduceCtorEq,rq,rL,rvO,hlt,hD,g]
  exact ⟨_,_,Shift.refl _ _ _ _,t+1,t,Q++[n],hQ2.symm,by simp -implicitDefEqProofs (disch:=omega) only [go_sem,↓reduceIte,reduceCtorEq,rq,rvO,e3,hap,lAq]⟩
theorem QrZ (ha:a.length≤1000) (hb:b.length≤1000) (hv:0<v∧v≤9223372036854775807) (hn:b[i]?=some n) (hJ:rv2J a b v i fr σ) :
 W P G 80 0 (.seq (zg Qna [56,57,58] (zw 59 .skip (.exit 2))) (.seq (.block 3 (zg Qm9 [62,63,64,65,66,67] (zw 68 (.reg Qm8 [69,70,71,72,73,74,75]) .skip))) (.reg Qm7 [60,61]))) fr σ (ZB (fun fr σ=>∃ fr' σ',Shift G 80 0 fr σ fr' σ'∧rv2J a b v (i+1) fr' σ') (rv2E a b v)):=by
 obtain ⟨t,w,Q,hQ,f0,f1,f2,f8,f10,rfl⟩:=hJ
 obtain ⟨hlt,hD,e3⟩:=Qas hn (by omega)
 have hts:=Qp hn
 have hneg:IntKind.i64.wrap (0 - v)=-v:=by rw [QcT (by omega)]; omega
 have hQl:Q.length≤2000:=by
  have:=QrY (-v) (b.take i)
  have h2:=QrY v a
  rw [hQ,lAq]; rw [List.length_take] at this; omega
 have hQ2:rvA v a++rvA (-v) (b.take (i+1))=if n=-v then Q else Q++[n]:=by
  rw [hts,hQ]; unfold rvA; rw [List.filter_append]
  by_cases h:n=-v <;> simp [h]
 have hap:ints Q++[V.int .i64 n]=ints (Q++[n]):=by simp [ints]
 by_cases g:n=-v
 ·rw [if_pos g] at hQ2
  refine Qh [(0,.lst 1 (ints a) false),(1,.lst 1 (ints b) false),(2,.int .i64 v),(8,.sl 0 w 0 1 Q.length none),(10,.int .i64 ((i:Nat):Int))] ⟨f0,f1,f2,f8,f10,trivial⟩  1000 ?_
  simp -implicitDefEqProofs (disch:=omega) only [go_sem,↓reduceIte,reduceCtorEq,rq,rvO,hlt,hD,hneg,g]
  exact ⟨_,_,Shift.refl _ _ _ _,t,w,Q,hQ2.symm,by simp -implicitDefEqProofs (disch:=omega) only [go_sem,↓reduceIte,reduceCtorEq,rq,rvO,e3]⟩
 ·rw [if_neg g] at hQ2
  refine Qh [(0,.lst 1 (ints a) false),(1,.lst 1 (ints b) false),(2,.int .i64 v),(8,.sl 0 w 0 1 Q.length none),(10,.int .i64 ((i:Nat):Int))] ⟨f0,f1,f2,f8,f10,trivial⟩  1000 ?_
  simp -implicitDefEqProofs (disch:=omega) only [go_sem,↓reduceIte,reduceCtorEq,rq,rL,rvO,hlt,hD,hneg,g]
  exact ⟨_,_,Shift.refl _ _ _ _,t+1,t,Q++[n],hQ2.symm,by simp -implicitDefEqProofs (disch:=omega) only [go_sem,↓reduceIte,reduceCtorEq,rq,rvO,e3,hap,lAq]⟩
end
set_option maxHeartbeats 1000000 in
section
attribute [local go_sem] nFq nT lR Nat.mul_one Nat.succ_ne_zero zA zL decide_false decide_true Xl zqu_0 zqu_1 Qna Qm9 Qm8 Qm7 Qu5 zqu_2 zqu_3 zqu_4 QtC QtB QtA Qtz zqu_9
theorem Qo2 (hT:Qn P tab) (a b:List Int) (v:Int) (ha:a.length≤1000) (hb:b.length≤1000) (ba:∀ n∈a,-9223372036854775808≤n∧n≤9223372036854775807) (bb:∀ n∈b,-9223372036854775808≤n∧n≤9223372036854775807) (hv:v≤9223372036854775807) :
 Am.Pure P G Zf [row a,row b,.int .i64 v] fun u=>u=.tup [row (Qr a b v).1,.bool (Qr a b v).2]:=by
 have hA:=fun x=>QiQ (P:=P) (G:=G) hT a x (by omega)
 have hB:=fun x=>QiQ (P:=P) (G:=G) hT b x (by omega)
 have na:∀ x:Int,Qb [V.lst 1 (ints a) false,V.int .i64 x]=true:=fun x=>by simp [Qb,Qd]
 have nb:∀ x:Int,Qb [V.lst 1 (ints b) false,V.int .i64 x]=true:=fun x=>by simp [Qb,Qd]
 simp only [row] at hA hB
 intro t
 refine QfG (Q:=fun u _=>Qd u=true∧((Qr a b v=([],false)∧u=.tup [.lst 0 [] true,.bool false])∨u=.tup [row (Qr a b v).1,.bool (Qr a b v).2])) ?_ fun u σ hu=>?_
 ·simp only [row]
  refine Xa 0 (zL _) (QM hT Zd (by simp [Xl]) (Qx 1000 ?_))
  by_cases h0:v≤0
  ·have hr:Qr a b v=([],false):=if_pos (.inl h0)
   simp -implicitDefEqProofs (disch:=omega) only [go_sem,↓reduceIte,reduceCtorEq,rA,rq,true_and,and_true,h0]
   exact .inl hr
  have hng:IntKind.i64.wrap (0 - v)=-v:=by rw [QcT (by omega)]; omega
  have k1:=hA v
  have k2:=hB (-v)
  have k3:=hA (-v)
  have k4:=hB v
  simp -implicitDefEqProofs (disch:=omega) only [go_sem,↓reduceIte,reduceCtorEq,rA,rq,h0]
  refine Qj hT Qk k1 (na v) 1000 ?_
  by_cases h1:v∈a
  rotate_left
  ·have hr:Qr a b v=([],false):=if_pos (by simp [h0,h1])
   simp -implicitDefEqProofs (disch:=omega) only [go_sem,↓reduceIte,reduceCtorEq,rA,rq,true_and,and_true,h1]
   exact .inl hr
  simp -implicitDefEqProofs (disch:=omega) only [go_sem,↓reduceIte,reduceCtorEq,rA,rq,h1,hng]
  refine Qj hT Qk k2 (nb (-v)) 1000 ?_
  by_cases h2:-v∈b
  rotate_left
  ·have hr:Qr a b v=([],false):=if_pos (by simp [h0,h1,h2])
   simp -implicitDefEqProofs (disch:=omega) only [go_sem,↓reduceIte,reduceCtorEq,rA,rq,true_and,and_true,h2]
   exact .inl hr
  simp -implicitDefEqProofs (disch:=omega) only [go_sem,↓reduceIte,reduceCtorEq,rA,rq,h2,hng]
  refine Qj hT Qk k3 (na (-v)) 1000 ?_
  by_cases h3:-v∈a
  ·have hr:Qr a b v=([],false):=if_pos (by simp [h0,h1,h2,h3])
   simp -implicitDefEqProofs (disch:=omega) only [go_sem,↓reduceIte,reduceCtorEq,rq,true_and,and_true,h3]
   exact .inl hr
  simp -implicitDefEqProofs (disch:=omega) only [go_sem,↓reduceIte,reduceCtorEq,rA,rq,h3]
  refine Qj hT Qk k4 (nb v) 1000 ?_
  by_cases h4:v∈b
  ·have hr:Qr a b v=([],false):=if_pos (by simp [h0,h1,h2,h3,h4])
   simp -implicitDefEqProofs (disch:=omega) only [go_sem,↓reduceIte,reduceCtorEq,rq,true_and,and_true,h4]
   exact .inl hr
  have hr:Qr a b v=XM ((a++b).filter fun n=>decide (n≠v∧n≠-v)):=if_neg (by simp [h0,h1,h2,h3,h4])
  simp -implicitDefEqProofs (disch:=omega) only [go_sem,↓reduceIte,reduceCtorEq,rq,h4]
  refine Xk (Shift.own (s:=8) (z:=0) (sz:=1) (T:=3) (by simp -implicitDefEqProofs (disch:=omega) only [go_sem,↓reduceIte,reduceCtorEq,rq]) (by decide)) ?_
  simp -implicitDefEqProofs (disch:=omega) only [go_sem,↓reduceIte,reduceCtorEq,rq,H.push,lN,nAq]
  refine XZ a (rv1J a b v) (rv1E a b v) ⟨t+1,t,[],by simp [rvA],?_⟩ (fun i n hn fr σ hJ=>Qr0 ha hn hJ) (fun i hi fr σ hJ=>?_) (fun e fr σ hE=>?_)
  ·simp -implicitDefEqProofs (disch:=omega) only [go_sem,↓reduceIte,reduceCtorEq,rq,true_and,rvO]
   simp [ints]
  ·obtain ⟨t,w,Q,hQ,f0,f1,f2,f8,f9,rfl⟩:=hJ
   rw [hi,List.take_length] at hQ
   subst hQ
   refine Qh [(0,.lst 1 (ints a) false),(1,.lst 1 (ints b) false),(2,.int .i64 v),(8,.sl 0 w 0 1 (rvA v a).length none),(9,.int .i64 ((i:Nat):Int))] ⟨f0,f1,f2,f8,f9,trivial⟩  1000 ?_
   simp -implicitDefEqProofs (disch:=omega) only [go_sem,↓reduceIte,reduceCtorEq,rq,Qe,rvO,hi,Nat.lt_irrefl]
   exact ⟨t,w,rfl,rfl,rfl,rfl,rfl,rfl⟩
  obtain ⟨t1,w,rfl,f0,f1,f2,f8,rfl⟩:=hE
  refine Qc 1000 ?_
  simp -implicitDefEqProofs (disch:=omega) only [go_sem,↓reduceIte]
  refine XZ b (rv2J a b v) (rv2E a b v) ⟨t1,w,rvA v a,by simp [rvA],?_⟩ (fun i n hn fr σ hJ=>QrZ ha hb ⟨by omega,hv⟩ hn hJ) (fun i hi fr σ hJ=>?_) (fun e fr σ hE=>?_)
  ·simp -implicitDefEqProofs (disch:=omega) only [go_sem,↓reduceIte,rq,true_and,and_true,f0,f1,f2,f8]
   rfl
  ·obtain ⟨t,w,Q,hQ,f0,f1,f2,f8,f10,rfl⟩:=hJ
   rw [hi,List.take_length] at hQ
   subst hQ
   refine Qh [(0,.lst 1 (ints a) false),(1,.lst 1 (ints b) false),(2,.int .i64 v),(8,.sl 0 w 0 1 (rvA v a++rvA (-v) b).length none),(10,.int .i64 ((i:Nat):Int))] ⟨f0,f1,f2,f8,f10,trivial⟩  1000 ?_
   simp -implicitDefEqProofs (disch:=omega) only [go_sem,↓reduceIte,reduceCtorEq,rq,Qe,rvO,hi,Nat.lt_irrefl]
   exact ⟨t,w,rfl,rfl,rfl⟩
  obtain ⟨t2,w,rfl,f8,rfl⟩:=hE
  have he:rvA v a++rvA (-v) b=(a++b).filter fun n=>decide (n≠v∧n≠-v):=by
   unfold rvA
   rw [List.filter_append]
   congr 1
   ·refine List.filter_congr fun n hn=>?_
    have:n≠-v:=fun e=>h3 (e▸hn)
    simp [this]
   ·refine List.filter_congr fun n hn=>?_
    have:n≠v:=fun e=>h4 (e▸hn)
    simp [this]
  rw [he] at f8
  simp only [he]
  generalize hQe:((a++b).filter fun n=>decide (n≠v∧n≠-v))=Q at f8 hr ⊢
  have hmem:∀ n∈Q,-9223372036854775808≤n∧n≤9223372036854775807:=fun n hn=>by
   rw [← hQe] at hn
   rcases List.mem_append.1 (List.mem_filter.1 hn).1 with h | h
   ·exact ba n h
   ·exact bb n h
  have hlen:Q.length≤1000000:=by
   have:=List.length_filter_le (fun n=>decide (n≠v∧n≠-v)) (a++b)
   rw [hQe,lAq] at this; omega
  have hK:=Qog (G:=G) hT _ hmem hlen
  simp only [row] at hK
  have hz:List.take Q.length (ints Q)=ints Q:=List.take_of_length_le (by simp [ints])
  refine QhK [(8,.sl 0 w 0 1 Q.length none)] ⟨f8,trivial⟩ ?_
  refine Xk (Shift.freeze (k:=0) (v:=w) (T:=3) (cs:=ints Q) (zL _) rfl (QQ _)) ?_
  simp only [Qf7,Qh3,X3,Qbc,rvO,Q5,List.set_cons_zero,Option.map_none,Qe]
  refine Qc 1000 ?_
  simp -implicitDefEqProofs (disch:=omega) only [go_sem,↓reduceIte,rq,and_true,not_false_eq_true,hz]
  refine Qcc hT Yz hK (by simp [Qb,Qd]) 1000 fun u hu=>?_
  subst hu
  rw [hr]
  simp -implicitDefEqProofs (disch:=omega) only [go_sem,↓reduceIte,rA,rq,rT,and_true]
 ·rcases hu with ⟨hn,⟨hr,rfl⟩ | rfl⟩
  ·exact ⟨.tup [row [],.bool false],.tup _ _ (.cons _ _ _ _ (.lst _ _ _ _ _ .nil (.inl rfl)) (.cons _ _ _ _ (.refl _) .nil)),rfl,by rw [hr]⟩
  ·exact ⟨_,.refl _,hn,rfl⟩
end
section
attribute [local go_sem] nFq nT lM aZ lR zA zL and_true decide_false decide_true false_implies Qt not_false_eq_true not_true_eq_false XD zqw_0 zqw_1 zqw_2 zqw_3 zqw_4 zqw_5 zqw_6 zqw_7 zqw_8 rfH true_and true_implies
theorem QuK (hT:Qn P tab) (v:Int) (F:List (List Int)) (m:List Bool) (hF:F.length≤9223372036854775807) (hc:∀ c∈F,c.length≤9223372036854775807) (hm:m.length≤9223372036854775807) :
 Pure P G ZL [fml v F,Qcf m] fun u=>u=.bool (Yn v F m):=by
 intro t
 have hR:=Qfw (P:=P) (G:=G) hT v F hF hc
 simp only [fml,rows,Qcf] at hR ⊢
 refine Xa 0 (zL _) (QM hT ZH (by simp [XD]) (Qx 1000 ?_))
 simp -implicitDefEqProofs (disch:=omega) only [go_sem,↓reduceIte,reduceCtorEq,rA,rq]
 refine Qj hT QE hR (by simp [Qb,Qd]) 6 ?_
 cases hr:right v F with
 | false =>
   have hh:Yn v F m=false:=by simp [Yn,hr]
   simp -implicitDefEqProofs (disch:=omega) only [go_sem,↓reduceIte,reduceCtorEq,rq]
   iterate 9 (try (refine Qc 4 ?_; simp -implicitDefEqProofs (disch:=omega) only [go_sem,↓reduceIte,reduceCtorEq,rq]))
   rw [hh]
 | true =>
   by_cases hv:(m.length:Int)=v
   ·have hv2:((m.length:Int)=v)=True:=eq_true hv
    have hrr:=Xh.1 hr
    simp -implicitDefEqProofs (disch:=omega) only [go_sem,↓reduceIte,reduceCtorEq,rA,rq,rL]
    iterate 9 (try (refine Qc 4 ?_; simp -implicitDefEqProofs (disch:=omega) only [go_sem,↓reduceIte,reduceCtorEq,rA,rq,hv2]))
    refine XZ F (hoJ t v F m) (hoE v F m) ⟨by simp,?_⟩ (fun i c hci fr σ hJ=>?_) (fun i hi fr σ hJ=>?_) (fun e fr σ hE=>?_)
    ·simp -implicitDefEqProofs (disch:=omega) only [go_sem,↓reduceIte,reduceCtorEq,rq]
     simp
    ·obtain ⟨hok,f1,f2,f5,rfl⟩:=hJ
     obtain ⟨hlt,hD,e2⟩:=Zz hci hF
     have hcm:=List.mem_of_getElem? hci
     have hts:=Qp hci
     have hC:=QdE (P:=P) (G:=G) hT c m (fun n hn=>by have:=hrr.2 c hcm n hn; omega) (by omega) (hc c hcm)
     simp only [row,Qcf] at hC
     refine Qh [(1,.lst 1 (m.map V.bool) false),(2,.ptr 0 t 0),(5,.int .i64 ((i:Nat):Int))] ⟨f1,f2,f5,trivial⟩  1000 ?_
     simp -implicitDefEqProofs (disch:=omega) only [go_sem,↓reduceIte,rA,rq,hlt,hD]
     refine Qj hT Qq hC (by simp [Qb,Qd]) 1000 ?_
     cases hcl:QR m c with
     | false =>
       have hh:Yn v F m=false:=by
        have:F.all (QR m)=false:=List.all_eq_false.2 ⟨c,hcm,by simp [hcl]⟩
        simp [Yn,this]
       simp -implicitDefEqProofs (disch:=omega) only [go_sem,↓reduceIte,rq]
       exact .inl ⟨rfl,rfl,hh⟩
     | true =>
       simp -implicitDefEqProofs (disch:=omega) only [go_sem,↓reduceIte,rq]
       refine ⟨_,_,Shift.refl _ _ _ _,fun d hd=>?_,?_⟩
       ·rw [hts,List.mem_append] at hd
        rcases hd with hd | hd
        ·exact hok d hd
        ·simp at hd; subst hd; exact hcl
       ·simp -implicitDefEqProofs (disch:=omega) only [go_sem,↓reduceIte,rq,e2]
    ·obtain ⟨hok,f1,f2,f5,rfl⟩:=hJ
     rw [hi,List.take_length] at hok
     have hh:Yn v F m=true:=by
      have:F.all (QR m)=true:=List.all_eq_true.2 hok
      simp [Yn,hr,hv,this]
     refine Qh [(1,.lst 1 (m.map V.bool) false),(2,.ptr 0 t 0),(5,.int .i64 ((i:Nat):Int))] ⟨f1,f2,f5,trivial⟩  1000 ?_
     simp -implicitDefEqProofs (disch:=omega) only [go_sem,↓reduceIte,rA,rq,hi,Nat.lt_irrefl]
     exact .inr ⟨rfl,hh⟩
    ·rcases hE with ⟨rfl,f4,hh⟩ | ⟨rfl,hh⟩
     ·refine Qc 1000 ?_
      simp -implicitDefEqProofs (disch:=omega) only [go_sem,f4,hh]
     ·refine Qc 1000 ?_
      simp -implicitDefEqProofs (disch:=omega) only [go_sem,↓reduceIte,hh]
   ·have hv2:((m.length:Int)=v)=False:=eq_false hv
    have hh:Yn v F m=false:=by simp [Yn,hv]
    simp -implicitDefEqProofs (disch:=omega) only [go_sem,↓reduceIte,reduceCtorEq,rA,rq,rL]
    iterate 9 (try (refine Qc 4 ?_; simp -implicitDefEqProofs (disch:=omega) only [go_sem,↓reduceIte,reduceCtorEq,rA,rq,hv2]))
    rw [hh]
end
section
attribute [local go_sem] lR Nat.succ_ne_zero zA X5 Qw8 Qw7 Xt Qwj Qwi decide_false decide_true ge_iff_le Qt QC Qwl Qwk QG QvX QvW QvV QvU QvT QvS QvR QvQ
def QjF (P:Program) (G:Nat→Option V) (base:Nat) (f:V) (o:List (Option Ob)) (p:List Int→Bool) (c:List (List Int)):Prop :=
 ∀ t n,n∈c→CV P G base f [.lst 1 (ints n) false] ⟨t,o⟩ fun v σ=>v=.bool (p n)∧∃ t',t≤t'∧σ=⟨t',o⟩
def QcR (p:List Int→Bool):List (List Int)→Nat→Int
 | [],_=>-1
 | n::c,i=>if p n then i else QcR p c (i+1)
theorem Qjp {p:List Int→Bool}:∀ {c:List (List Int)} {i:Nat},(∀ n∈c,p n=false)→QcR p c i=-1
 | [],_,_=>rfl
 | n::c,i,h=>by rw [QcR,h n (by simp),if_neg (by simp),Qjp fun m hm=>h m (by simp [hm])]
theorem Qli {p:List Int→Bool}:∀ {c:List (List Int)} {i k:Nat} {n:List Int},(∀ m∈c.take k,p m=false)→c[k]?=some n→p n=true→QcR p c i=((i+k:Nat):Int)
 | [],_,_,_,_,h,_=>by simp at h
 | m::c,i,0,n,_,h,hp=>by simp at h; subst h; simp [QcR,hp]
 | m::c,i,k+1,n,h,hk,hp=>by
   rw [QcR,h m (by simp),if_neg (by simp),Qli (k:=k) (fun m hm=>h m (by simp [hm])) (by simpa using hk) hp]
   congr 1; omega
theorem Qjq {p:List Int→Bool}:∀ {c:List (List Int)} {i:Nat},decide (0≤QcR p c i)=c.any p
 | [],_=>by simp [QcR]
 | n::c,i=>by
   unfold QcR
   cases h:p n
   ·simp [h,Qjq (c:=c)]
   ·simp [h]
variable {c:List (List Int)} {p:List Int→Bool} {f:V} {o:List (Option Ob)} {base t:Nat}
theorem QlL (hT:Qn P tab) (hp:QjF P G base f o p c) (hl:c.length≤9223372036854775807) :
 C P G base X9 [.lst 1 (c.map row) false,f] ⟨t,o⟩ fun v σ=>v=.int .i64 (QcR p c 0)∧∃ t',t≤t'∧σ=⟨t',o⟩:=by
 refine QM hT X8 (by simp [QG]) (Qx 1000 ?_)
 simp -implicitDefEqProofs (disch:=omega) only [go_sem,↓reduceIte,reduceCtorEq,rq,lM]
 refine QX (fun m fr σ=>∃ i t',i≤c.length∧m=c.length - i∧(∀ n∈c.take i,p n=false)∧t≤t'∧Qi fr 0=.lst 1 (c.map row) false∧Qi fr 1=f∧Qi fr 7=.int .i64 c.length∧Qi fr 8=.int .i64 i∧σ=⟨t',o⟩)
  (fun e fr σ=>∃ t',t≤t'∧σ=⟨t',o⟩∧((e=.ret∧Qi fr 4=.int .i64 (QcR p c 0))∨(e=.ex 0∧QcR p c 0=-1)))
  (m0:=c.length) ⟨0,t,by omega,rfl,by simp,by omega,?_⟩ (fun m fr σ hJ=>?_) (fun e fr σ hE=>?_)
 ·simp -implicitDefEqProofs (disch:=omega) only [go_sem,↓reduceIte,reduceCtorEq,rq]
  simp
 ·obtain ⟨i,t',hi,rfl,hno,ht,f0,f1,f7,f8,rfl⟩:=hJ
  refine Qx 1000 ?_
  rcases Nat.lt_or_ge i c.length with hlt | hge
  ·obtain ⟨n,hni⟩:∃ n,c[i]?=some n:=⟨_,List.getElem?_eq_getElem hlt⟩
   have hD:=(Zz hni hl).2.1
   have e2:=(Zz hni hl).2.2
   simp -implicitDefEqProofs (disch:=omega) only [go_sem,↓reduceIte,reduceCtorEq,rq,lM,f0,f1,f7,f8,hlt,hD]
   refine CV.use 1000 (hp t' n (List.mem_of_getElem? hni)) fun v σ hv=>?_
   obtain ⟨rfl,t2,ht2,rfl⟩:=hv
   cases hpn:p n with
   | true =>
     simp -implicitDefEqProofs (disch:=omega) only [go_sem,↓reduceIte,reduceCtorEq,rq]
     rw [Qli hno hni hpn]
     exact ⟨t2,by omega,rfl,by simp⟩
   | false =>
     simp -implicitDefEqProofs (disch:=omega) only [go_sem,↓reduceIte,rq,f8]
     refine ⟨c.length - (i+1),_,_,by omega,Shift.refl _ _ _ _,i+1,t2,by omega,rfl,fun m hm=>?_,by omega,?_⟩
     ·rw [Qp hni] at hm
      simp at hm
      rcases hm with hm | rfl
      ·exact hno m hm
      ·exact hpn
     ·simp -implicitDefEqProofs (disch:=omega) only [go_sem,↓reduceIte,reduceCtorEq,rq,f0,f1,f7,e2]
  ·have hi:i=c.length:=by omega
   subst hi
   simp -implicitDefEqProofs (disch:=omega) only [go_sem,↓reduceIte,reduceCtorEq,rq,f7,f8,Nat.lt_irrefl]
   rw [List.take_length] at hno
   exact ⟨t',ht,rfl,Qjp hno⟩
 ·obtain ⟨t',ht,rfl,hE⟩:=hE
  rcases hE with ⟨rfl,f4⟩ | ⟨rfl,hh⟩
  ·refine Qc 1000 ?_
   simp -implicitDefEqProofs (disch:=omega) only [go_sem,f4]
   exact ⟨t',ht,rfl⟩
  ·refine Qc 1000 ?_
   simp -implicitDefEqProofs (disch:=omega) only [go_sem,↓reduceIte,hh]
   exact ⟨t',ht,rfl⟩
theorem Qii (hT:Qn P tab) (hp:QjF P G base f o p c) (hl:c.length≤9223372036854775807) :
 C P G base X2 [.lst 1 (c.map row) false,f] ⟨t,o⟩ fun v σ=>v=.bool (c.any p)∧∃ t',t≤t'∧σ=⟨t',o⟩:=by
 refine QM hT X1 (by simp [QC]) (Qx 1000 ?_)
 simp -implicitDefEqProofs (disch:=omega) only [go_sem,↓reduceIte,reduceCtorEq,rq]
 refine call hT X8 (QlL hT hp hl) 1000 fun v σ hv=>?_
 obtain ⟨rfl,t',ht,rfl⟩:=hv
 simp -implicitDefEqProofs (disch:=omega) only [go_sem,↓reduceIte,reduceCtorEq,rq]
 rw [Qjq]
 exact ⟨rfl,t',ht,rfl⟩
theorem c_notR (hT:Qn P tab) {tb:Nat} {k T:Nat} (ho:o[k]?=some (some (.arr tb T [f]))) (hp:QjF P G base f o p c) :
 QjF P G base (.fn (.func Zr) [] [.ptr k tb 0]) o (fun n=>!p n) c:=fun t n hn=>by
 refine CV.of hT Zk (QM hT Zk (by simp [Xt]) (Qx 1000 ?_))
 simp -implicitDefEqProofs (disch:=omega) only [go_sem,↓reduceIte,reduceCtorEq,rq,ho]
 refine CV.use 1000 (hp t n hn) fun v σ hv=>?_
 obtain ⟨rfl,t',ht,rfl⟩:=hv
 simp -implicitDefEqProofs (disch:=omega) only [go_sem,↓reduceIte,reduceCtorEq,rq]
 exact ⟨t',ht,rfl⟩
theorem c_allR (hT:Qn P tab) {g:Nat} {cap:List V} (hb:base≤o.length) (hp:∀ ex,QjF P G base (.fn (.func g) [] cap) (o++ex) p c) (hl:c.length≤9223372036854775807) :
 C P G base QaW [.lst 1 (c.map row) false,.fn (.func g) [] cap] ⟨t,o⟩ fun v σ=>v=.bool (c.all p)∧∃ t',t≤t'∧σ=⟨t',o⟩:=by
 refine Xa o.length hb (QM hT QaS (by simp [X5]) (Qx 1000 ?_))
 simp -implicitDefEqProofs (disch:=omega) only [go_sem,↓reduceIte,reduceCtorEq,rq]
 have hn:=c_notR (P:=P) (G:=G) (base:=base) (k:=o.length) (tb:=t) (T:=99) hT (by simp) (hp [some (.arr t 99 [.fn (.func g) [] cap])])
 refine call hT X1 (Qii hT hn hl) 1000 fun v σ hv=>?_
 obtain ⟨rfl,t',ht,rfl⟩:=hv
 simp -implicitDefEqProofs (disch:=omega) only [go_sem,↓reduceIte,reduceCtorEq,rq]
 exact ⟨by simp,by rw [List.all_eq_not_any_not],t',by omega,rfl,by simp⟩
end
section
attribute [local go_sem] nFq nT aZ lR Nat.mul_one Nat.one_mul Nat.succ_ne_zero zA zL Nat.zero_mul Option.getD_none Option.getD_some Option.isSome_none Option.isSome_some beq_self_eq_true bne_self_eq_false Qab YL XY Qw4 Qw3 Qw6 Qw5 zqv_0 zqv_1 zqv_2 zqv_3 Qb9 Qyj Qyi decide_false decide_true ge_iff_le gt_iff_lt Qt
theorem c_abs (hT:Qn P tab) (n:Int) (h:-9223372036854775808<n∧n≤9223372036854775807):Pure P G QgE [.int .i64 n] fun u=>u=.int .i64 (av n):=by
 intro t
 have e:=QkU (n:=n) (by omega)
 have e2:neg n=-n:=by unfold neg; rw [if_neg (by omega)]
 have e3:(if n < -n then -n else n)=av n:=by unfold av; split <;> split <;> omega
 refine Xa 0 (zL _) (QM hT QgB (by simp [Qb9]) (Qx 1000 ?_))
 simp -implicitDefEqProofs (disch:=omega) only [go_sem,↓reduceIte,reduceCtorEq,rq,e,e2]
 rw [e3]
variable {m:List Bool}
theorem QAH {n:Int} (h0:n≠0) (h:-(m.length:Int)≤n∧n≤m.length):∃ b,m[(av n - 1).toNat]?=some b∧(b==decide (0<n))=QhZ m n:=by
 have hlt:(av n - 1).toNat<m.length:=by unfold av; split <;> omega
 refine ⟨m[(av n - 1).toNat],List.getElem?_eq_getElem hlt,?_⟩
 unfold QhZ av at *
 rcases Int.lt_or_gt_of_ne h0 with hn | hn
 ·rw [if_pos hn] at hlt
  simp only [if_pos hn]
  have e1:decide (0<n)=false:=decide_eq_false (by omega)
  have e2:decide (n > 0)=false:=decide_eq_false (by omega)
  have e3:decide (n<0)=true:=decide_eq_true hn
  rw [e1,e3,List.getD_eq_getElem?_getD,List.getD_eq_getElem?_getD,List.getElem?_eq_getElem hlt]
  cases m[(-n - 1).toNat] <;> simp
 ·have hnn:¬ n<0:=by omega
  rw [if_neg hnn] at hlt
  simp only [if_neg hnn]
  have e1:decide (0<n)=true:=decide_eq_true hn
  have e2:decide (n > 0)=true:=decide_eq_true hn
  have e3:decide (n<0)=false:=decide_eq_false hnn
  rw [e1,e3,List.getD_eq_getElem?_getD,List.getD_eq_getElem?_getD,List.getElem?_eq_getElem hlt]
  cases m[(n - 1).toNat] <;> simp
variable {o:List (Option Ob)} {base kb tb T:Nat}
theorem Qj3 (hT:Qn P tab) {c:List Int} (hc:∀ n∈c,n≠0∧-(m.length:Int)≤n∧n≤m.length) (hm:m.length≤16777216) (h1:o[kb]?=some (some (.arr tb T [.lst 1 (m.map V.bool) false]))) :
 QdN P G base (.fn (.func QaA) [] [.ptr kb tb 0]) o (QhZ m) c:=fun t n hn=>by
 obtain ⟨h0,hr⟩:=hc n hn
 have hA:=c_abs (P:=P) (G:=G) hT n (by omega)
 obtain ⟨b,hb,hv⟩:=QAH h0 hr
 have hav:1≤av n∧av n≤m.length:=by unfold av; split <;> omega
 have e1:IntKind.i64.wrap (av n - 1)=av n - 1:=QcT (by omega)
 have e2:0≤av n - 1:=by omega
 have e3:av n - 1<m.length:=by omega
 have e4:(m.map V.bool).getD (av n - 1).toNat V.any=.bool b:=by
  rw [List.getD_eq_getElem?_getD,List.getElem?_map,hb]; rfl
 refine CV.of hT Qau (QM hT Qau (by simp [XY]) (Qx 1000 ?_))
 simp -implicitDefEqProofs (disch:=omega) only [go_sem,↓reduceIte,reduceCtorEq,rq,h1]
 refine Qj hT QgB hA rfl 1000 ?_
 simp -implicitDefEqProofs (disch:=omega) only [go_sem,↓reduceIte,reduceCtorEq,rq,e1,e2,e4,hv,lM]
 exact ⟨t,lR _,rfl⟩
theorem QoN (hT:Qn P tab) {F:List (List Int)} (hF:∀ c∈F,∀ n∈c,n≠0∧-(m.length:Int)≤n∧n≤m.length) (hc:∀ c∈F,c.length≤9223372036854775807) (hm:m.length≤16777216) (h1:o[kb]?=some (some (.arr tb T [.lst 1 (m.map V.bool) false]))) :
 QjF P G base (.fn (.func Qb0) [] [.ptr kb tb 0]) o (QR m) F:=fun t c hcF=>by
 refine CV.of hT QbS (QM hT QbS (by simp [YL]) (Qx 1000 ?_))
 simp -implicitDefEqProofs (disch:=omega) only [go_sem,↓reduceIte,reduceCtorEq,rq]
 refine call hT Q7 (Qof hT (Qj3 hT (hF c hcF) hm h1) (hc c hcF)) 1000 fun v σ hv=>?_
 obtain ⟨rfl,t',ht,rfl⟩:=hv
 simp -implicitDefEqProofs (disch:=omega) only [go_sem,↓reduceIte,reduceCtorEq,rq]
 exact ⟨rfl,t',ht,rfl⟩
theorem QmT (hT:Qn P tab) (v:Int) (F:List (List Int)) (m:List Bool) (hF:F.length≤9223372036854775807) (hc:∀ c∈F,c.length≤9223372036854775807) (hm:m.length≤9223372036854775807) :
 Pure P G QbC [fml v F,Qcf m] fun u=>u=.bool (Yn v F m):=by
 intro t
 have hR:=QcC (P:=P) (G:=G) hT v F hF hc
 have nF:Qb [fml v F]=true:=by simp [fml,rows,Qb,Qd]
 simp only [fml,rows,Qcf] at hR nF ⊢
 refine Xa 0 (zL _) (QM hT YY (by simp [Qab]) (Qx 12 ?_))
 simp -implicitDefEqProofs (disch:=omega) only [go_sem,↓reduceIte,reduceCtorEq,rA,rq,false_implies,and_true]
 refine Qj hT QN hR nF 4 ?_
 cases hr:right v F with
 | false =>
   have hh:Yn v F m=false:=by unfold Yn; rw [hr]; rfl
   simp -implicitDefEqProofs (disch:=omega) only [go_sem,↓reduceIte,reduceCtorEq,rq]
   iterate 9 (try (refine Qc 4 ?_; simp -implicitDefEqProofs (disch:=omega) only [go_sem,↓reduceIte,reduceCtorEq,rA,rq,true_and]))
   rw [hh]
 | true =>
   by_cases hv:(m.length:Int)=v
   ·have hv1:((m.length:Int)==v)=true:=by simp [hv]
    have hh:Yn v F m=F.all (QR m):=by unfold Yn; rw [hr,decide_eq_true hv]; simp
    obtain ⟨r1,r2⟩:=Xh.1 hr
    simp -implicitDefEqProofs (disch:=omega) only [go_sem,↓reduceIte,reduceCtorEq,rA,rq,lM,true_implies,and_true]
    iterate 5 (try (refine Qc 4 ?_; simp -implicitDefEqProofs (disch:=omega) only [go_sem,↓reduceIte,reduceCtorEq,rA,rq,rL,true_implies,and_true,hv]))
    have hK:=fun ex=>QoN (P:=P) (G:=G) (base:=0) (kb:=1) (tb:=t+1) (T:=43) (o:=[some (.arr t 24 [.int .i64 v,.lst 1 (F.map row) false]),some (.arr (t+1) 43 [.lst 1 (m.map V.bool) false])]++ex) (m:=m) hT (F:=F) (fun c h n hn=>by have:=r2 c h n hn; omega) hc (by omega) (by simp)
    refine call hT QaS (c_allR hT (o:=[some (.arr t 24 [.int .i64 v,.lst 1 (F.map row) false]),some (.arr (t+1) 43 [.lst 1 (m.map V.bool) false])]) (zL _) hK hF) 4 fun u σ hu=>?_
    obtain ⟨rfl,t',ht,rfl⟩:=hu
    simp -implicitDefEqProofs (disch:=omega) only [go_sem,↓reduceIte,reduceCtorEq,rA,rq,true_and]
    iterate 5 (try (refine Qc 4 ?_; simp -implicitDefEqProofs (disch:=omega) only [go_sem,↓reduceIte,reduceCtorEq,rA,rq,rL,rT,Nat.reduceSub,Nat.reduceMul,Int.reduceToNat,Int.reduceLE,Int.reduceLT,Int.reduceEq,Int.reduceNe,Nat.reduceBEq,Nat.reduceBNe,lM,false_implies,true_implies,true_and,and_true,not_true_eq_false,not_false_eq_true]))
    rw [hh]
   ·have hv1:((m.length:Int)==v)=false:=by simpa using hv
    have hh:Yn v F m=false:=by unfold Yn; rw [hr,decide_eq_false hv]; rfl
    simp -implicitDefEqProofs (disch:=omega) only [go_sem,↓reduceIte,reduceCtorEq,rA,rq,lM,true_implies,and_true]
    iterate 9 (try (refine Qc 4 ?_; simp -implicitDefEqProofs (disch:=omega) only [go_sem,↓reduceIte,reduceCtorEq,rA,rq,rL,false_implies,true_implies,true_and,and_true,not_false_eq_true,hv]))
    rw [hh]
end
section
attribute [local go_sem] nFq nT lM lR Nat.mul_one zA zL and_true decide_true Qe Qt Qhn Qhm Qhl Qhk Qhj Qhi true_and true_implies
def uR (tf tw tl:Nat) (v:Int) (F:List (List Int)) (S L:List Int):List (Option Ob) :=
 [some (.arr tf 33 [.int .i64 v,.lst 1 (F.map row) false]),some (.arr tw 3 (ints S)),some (.arr tl 3 (ints L))]
abbrev rkJ (tf tw:Nat) (v:Int) (F:List (List Int)) (S c:List Int) (ag:Bool) (i:Nat):Nat→Fr→H→Prop:=fun k fr σ=>∃ t tl L hd,L=Zu S (c.take k)∧hd=((c.take k).any fun n=>decide (n∈S))∧Qi fr 1=.ptr 0 tf 0∧Qi fr 4=.sl 1 tw 0 1 S.length none∧Qi fr 5=.bool ag∧Qi fr 6=.int .i64 ((i:Nat):Int)∧Qi fr 7=.bool hd∧Qi fr 8=.sl 2 tl 0 1 L.length none∧Qi fr 9=.int .i64 ((k:Nat):Int)∧σ=⟨t,uR tf tw tl v F S L⟩
abbrev rkE (tf tw:Nat) (v:Int) (F:List (List Int)) (S c:List Int) (ag:Bool) (i:Nat):AE→Fr→H→Prop:=fun e fr σ=>∃ t tl L hd,e=.ex 4∧L=Zu S c∧hd=(c.any fun n=>decide (n∈S))∧Qi fr 1=.ptr 0 tf 0∧Qi fr 4=.sl 1 tw 0 1 S.length none∧Qi fr 5=.bool ag∧Qi fr 6=.int .i64 ((i:Nat):Int)∧Qi fr 7=.bool hd∧Qi fr 8=.sl 2 tl 0 1 L.length none∧σ=⟨t,uR tf tw tl v F S L⟩
set_option maxHeartbeats 2000000 in
theorem QtT (hT:Qn P tab) {tf tw:Nat} {v:Int} {F:List (List Int)} {S c:List Int} {ag:Bool} {i:Nat} (hci:F[i]?=some c) (hF:F.length≤1000) (hcl:c.length≤1000) (hSl:S.length≤1000000) (hb:∀ n∈c,-16777216≤n∧n≤16777216)
 {k:Nat} {n:Int} (hn:c[k]?=some n) {fr:Fr} {σ:H} (hJ:rkJ tf tw v F S c ag i k fr σ) :
 W P G 129 0 (.seq (zg Qhn [24,25,26,27,28,29,30] (zw 31 .skip (.exit 4))) (.seq (.block 5 (zg Qhm [34,35,36,37,38,39,40,41] (zg Qhl [42,43,44,45,46,47] (zg Qhk [48,49,50,51,52,53,54,55,56,57,58,59,60,61,62,63] (zw 64 (.reg Qhj [65,66,67,68]) .skip))))) (.reg Qhi [32,33]))) fr σ (ZB (fun fr σ=>∃ fr' σ',Shift G 129 0 fr σ fr' σ'∧rkJ tf tw v F S c ag i (k+1) fr' σ') (rkE tf tw v F S c ag i)):=by
 obtain ⟨t,tl,L,hd,hL,hhd,f1,f4,f5,f6,f7,f8,f9,rfl⟩:=hJ
 obtain ⟨hlt,hD,_⟩:=Zz hci (by omega)
 obtain ⟨hlt2,hD2,e3⟩:=Qas hn (by omega)
 have hts:=Qp hn
 have hnm:=List.mem_of_getElem? hn
 have hbn:=hb n hnm
 have hneg:IntKind.i64.wrap (0 - n)=-n:=by rw [QcT (by omega)]; omega
 have hLl:L.length≤1000:=by
  have:=Qlb (S:=S) (c.take k)
  rw [hL]; rw [List.length_take] at this; omega
 have h1:=QiQ (P:=P) (G:=G) hT S n (by omega)
 have h2:=QiQ (P:=P) (G:=G) hT S (-n) (by omega)
 have h3:=QiQ (P:=P) (G:=G) hT L n (by omega)
 have hhd2:((c.take (k+1)).any fun n=>decide (n∈S))=(hd || decide (n∈S)):=by rw [hts,List.any_append,← hhd]; simp
 have hL2:Zu S (c.take (k+1))=if -n ∉ S∧n ∉ S∧n ∉ L then L++[n] else L:=by rw [hts,QfZ,← hL]
 have hap:ints L++[V.int .i64 n]=ints (L++[n]):=by simp [ints]
 have hLn:L.length+1=(L++[n]).length:=by simp
 simp only [row] at h1 h2 h3
 cases hd
 ·cases g1:decide (n∈S) <;> cases g2:decide (-n∈S) <;> cases g3:decide (n∈L) <;> rw [g1] at h1 hhd2 <;> rw [g2] at h2 <;> rw [g3] at h3 <;> simp only [Bool.or_false,Bool.or_true] at hhd2 <;> simp only [decide_eq_true_eq,decide_eq_false_iff_not] at g1 g2 g3 <;> simp only [g1,g2,g3,not_true_eq_false,not_false_eq_true,and_true,and_false,↓reduceIte] at hL2
  all_goals (
   refine Qh [(1,.ptr 0 tf 0),(4,.sl 1 tw 0 1 S.length none),(5,.bool ag),(6,.int .i64 ((i:Nat):Int)),(7,.bool false),(8,.sl 2 tl 0 1 L.length none),(9,.int .i64 ((k:Nat):Int))] ⟨f1,f4,f5,f6,f7,f8,f9,trivial⟩  14 ?_
   simp -implicitDefEqProofs (disch:=omega) only [go_sem,↓reduceIte,rA,rq,uR,hlt,hD,hlt2]
   iterate 9 (try (refine Qc 4 ?_; simp -implicitDefEqProofs (disch:=omega) only [go_sem,↓reduceIte,rA,rq,hlt,hD,hlt2,hD2]))
   refine Y8 hT Qk h1 (.cons _ _ _ _ (seen_ints rfl) (.cons _ _ _ _ (.same _ rfl) .nil)) rfl 4 ?_
   simp -implicitDefEqProofs (disch:=omega) only [go_sem,↓reduceIte,rq]
   iterate 9 (try (refine Qc 4 ?_; simp -implicitDefEqProofs (disch:=omega) only [go_sem,↓reduceIte,rq,hneg]))
   refine Y8 hT Qk h2 (.cons _ _ _ _ (seen_ints rfl) (.cons _ _ _ _ (.same _ rfl) .nil)) rfl 4 ?_
   simp -implicitDefEqProofs (disch:=omega) only [go_sem,↓reduceIte,rA,rq]
   iterate 9 (try (refine Qc 4 ?_; simp -implicitDefEqProofs (disch:=omega) only [go_sem,↓reduceIte,rA,rq]))
   try (refine Y8 hT Qk h1 (.cons _ _ _ _ (seen_ints rfl) (.cons _ _ _ _ (.same _ rfl) .nil)) rfl 4 ?_; simp -implicitDefEqProofs (disch:=omega) only [go_sem,↓reduceIte,rA,rq]; iterate 9 (try (refine Qc 4 ?_; simp -implicitDefEqProofs (disch:=omega) only [go_sem,↓reduceIte,rA,rq])))
   try (refine Y8 hT Qk h3 (.cons _ _ _ _ (seen_ints rfl) (.cons _ _ _ _ (.same _ rfl) .nil)) rfl 4 ?_; simp -implicitDefEqProofs (disch:=omega) only [go_sem,↓reduceIte,rA,rq]; iterate 9 (try (refine Qc 4 ?_; simp -implicitDefEqProofs (disch:=omega) only [go_sem,↓reduceIte,reduceCtorEq,rq,rL])))
   first | (refine ⟨_,_,Shift.refl _ _ _ _,t,tl,L,_,hL2.symm,hhd2.symm,?_⟩; simp -implicitDefEqProofs (disch:=omega) only [go_sem,↓reduceIte,rq,uR,e3]; done) | (refine ⟨_,_,Shift.refl _ _ _ _,t+1,t,L++[n],_,hL2.symm,hhd2.symm,?_⟩; simp -implicitDefEqProofs (disch:=omega) only [go_sem,↓reduceIte,rq,uR,e3,hap,lAq]; done))
 ·cases g1:decide (n∈S) <;> cases g2:decide (-n∈S) <;> cases g3:decide (n∈L) <;> rw [g1] at h1 hhd2 <;> rw [g2] at h2 <;> rw [g3] at h3 <;> simp only [Bool.or_false,Bool.or_true] at hhd2 <;> simp only [decide_eq_true_eq,decide_eq_false_iff_not] at g1 g2 g3 <;> simp only [g1,g2,g3,not_true_eq_false,not_false_eq_true,and_true,and_false,↓reduceIte] at hL2
  all_goals (
   refine Qh [(1,.ptr 0 tf 0),(4,.sl 1 tw 0 1 S.length none),(5,.bool ag),(6,.int .i64 ((i:Nat):Int)),(7,.bool true),(8,.sl 2 tl 0 1 L.length none),(9,.int .i64 ((k:Nat):Int))] ⟨f1,f4,f5,f6,f7,f8,f9,trivial⟩  14 ?_
   simp -implicitDefEqProofs (disch:=omega) only [go_sem,↓reduceIte,rA,rq,uR,hlt,hD,hlt2]
   iterate 9 (try (refine Qc 4 ?_; simp -implicitDefEqProofs (disch:=omega) only [go_sem,↓reduceIte,rA,rq,hlt,hD,hlt2,hD2,hneg]))
   refine Y8 hT Qk h2 (.cons _ _ _ _ (seen_ints rfl) (.cons _ _ _ _ (.same _ rfl) .nil)) rfl 4 ?_
   simp -implicitDefEqProofs (disch:=omega) only [go_sem,↓reduceIte,rA,rq]
   iterate 9 (try (refine Qc 4 ?_; simp -implicitDefEqProofs (disch:=omega) only [go_sem,↓reduceIte,rA,rq]))
   try (refine Y8 hT Qk h1 (.cons _ _ _ _ (seen_ints rfl) (.cons _ _ _ _ (.same _ rfl) .nil)) rfl 4 ?_; simp -implicitDefEqProofs (disch:=omega) only [go_sem,↓reduceIte,rA,rq]; iterate 9 (try (refine Qc 4 ?_; simp -implicitDefEqProofs (disch:=omega) only [go_sem,↓reduceIte,rA,rq])))
   try (refine Y8 hT Qk h3 (.cons _ _ _ _ (seen_ints rfl) (.cons _ _ _ _ (.same _ rfl) .nil)) rfl 4 ?_; simp -implicitDefEqProofs (disch:=omega) only [go_sem,↓reduceIte,rA,rq]; iterate 9 (try (refine Qc 4 ?_; simp -implicitDefEqProofs (disch:=omega) only [go_sem,↓reduceIte,reduceCtorEq,rq,rL])))
   first | (refine ⟨_,_,Shift.refl _ _ _ _,t,tl,L,_,hL2.symm,hhd2.symm,?_⟩; simp -implicitDefEqProofs (disch:=omega) only [go_sem,↓reduceIte,rq,uR,e3]; done) | (refine ⟨_,_,Shift.refl _ _ _ _,t+1,t,L++[n],_,hL2.symm,hhd2.symm,?_⟩; simp -implicitDefEqProofs (disch:=omega) only [go_sem,↓reduceIte,rq,uR,e3,hap,lAq]; done))
end
end Go.Proofs.YtingdebioipemaaGreatDoor
