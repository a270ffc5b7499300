/- Contracts: a place picked; literals that hold each. -/
import Derived.Test.YtingdebioipemaaGreatDoorJ3
import Derived.Test.YtingdebioipemaaGreatDoorJ2
import Derived.Test.YtingdebioipemaaGreatDoorProg
import Derived.WalkKit
import Derived.Lib.BufferRead
import Derived.Lib.OthersKept
import Derived.Deep.Draws
import Derived.Test.YtingdebioipemaaGreatDoorAmD
import Derived.Test.YtingdebioipemaaGreatDoorTabEq
import Derived.LoopTactic
import Derived.Lib.ItoaLen
open Nat renaming reduceEqDiff → rq, reduceAdd → rA, reduceLeDiff → rL, reduceLT → rT, zero_add → zA, le_refl → lR, zero_le → zL, add_zero → aZ
open List renaming length_cons → lC, length_nil → lN, take_succ_cons → tS, length_append → lAq, nil_append → nAq, cons_append → cAq, append_assoc → aA, take_nil → tN, take_zero → tZ, length_map → lM
open Bool renaming not_false → nFq, not_true → nT
namespace Go.Proofs.YtingdebioipemaaGreatDoor
open Go Go.Am Go.Cl
set_option maxRecDepth 100000
variable {P:Program} {G:Nat→Option V}
section
attribute [local go_sem] nFq nT lR zA zL decide_false decide_true Qt XI QyB QyA Qyz Qyy XL Qyx Qyw Qyv Qyu Qyt Qys Qyr
theorem Qzb (hT:Qn P tab) (i:Int) (n:Nat) (hi:-9223372036854775808≤i∧i≤9223372036854775807) (hn:n≤1000):∃ k:Nat,(n=0→k=0)∧(0<n→k<n)∧Pure P G QaV [.int .i64 i,.int .i64 n] fun u=>u=.int .i64 k:=by
 rcases Nat.eq_zero_or_pos n with h0 | h0
 ·subst h0
  refine ⟨0,fun _=>rfl,fun h=>by omega,fun t=>Xa 0 (zL _) (QM hT Yc (by simp [XI]) (Qx 1000 ?_))⟩
  simp -implicitDefEqProofs (disch:=omega) only [go_sem,↓reduceIte,reduceCtorEq,rq]
  try simp
 ·have hr:=Int.tmod_lt_of_pos i (show (0:Int)<n by omega)
  have hr2:-(n:Int)<i.tmod n:=by
   have:=Int.lt_tmod_of_pos i (show (0:Int)<n by omega); omega
  have hw1:IntKind.i64.wrap (i.tmod n)=i.tmod n:=QcT (by omega)
  have hw2:IntKind.i64.wrap (i.tmod n+n)=i.tmod n+n:=QcT (by omega)
  have hk1:=Int.tmod_lt_of_pos (i.tmod n+n) (show (0:Int)<n by omega)
  have hk0:=Int.tmod_nonneg (a:=i.tmod n+n) (n:Int) (by omega)
  have hw3:IntKind.i64.wrap ((i.tmod n+n).tmod n)=(i.tmod n+n).tmod n:=QcT (by omega)
  have hle:¬ (n:Int)≤0:=by omega
  have hne:¬ (n:Int)=0:=by omega
  refine ⟨((i.tmod n+n).tmod n).toNat,fun h=>by omega,fun _=>by omega,fun t=>Xa 0 (zL _) (QM hT Yc (by simp [XI]) (Qx 1000 ?_))⟩
  simp -implicitDefEqProofs (disch:=omega) only [go_sem,↓reduceIte,reduceCtorEq,rq,hle,hne,hw2,Int.toNat_of_nonneg hk0]
theorem QAj {l:List Int} {i:Nat} {n:Int} (h:l[i]?=some n):List.take (i+1 - i) (List.drop i (ints l))=[V.int .i64 n]:=by
 have hlt:=(List.getElem?_eq_some_iff.1 h).1
 rw [show i+1 - i=1 by omega,List.drop_eq_getElem_cons (by simpa [ints] using hlt)]
 have:=(List.getElem?_eq_some_iff.1 h).2
 simp [ints,this]
theorem Qza (hT:Qn P tab) (l:List Int) (m:List Bool) (hc:∀ n∈l,n≠0∧-(m.length:Int)≤n∧n≤m.length) (hm:m.length≤16777216) (hl:l.length≤1000000) :
 Pure P G Q9 [row l,Qcf m] fun u=>u=.bool (l.all fun n=>QR m [n]):=by
 intro t
 simp only [row,Qcf]
 refine Xa 0 (zL _) (QM hT QB (by simp [XL]) (Qx 1000 ?_))
 simp -implicitDefEqProofs (disch:=omega) only [go_sem,↓reduceIte,reduceCtorEq,rq]
 refine XZ l (fun i fr σ=>(∀ n∈l.take i,QR m [n]=true)∧Qi fr 0=.lst 1 (ints l) false∧Qi fr 1=.lst 1 (m.map V.bool) false∧Qi fr 5=.int .i64 ((i:Nat):Int)∧σ=⟨t,[]⟩)
  (fun e fr σ=>(e=.ret∧Qi fr 4=.bool false∧l.all (fun n=>QR m [n])=false)∨(e=.ex 0∧l.all (fun n=>QR m [n])=true)) ⟨by simp,?_⟩ (fun i n hn fr σ hJ=>?_) (fun i hi fr σ hJ=>?_) (fun e fr σ hE=>?_)
 ·simp -implicitDefEqProofs (disch:=omega) only [go_sem,↓reduceIte,reduceCtorEq,rq,true_and,and_true]
  rfl
 ·obtain ⟨hok,f0,f1,f5,rfl⟩:=hJ
  obtain ⟨hlt,hD,e2⟩:=Qas hn (by omega)
  have hnm:=List.mem_of_getElem? hn
  have hts:=Qp hn
  have hs:=QAj hn
  have hlt':i<l.length:=by omega
  have hC:=QdE (P:=P) (G:=G) hT [n] m (fun x hx=>by simp at hx; subst hx; exact hc x hnm) hm (by simp)
  simp only [row,Qcf,ints,List.map_cons,List.map_nil] at hC
  have hnl:Qb [V.lst 1 [V.int .i64 n] false,V.lst 1 (m.map V.bool) false]=true:=by simp [Qb,Qd]
  cases hcl:QR m [n] with
  | false =>
    rw [hcl] at hC
    refine Qh [(0,.lst 1 (ints l) false),(1,.lst 1 (m.map V.bool) false),(5,.int .i64 ((i:Nat):Int))] ⟨f0,f1,f5,trivial⟩  1000 ?_
    simp -implicitDefEqProofs (disch:=omega) only [go_sem,↓reduceIte,reduceCtorEq,rq,Qe,hlt,e2,hs]
    refine Qj hT Qq hC hnl 1000 ?_
    simp -implicitDefEqProofs (disch:=omega) only [go_sem,↓reduceIte,reduceCtorEq,rq,true_and]
    rw [List.all_eq_false]; exact ⟨n,hnm,by simp [hcl]⟩
  | true =>
    rw [hcl] at hC
    refine Qh [(0,.lst 1 (ints l) false),(1,.lst 1 (m.map V.bool) false),(5,.int .i64 ((i:Nat):Int))] ⟨f0,f1,f5,trivial⟩  1000 ?_
    simp -implicitDefEqProofs (disch:=omega) only [go_sem,↓reduceIte,reduceCtorEq,rq,Qe,hlt,e2,hs]
    refine Qj hT Qq hC hnl 1000 ?_
    simp -implicitDefEqProofs (disch:=omega) only [go_sem,↓reduceIte,reduceCtorEq,rq]
    refine ⟨_,_,Shift.refl _ _ _ _,fun x hx=>?_,?_⟩
    ·rw [hts,List.mem_append] at hx
     rcases hx with hx | hx
     ·exact hok x hx
     ·simp at hx; subst hx; exact hcl
    ·simp -implicitDefEqProofs (disch:=omega) only [go_sem,↓reduceIte,reduceCtorEq,rq,and_true,e2]
 ·obtain ⟨hok,f0,f1,f5,rfl⟩:=hJ
  rw [hi,List.take_length] at hok
  refine Qh [(0,.lst 1 (ints l) false),(1,.lst 1 (m.map V.bool) false),(5,.int .i64 ((i:Nat):Int))] ⟨f0,f1,f5,trivial⟩  1000 ?_
  simp -implicitDefEqProofs (disch:=omega) only [go_sem,↓reduceIte,reduceCtorEq,rq,Qe,true_and,hi,Nat.lt_irrefl]
  rw [List.all_eq_true]; exact hok
 ·rcases hE with ⟨rfl,f4,hh⟩ | ⟨rfl,hh⟩
  ·refine Qc 1000 ?_
   simp -implicitDefEqProofs (disch:=omega) only [go_sem,and_true,f4,hh]
  ·refine Qc 1000 ?_
   simp -implicitDefEqProofs (disch:=omega) only [go_sem,↓reduceIte,and_true,hh]
end
section
attribute [local go_sem] nFq nT cAq lC lM lN nAq aZ lR Nat.mul_one zA zL Zw zqx_0 zqx_1 Qu4 Qu3 Qu2 Qpk Qpj Qpi Qph Qpg Qu1 zqx_2 zqx_3 zqx_4 Qzo Qzn Qzm Qzl zqx_9 decide_false decide_true Qe Qt
theorem Yl:∀ {l m:List V},Qb l=true→Qb m=true→Qb (l++m)=true
 | [],_,_,h=>h
 | v::l,m,h,k=>by
   simp only [Qb,Bool.and_eq_true,cAq] at h ⊢
   exact ⟨h.1,Yl h.2 k⟩
theorem QhW (k:IntKind) (f:Int→V) (a:Int) (v:V) (hv:v=f a):∀ S:List Int,a∈S→Qmw [.i] (.int k a) v (im k f S)=im k f S
 | [],h=>absurd h (by simp)
 | b::S,h=>by
   by_cases e:a=b
   ·subst e
    simp [im,Qmw,Qj2,hv]
   ·have ih:=QhW k f a v hv S (by simpa [e] using h)
    unfold im at ih ⊢
    simp only [List.map_cons,Qmw,Qj2,e,decide_false]
    rw [ih]; simp
def addN (S:List Int) (a:Int):List Int:=if a∈S then S else S++[a]
variable {n v:Int} {S L c:List Int}
theorem Qt3 {a:Int}:n∈addN S a↔n∈S∨n=a:=by
 unfold addN; split
 ·rename_i h; exact ⟨.inl,fun x=>x.elim id fun e=>e▸h⟩
 ·simp
theorem QAz (S:List Int) (a:Int):Qmw [Kd.i] (V.int .i64 a) (V.int .i64 1) (im .i64 (fun _=>V.int .i64 1) S)=im .i64 (fun _=>V.int .i64 1) (addN S a):=by
 unfold addN; split
 ·rename_i h; exact QhW .i64 (fun _=>V.int .i64 1) a _ rfl S h
 ·rename_i h; exact Qmv .i64 (fun _=>V.int .i64 1) a _ rfl S h
def Qjl (L:List Int):List Int:=L.foldl addN []
theorem Qex {n:Int}:∀ {L S:List Int},n∈L.foldl addN S↔n∈S∨n∈L
 | [],S=>by simp
 | a::L,S=>by
   rw [List.foldl_cons,Qex (L:=L),Qt3,List.mem_cons,or_assoc]
theorem Qj1:n∈Qjl L↔n∈L:=by rw [Qjl,Qex]; simp
def aH (tf tr tm tb:Nat) (v:Int) (F:List (List Int)) (S:List Int):List (Option Ob) :=
 [some (.arr tf 24 [.int .i64 v,.lst 1 (F.map row) false]),some (.arr tr 24 [.int .i64 0,.lst 0 [] true]),some (.map tm (kn S)),some (.arr tb 84 [.mp 2 tm])]
def bH (to tw:Nat) (v:Int) (R:List (List Int)):List (Option Ob):=[some (.arr to 24 [.int .i64 v,.sl 5 tw 0 1 R.length none]),some (.arr tw 41 (R.map row))]
variable {F:List (List Int)} {tf tr tm tb to i m:Nat}
theorem c_left (hT:Qn P tab) {tw w t:Nat} {R:List (List Int)} (hb:∀ n∈c,-9223372036854775808≤n∧n≤9223372036854775807) (hl:c.length≤1000000) :
 C P G 0 Xi [.sl 6 w 0 1 c.length none,.fn (.func Zs) [] [.ptr 3 tb 0]] ⟨t,aH tf tr tm tb v F S++bH to tw v R++[some (.arr w 3 (ints c))]⟩
   fun u σ=>u=.lst 1 (ints (c.filter fun n=>!decide (neg n∈S))) false∧∃ t',t≤t'∧σ=⟨t',aH tf tr tm tb v F S++bH to tw v R++[none]⟩:=by
 have h:=QdF (P:=P) (G:=G) (base:=6) (t:=t) (w:=w) hT (o:=aH tf tr tm tb v F S++bH to tw v R) (c:=c) (lR _) (fun w' cells=>Qfe hT (kb:=3) (km:=2) (S:=S) hb rfl rfl) hl
 refine C.wk (base':=6) (zL _) (by simp [aH,bH]) (Qoo h fun u σ ⟨t',cells,ht,hn,e1,e2⟩=>?_)
 subst e1 e2
 refine ⟨6,w,3,_,lR _,rfl,Yl (QQ _) hn,?_,t',ht,?_⟩
 ·simp [X3,Qbc,Qe,aH,bH]
 ·simp [Q5,aH,bH]
theorem Qsq (h:L[i]?=some n):Qjl (L.take (i+1))=addN (Qjl (L.take i)) n:=by
 unfold Qjl; rw [Qp h,List.foldl_append]; rfl
abbrev aJ (tf tr tb:Nat) (v:Int) (F:List (List Int)) (L:List Int):Nat→Fr→H→Prop:=fun m fr σ=>∃ i t tm,i≤L.length∧m=L.length - i∧Qi fr 1=.lst 1 (ints L) false∧Qi fr 2=.ptr 0 tf 0∧Qi fr 4=.ptr 1 tr 0∧Qi fr 6=.ptr 3 tb 0∧Qi fr 26=.lst 1 (ints L) false∧Qi fr 27=.int .i64 L.length∧Qi fr 28=.int .i64 ((i:Nat):Int)∧σ=⟨t,aH tf tr tm tb v F (Qjl (L.take i))⟩
abbrev aE (tf tr tb:Nat) (v:Int) (F:List (List Int)) (L:List Int):AE→Fr→H→Prop:=fun e fr σ=>∃ t tm,e=.ex 0∧Qi fr 1=.lst 1 (ints L) false∧Qi fr 2=.ptr 0 tf 0∧Qi fr 4=.ptr 1 tr 0∧Qi fr 6=.ptr 3 tb 0∧σ=⟨t,aH tf tr tm tb v F (Qjl L)⟩
variable {σ:H} {fr:Fr}
theorem QBq (hT:Qn P tab) (hl:L.length≤1000000) (hJ:aJ tf tr tb v F L m fr σ) :
 W P G 64 0 (zg Qzo [] (.seq (zw 29 .skip (.exit 0)) (.seq (.block 1 (zg Qzn [30,31] (.reg Qzm [32,33]))) (.reg Qzl [34])))) fr σ (ZB (fun fr σ=>∃ m' fr' σ',m'<m∧Shift G 64 0 fr σ fr' σ'∧aJ tf tr tb v F L m' fr' σ') (aE tf tr tb v F L)):=by
 obtain ⟨i,t,tm,hi,rfl,f1,f2,f4,f6,f26,f27,f28,rfl⟩:=hJ
 rcases Nat.lt_or_ge i L.length with hlt | hge
 ·obtain ⟨n,hni⟩:∃ n,L[i]?=some n:=⟨_,List.getElem?_eq_getElem hlt⟩
  have hD:=QaZ hni
  have e2:=YR hlt (by omega)
  have h3:=QaY .i64 (fun _=>.int .i64 1) (Qjl (L.take i)) n
  have hput:=QAz (Qjl (L.take i)) n
  have hk:=Qsq hni
  refine Qh [(1,.lst 1 (ints L) false),(2,.ptr 0 tf 0),(4,.ptr 1 tr 0),(6,.ptr 3 tb 0),(26,.lst 1 (ints L) false),(27,.int .i64 L.length),(28,.int .i64 ((i:Nat):Int))] ⟨f1,f2,f4,f6,f26,f27,f28,trivial⟩  1000 ?_
  simp -implicitDefEqProofs (disch:=omega) only [go_sem,↓reduceIte,rq,aH,hlt,hD,kn,hput]
  refine ⟨L.length - (i+1),_,_,by omega,Shift.refl _ _ _ _,i+1,t,tm,by omega,rfl,?_⟩
  simp -implicitDefEqProofs (disch:=omega) only [go_sem,↓reduceIte,rq,aH,e2,kn,hk]
 ·have hi:i=L.length:=by omega
  refine Qh [(1,.lst 1 (ints L) false),(2,.ptr 0 tf 0),(4,.ptr 1 tr 0),(6,.ptr 3 tb 0),(26,.lst 1 (ints L) false),(27,.int .i64 L.length),(28,.int .i64 ((i:Nat):Int))] ⟨f1,f2,f4,f6,f26,f27,f28,trivial⟩  1000 ?_
  simp -implicitDefEqProofs (disch:=omega) only [go_sem,↓reduceIte,rq,aH,hi,Nat.lt_irrefl]
  exact ⟨t,tm,rfl,rfl,rfl,rfl,rfl,by rw [List.take_length]; rfl⟩
theorem QmV (h:F[i]?=some c):assign (F.take (i+1)) L=assign (F.take i) L++if c.any (fun n=>decide (n∈L)) then [] else [ZA L c]:=by
 unfold assign
 rw [Qp h,List.filter_append,List.map_append]
 congr 1
 cases hc:c.any fun n=>decide (n∈L) <;> simp [hc]
abbrev bJ (tf tr tm tb to:Nat) (v:Int) (F:List (List Int)) (L:List Int):Nat→Fr→H→Prop:=fun m fr σ=>∃ i t tw,i≤F.length∧m=F.length - i∧Qi fr 2=.ptr 0 tf 0∧Qi fr 4=.ptr 1 tr 0∧Qi fr 6=.ptr 3 tb 0∧Qi fr 9=.ptr 4 to 0∧Qi fr 43=.lst 1 (F.map row) false∧Qi fr 44=.int .i64 F.length∧Qi fr 45=.int .i64 ((i:Nat):Int)∧σ=⟨t,aH tf tr tm tb v F (Qjl L)++bH to tw v (assign (F.take i) L)⟩
abbrev bE (tf tr tm tb to:Nat) (v:Int) (F:List (List Int)) (L:List Int):AE→Fr→H→Prop:=fun e fr σ=>∃ t tw,e=.ex 2∧Qi fr 4=.ptr 1 tr 0∧Qi fr 9=.ptr 4 to 0∧σ=⟨t,aH tf tr tm tb v F (Qjl L)++bH to tw v (assign F L)⟩
set_option maxHeartbeats 1000000 in
theorem QBm (hT:Qn P tab) (hF:F.length≤1000) (hc:∀ c∈F,c.length≤1000) (hrt:∀ c∈F,∀ n∈c,-16777216≤n∧n≤16777216) (hJ:bJ tf tr tm tb to v F L m fr σ) :
 W P G 64 0 (zg Qpk [] (.seq (zw 46 .skip (.exit 2)) (.seq (.block 3 (zg Qpj [47,48] (zg Qpi [49,50,51] (zw 52 (.reg Qph [53,54,55,56,57,58,59,60,61]) .skip)))) (.reg Qpg [62])))) fr σ (ZB (fun fr σ=>∃ m' fr' σ',m'<m∧Shift G 64 0 fr σ fr' σ'∧bJ tf tr tm tb to v F L m' fr' σ') (bE tf tr tm tb to v F L)):=by
 obtain ⟨i,t,tw,hi,rfl,f2,f4,f6,f9,f43,f44,f45,rfl⟩:=hJ
 rcases Nat.lt_or_ge i F.length with hlt | hge
 ·obtain ⟨c,hci⟩:∃ c,F[i]?=some c:=⟨_,List.getElem?_eq_getElem hlt⟩
  have hD:=QbT hci
  have hcm:=List.mem_of_getElem? hci
  have e2:=YR hlt (by omega)
  have hcl:=hc c hcm
  have hb64:∀ n∈c,-9223372036854775808≤n∧n≤9223372036854775807:=fun n hn=>by have:=hrt c hcm n hn; omega
  have hsn:=QmV (L:=L) hci
  have hany:c.any (fun n=>decide (n∈Qjl L))=c.any (fun n=>decide (n∈L)):=by
   congr 1; funext n; simp [Qj1]
  have hfil:c.filter (fun n=>!decide (neg n∈Qjl L))=ZA L c:=by
   unfold ZA
   refine List.filter_congr fun n hn=>?_
   have hne:n≠mn:=by have:=hrt c hcm n hn; unfold mn; omega
   rw [QhP hne]; simp [Qj1]
  have hsome:=fun t=>Qof (P:=P) (G:=G) (base:=0) (t:=t) hT (Qff (c:=c) hT (kb:=3) (tb:=tb) (T:=84) (km:=2) (vm:=tm) (S:=Qjl L) (o:=aH tf tr tm tb v F (Qjl L)++bH to tw v (assign (F.take i) L)) rfl rfl) (by omega)
  rw [hany] at hsome
  have hleft:=fun t w=>c_left (P:=P) (G:=G) (t:=t) (w:=w) (tf:=tf) (tr:=tr) (tm:=tm) (tb:=tb) (to:=to) (tw:=tw) (v:=v) (F:=F) (R:=assign (F.take i) L) (S:=Qjl L) hT hb64 (by omega)
  rw [hfil] at hleft
  have hRl:(assign (F.take i) L).length≤1000:=by
   unfold assign; rw [lM]
   have:=List.length_filter_le (fun c:List Int=>!c.any fun n=>decide (n∈L)) (F.take i)
   rw [List.length_take] at this
   omega
  generalize assign (F.take i) L=R at *
  cases hcc:c.any fun n=>decide (n∈L) with
  | true =>
    rw [hcc,if_pos rfl,List.append_nil] at hsn
    rw [hcc] at hsome
    refine Qh [(2,.ptr 0 tf 0),(4,.ptr 1 tr 0),(6,.ptr 3 tb 0),(9,.ptr 4 to 0),(43,.lst 1 (F.map row) false),(44,.int .i64 F.length),(45,.int .i64 ((i:Nat):Int))] ⟨f2,f4,f6,f9,f43,f44,f45,trivial⟩  1000 ?_
    simp -implicitDefEqProofs (disch:=omega) only [go_sem,↓reduceIte,rq,aH,bH,hlt,hD]
    refine call hT Q7 (hsome _) 1000 fun u σ hu=>?_
    obtain ⟨rfl,t1,ht1,rfl⟩:=hu
    simp -implicitDefEqProofs (disch:=omega) only [go_sem,↓reduceIte,rq,aH,bH]
    refine ⟨F.length - (i+1),_,_,by omega,Shift.refl _ _ _ _,i+1,t1,tw,by omega,rfl,?_⟩
    simp -implicitDefEqProofs (disch:=omega) only [go_sem,↓reduceIte,rq,aH,bH,e2,hsn]
  | false =>
    rw [hcc,if_neg (by simp)] at hsn
    rw [hcc] at hsome
    refine Qh [(2,.ptr 0 tf 0),(4,.ptr 1 tr 0),(6,.ptr 3 tb 0),(9,.ptr 4 to 0),(43,.lst 1 (F.map row) false),(44,.int .i64 F.length),(45,.int .i64 ((i:Nat):Int))] ⟨f2,f4,f6,f9,f43,f44,f45,trivial⟩  1000 ?_
    simp -implicitDefEqProofs (disch:=omega) only [go_sem,↓reduceIte,rq,aH,bH,hlt,hD]
    refine call hT Q7 (hsome _) 1000 fun u σ hu=>?_
    obtain ⟨rfl,t1,ht1,rfl⟩:=hu
    simp -implicitDefEqProofs (disch:=omega) only [go_sem,↓reduceIte,rA,rq,aH,bH]
    refine And.intro ?_ ?_
    all_goals (refine call hT QY (Qij hT c (by omega)) 1000 fun u σ hu=>?_)
    all_goals (obtain ⟨t2,w,ht2,rfl,rfl⟩:=hu)
    all_goals simp -implicitDefEqProofs (disch:=omega) only [go_sem,↓reduceIte,rA,rq]
    all_goals repeat' (first | with_reducible refine And.intro ?_ ?_ | with_reducible intro _)
    all_goals (refine call hT QK (hleft _ _) 1000 fun u σ hu=>?_)
    all_goals (obtain ⟨rfl,t3,ht3,rfl⟩:=hu)
    all_goals simp -implicitDefEqProofs (disch:=omega) only [go_sem,↓reduceIte,reduceCtorEq,rA,rq,rL,aH,bH]
    all_goals repeat' (first | with_reducible refine And.intro ?_ ?_ | with_reducible intro _)
    all_goals (refine ⟨F.length - (i+1),_,_,by omega,Shift.drop (o':=aH tf tr tm tb v F (Qjl L)++bH to t3 v (R++[ZA L c])) (t':=t3+1) (by simp [XJ,aH,bH,row]) (lR _) (zL _),i+1,t3+1,t3,by omega,rfl,?_⟩)
    all_goals simp -implicitDefEqProofs (disch:=omega) only [go_sem,↓reduceIte,rq,aH,bH,e2,hsn,lAq,List.map_append]
 ·have hi:i=F.length:=by omega
  refine Qh [(2,.ptr 0 tf 0),(4,.ptr 1 tr 0),(6,.ptr 3 tb 0),(9,.ptr 4 to 0),(43,.lst 1 (F.map row) false),(44,.int .i64 F.length),(45,.int .i64 ((i:Nat):Int))] ⟨f2,f4,f6,f9,f43,f44,f45,trivial⟩  1000 ?_
  simp -implicitDefEqProofs (disch:=omega) only [go_sem,↓reduceIte,rq,aH,bH,hi,Nat.lt_irrefl]
  exact ⟨t,tw,rfl,rfl,rfl,by rw [List.take_length]; rfl⟩
theorem Qe2:∀ F:List (List Int),Qb (F.map row)=true
 | []=>rfl
 | c::F=>by have:=Qe2 F; simpa [Qb,Qd,row] using this
def Yh (v:Int) (F:List (List Int)) (L:List Int):V :=
 if right v F&&(right v [L]&&!(L.any fun n=>decide (neg n∈L))) then .tup [fml v (assign F L),.bool true] else .tup [fml 0 [],.bool false]
set_option maxHeartbeats 1000000 in
theorem Qok (hT:Qn P tab) (v:Int) (F:List (List Int)) (L:List Int) (hF:F.length≤1000) (hc:∀ c∈F,c.length≤1000) (hl:L.length≤1000) (hb:∀ n∈L,-9223372036854775808≤n∧n≤9223372036854775807) :
 Pure P G Qdu [fml v F,row L] fun u=>u=Yh v F L:=by
 intro t
 refine QfG (Q:=fun u _=>Qd u=true∧((u=.tup [.agg [.int .i64 0,.lst 0 [] true],.bool false]∧Yh v F L=.tup [fml 0 [],.bool false])∨u=Yh v F L))
  (Y6 (Q:=fun u σ=>(u=.tup [.agg [.int .i64 0,.lst 0 [] true],.bool false]∧Yh v F L=.tup [fml 0 [],.bool false])∨∃ tw,Yh v F L=.tup [fml v (assign F L),.bool true]∧u=.tup [.agg [.int .i64 v,.sl 5 tw 0 1 (assign F L).length none],.bool true]∧σ.o[5]?=some (some (.arr tw 41 ((assign F L).map row)))) ?_ fun u σ hu=>?_) fun u σ hu=>?_
 ·have hR:=QcC (P:=P) (G:=G) hT v F (by omega) (fun c h=>by have:=hc c h; omega)
  have hR2:=QcC (P:=P) (G:=G) hT v [L] (by simp) (fun c h=>by simp at h; subst h; omega)
  simp only [fml,rows,row,List.map_cons,List.map_nil] at hR hR2 ⊢
  refine QM hT QaU (by simp [Zw]) (Qx 12 ?_)
  have hR3:Pure P G ZZ [.agg [.int .i64 v,.lst 1 [.lst 1 (ints L) false] true]] fun u=>u=.bool (right v [L]) :=
   hR2.args (.cons _ _ _ _ (.agg _ _ (.cons _ _ _ _ (.refl _) (.cons _ _ _ _ (.lst _ _ _ _ _ (.refl _) (.inr rfl)) .nil))) .nil)
  have hnF:Qb [V.agg [V.int .i64 v,V.lst 1 (F.map row) false]]=true:=by simp [Qb,Qd]
  have hnL:Qb [V.agg [V.int .i64 v,V.lst 1 [V.lst 1 (ints L) false] true]]=true:=by simp [Qb,Qd]
  cases hr:right v F with
  | false =>
    have hav:Yh v F L=.tup [fml 0 [],.bool false]:=by unfold Yh; rw [hr]; rfl
    simp only [fml,rows,List.map_nil] at hav
    rw [hr] at hR
    simp -implicitDefEqProofs (disch:=omega) only [go_sem,↓reduceIte,reduceCtorEq,rA,rq]
    refine Qj hT QN hR hnF 2 ?_
    simp -implicitDefEqProofs (disch:=omega) only [go_sem,↓reduceIte,reduceCtorEq,rq]
    iterate 9 (try (refine Qc 2 ?_; simp -implicitDefEqProofs (disch:=omega) only [go_sem,↓reduceIte,reduceCtorEq,rA,rq,and_true]))
    try refine Qc 1000 ?_
    try simp -implicitDefEqProofs (disch:=omega) only [go_sem,↓reduceIte,reduceCtorEq,rA,rq]
    exact .inl hav
  | true =>
    rw [hr] at hR
    cases hr2:right v [L] with
    | false =>
      have hav:Yh v F L=.tup [fml 0 [],.bool false]:=by unfold Yh; rw [hr,hr2]; rfl
      simp only [fml,rows,List.map_nil] at hav
      rw [hr2] at hR3
      simp -implicitDefEqProofs (disch:=omega) only [go_sem,↓reduceIte,reduceCtorEq,rA,rq]
      refine Qj hT QN hR hnF 2 ?_
      simp -implicitDefEqProofs (disch:=omega) only [go_sem,↓reduceIte,reduceCtorEq,rq]
      iterate 5 (try (refine Qc 2 ?_; simp -implicitDefEqProofs (disch:=omega) only [go_sem,↓reduceIte,reduceCtorEq,rA,rq,rL,true_implies,and_true]))
      refine Qj hT QN hR3 hnL 2 ?_
      simp -implicitDefEqProofs (disch:=omega) only [go_sem,↓reduceIte,reduceCtorEq,rA,rq]
      iterate 5 (try (refine Qc 2 ?_; simp -implicitDefEqProofs (disch:=omega) only [go_sem,↓reduceIte,reduceCtorEq,rA,rq,and_true]))
      try refine Qc 1000 ?_
      try simp -implicitDefEqProofs (disch:=omega) only [go_sem,↓reduceIte,reduceCtorEq,rA,rq]
      exact .inl hav
    | true =>
      rw [hr2] at hR3
      have hrt:=(Xh.1 hr)
      simp -implicitDefEqProofs (disch:=omega) only [go_sem,↓reduceIte,reduceCtorEq,rA,rq]
      refine Qj hT QN hR hnF 2 ?_
      simp -implicitDefEqProofs (disch:=omega) only [go_sem,↓reduceIte,reduceCtorEq,rq]
      iterate 5 (try (refine Qc 2 ?_; simp -implicitDefEqProofs (disch:=omega) only [go_sem,↓reduceIte,reduceCtorEq,rA,rq,rL,true_implies,and_true]))
      refine Qj hT QN hR3 hnL 2 ?_
      simp -implicitDefEqProofs (disch:=omega) only [go_sem,↓reduceIte,reduceCtorEq,rA,rq]
      iterate 2 (try (refine Qc 2 ?_; simp -implicitDefEqProofs (disch:=omega) only [go_sem,↓reduceIte,reduceCtorEq,rq]))
      try refine Qc 1000 ?_
      try simp -implicitDefEqProofs (disch:=omega) only [go_sem,↓reduceIte,reduceCtorEq,rA,rq]
      refine ⟨rfl,?_⟩
      refine QX (aJ t (t+1) (t+1+1+1) v F L) (aE t (t+1) (t+1+1+1) v F L) (m0:=L.length) ⟨0,t+1+1+1+1,t+1+1,by omega,rfl,?_⟩ (fun m fr σ hJ=>QBq hT (by omega) hJ) (fun e fr σ hE=>?_)
      ·simp -implicitDefEqProofs (disch:=omega) only [go_sem,↓reduceIte,reduceCtorEq,rq,aH]
       exact ⟨rfl,rfl⟩
      ·obtain ⟨t1,tm,rfl,f1,f2,f4,f6,rfl⟩:=hE
       have hsome:=Qof (P:=P) (G:=G) (base:=0) (t:=t1) hT (Qfg (c:=L) hT (kb:=3) (tb:=t+1+1+1) (T:=84) (km:=2) (vm:=tm) (S:=Qjl L) hb (o:=aH t (t+1) tm (t+1+1+1) v F (Qjl L)) rfl rfl) (by omega)
       have hany:L.any (fun n=>decide (neg n∈Qjl L))=L.any (fun n=>decide (neg n∈L)):=by
        congr 1; funext n; simp [Qj1]
       rw [hany] at hsome
       refine Qc 1000 ?_
       simp -implicitDefEqProofs (disch:=omega) only [go_sem,↓reduceIte,rq,aH,f1,f6]
       refine call hT Q7 hsome 1000 fun u σ hu=>?_
       obtain ⟨rfl,t2,ht2,rfl⟩:=hu
       cases hcc:L.any fun n=>decide (neg n∈L) with
       | true =>
         have hav:Yh v F L=.tup [fml 0 [],.bool false]:=by unfold Yh; rw [hr,hr2,hcc]; rfl
         simp only [fml,rows,List.map_nil] at hav
         simp -implicitDefEqProofs (disch:=omega) only [go_sem,↓reduceIte,reduceCtorEq,rA,rq,aH,f4]
         exact .inl hav
       | false =>
         have hav:Yh v F L=.tup [fml v (assign F L),.bool true]:=by unfold Yh; rw [hr,hr2,hcc]; rfl
         simp only [fml,rows] at hav
         simp -implicitDefEqProofs (disch:=omega) only [go_sem,↓reduceIte,rA,rq,rL,aH,f2]
         refine Xk (HShift.shift (HShift.ownAt 1 41 (k:=4) (p:=1) (zL _) rfl rfl)) ?_
         simp -implicitDefEqProofs (disch:=omega) only [go_sem,rA,List.set_cons_succ,List.set_cons_zero]
         refine QX (bJ t (t+1) tm (t+1+1+1) t2 v F L) (bE t (t+1) tm (t+1+1+1) t2 v F L) (m0:=F.length) ⟨0,t2+1+1,t2+1,by omega,rfl,?_⟩ (fun m fr σ hJ=>QBm hT hF hc (fun c h n hn=>by have:=hrt.2 c h n hn; omega) hJ) (fun e fr σ hE=>?_)
         ·simp -implicitDefEqProofs (disch:=omega) only [go_sem,↓reduceIte,rq,aH,bH,f2,f4,f6]
          exact ⟨rfl,rfl⟩
         ·obtain ⟨t3,tw,rfl,f4,f9,rfl⟩:=hE
          refine Qc 1000 ?_
          simp -implicitDefEqProofs (disch:=omega) only [go_sem,↓reduceIte,reduceCtorEq,rA,rq,aH,bH,f4,f9]
          exact .inr ⟨tw,hav,rfl,rfl⟩
 ·rcases hu with ⟨rfl,hu⟩ | ⟨tw,hr,rfl,ho⟩
  ·exact .inl ⟨rfl,.inl ⟨rfl,hu⟩⟩
  ·refine .inr ⟨5,tw,41,_,zL _,ho,?_,?_,.inr ?_⟩
   ·exact Qe2 _
   ·simp [X3,Qix,Qd,Qb]
   ·rw [hr]
    simp [X3,Qix,Qbc,fml,rows]
    rw [List.take_of_length_le (by simp)]
 ·rcases hu with ⟨hn,⟨rfl,hu⟩ | rfl⟩
  ·exact ⟨.tup [fml 0 [],.bool false],.tup _ _ (.cons _ _ _ _ (.agg _ _ (.cons _ _ _ _ (.refl _) (.cons _ _ _ _ (.lst _ _ _ _ _ .nil (.inl rfl)) .nil))) (.cons _ _ _ _ (.refl _) .nil)),rfl,by rw [hu]⟩
  ·exact ⟨_,.refl _,hn,rfl⟩
end
end Go.Proofs.YtingdebioipemaaGreatDoor
namespace Go.Cl
open Go
variable {L:List Int} {F:List (List Int)} {v:Int}
theorem Qk2 (h:right v F=true):right v (assign F L)=true:=by
 obtain ⟨⟨h1,h2,h3⟩,h4⟩:=Xh.1 h
 refine Xh.2 ⟨⟨h1,h2,?_⟩,fun c hc n hn=>?_⟩
 ·have:=List.length_filter_le (fun c:List Int=>!c.any fun n=>decide (n∈L)) F
  simp only [assign,lM]; omega
 ·simp only [assign,List.mem_map,List.mem_filter] at hc
  obtain ⟨d,⟨hd,_⟩,rfl⟩:=hc
  exact h4 d hd n (List.mem_filter.1 hn).1
variable {m:List Bool}
theorem assign_holds (hL:∀ n∈L,QhZ m n=true):(assign F L).all (QR m)=F.all (QR m):=by
 induction F with
 | nil=>rfl
 | cons c F ih =>
   have hs:assign (c::F) L=(if c.any (fun n=>decide (n∈L)) then [] else [ZA L c])++assign F L:=by
    unfold assign
    cases h:c.any fun n=>decide (n∈L) <;> simp [h]
   rw [hs,List.all_append,List.all_cons,ih]
   congr 1
   cases h:c.any fun n=>decide (n∈L) with
   | true =>
     obtain ⟨n,hn,hl⟩:=List.any_eq_true.1 h
     have:QR m c=true:=Zb.2 ⟨n,hn,hL n (of_decide_eq_true hl)⟩
     simp [this]
   | false =>
     simp only [Bool.false_eq_true,if_false,List.all_cons,List.all_nil,Bool.and_true]
     rw [Bool.eq_iff_iff,Zb,Zb]
     refine ⟨fun ⟨n,hn,ht⟩=>⟨n,(List.mem_filter.1 hn).1,ht⟩,fun ⟨n,hn,ht⟩=>⟨n,List.mem_filter.2 ⟨hn,?_⟩,ht⟩⟩
     simp only [Bool.not_eq_true',decide_eq_false_iff_not]
     exact fun k=>Qn7 m n ht (hL _ k)
theorem Qoy (hz:Nz F) (h:F.all (QR m)=true):∃ l,YV F=some l∧∀ n∈l,QhZ m n=true:=by
 have hF:∀ c∈F,Sat (fun n=>QhZ m n=true) c:=fun c hc=>Zb.1 (List.all_eq_true.1 h c hc)
 cases hu:YV F with
 | none=>exact absurd ((Qow hz).1 hu) (Confl.none (Qn7 m) hF)
 | some l=>exact ⟨l,rfl,fun n hn=>UP.true (Qn7 m) hF (((QdP hz hu).2 n).1 hn)⟩
def Qr (a b:List Int) (v:Int):List Int × Bool :=
 if v≤0∨v ∉ a∨-v ∉ b∨-v∈a∨v∈b then ([],false) else XM ((a++b).filter fun n=>decide (n≠v∧n≠-v))
theorem resolve_holds {a b:List Int} (h:(Qr a b v).2=true) (ha:QR m a=true) (hb:QR m b=true):QR m (Qr a b v).1=true:=by
 unfold Qr at h ⊢
 split at h
 ·cases h
 ·rename_i hn
  rw [if_neg hn]
  have h0:v ∉ b:=fun k=>hn (.inr (.inr (.inr (.inr k))))
  have h1:-v ∉ a:=fun k=>hn (.inr (.inr (.inr (.inl k))))
  unfold XM at h ⊢
  split at h
  ·cases h
  ·rename_i hbad
   rw [if_neg hbad]
   obtain ⟨x,hx,hxt⟩:=Zb.1 ha
   obtain ⟨y,hy,hyt⟩:=Zb.1 hb
   refine Zb.2 ?_
   by_cases hxv:x=v
   ·have hyv:y≠-v:=fun e=>by subst e; rw [hxv] at hxt; exact Qn7 m v hxt hyt
    exact ⟨y,Qfb.2 (List.mem_filter.2 ⟨List.mem_append_right _ hy,decide_eq_true ⟨fun e=>h0 (e▸hy),hyv⟩⟩),hyt⟩
   ·exact ⟨x,Qfb.2 (List.mem_filter.2 ⟨List.mem_append_left _ hx,decide_eq_true ⟨hxv,fun e=>h1 (e▸hx)⟩⟩),hxt⟩
end Go.Cl
namespace Go.Proofs.YtingdebioipemaaGreatDoor
open Go Go.Am Go.Cl
set_option maxRecDepth 100000
variable {P:Program} {G:Nat→Option V}
theorem Qom {α:Type} (p q:α→Bool):∀ l:List α,(l.all p&&!l.any q)=l.all fun n=>p n&&!q n
 | []=>rfl
 | a::l=>by
   have:=Qom p q l
   simp only [List.all_cons,List.any_cons,← this]
   cases p a <;> cases q a <;> simp
theorem Qtc {v:Int} {F:List (List Int)} {L:List Int}:ZX v F L=Yh v F L:=by
 unfold ZX Yh
 cases hr:right v F with
 | false=>rfl
 | true =>
   have hb:=(Xh.1 hr).1
   have h1:right v [L]=L.all (YN v):=by
    unfold right
    rw [decide_eq_true (by simp; omega)]
    simp
   rw [h1,← Qom]
section
attribute [local go_sem] lR zA beq_self_eq_true decide_false decide_true ge_iff_le Qt Xg QxV QxU Xz QwU QwT QwS QwR QwQ QwP QwO QwN
abbrev ixJ (t:Nat) (c:List Int) (x:Int):Nat→Fr→H→Prop:=fun m fr σ=>∃ i,i≤c.length∧m=c.length - i∧x ∉ c.take i∧Qi fr 0=.lst 1 (ints c) false∧Qi fr 1=.int .i64 x∧Qi fr 7=.int .i64 c.length∧Qi fr 8=.int .i64 ((i:Nat):Int)∧σ=⟨t,[]⟩
abbrev ixE (t:Nat) (c:List Int) (x:Int):AE→Fr→H→Prop:=fun e fr σ=>σ=⟨t,[]⟩∧((e=.ret∧x∈c∧∃ i:Nat,Qi fr 4=.int .i64 i)∨(e=.ex 0∧x ∉ c))
theorem QBe (hT:Qn P tab) (c:List Int) (x:Int) (hl:c.length≤1000000) :
 Pure P G ZI [row c,.int .i64 x] fun u=>∃ i:Int,u=.int .i64 i∧(0≤i↔x∈c):=by
 intro t
 simp only [row]
 refine Xa 0 (zL _) (QM hT ZF (by simp [Xz]) (Qx 1000 ?_))
 simp -implicitDefEqProofs (disch:=omega) only [go_sem,↓reduceIte,reduceCtorEq,rq,Qe]
 refine QX (ixJ t c x) (ixE t c x) (m0:=c.length) ⟨0,by omega,rfl,by simp,?_⟩ (fun m fr σ hJ=>?_) (fun e fr σ hE=>?_)
 ·simp -implicitDefEqProofs (disch:=omega) only [go_sem,↓reduceIte,reduceCtorEq,rq,true_and,and_true]
  rfl
 ·obtain ⟨i,hi,rfl,hno,f0,f1,f7,f8,rfl⟩:=hJ
  rcases Nat.lt_or_ge i c.length with hlt | hge
  ·obtain ⟨n,hni⟩:∃ n,c[i]?=some n:=⟨_,List.getElem?_eq_getElem hlt⟩
   have hD:=QaZ hni
   have e2:=YR hlt (by omega)
   by_cases hx:x=n
   ·subst hx
    have hm:=List.mem_of_getElem? hni
    have hb:(x==x)=true:=by simp
    refine Qh [(0,.lst 1 (ints c) false),(1,.int .i64 x),(7,.int .i64 c.length),(8,.int .i64 ((i:Nat):Int))] ⟨f0,f1,f7,f8,trivial⟩  1000 ?_
    simp -implicitDefEqProofs (disch:=omega) only [go_sem,↓reduceIte,reduceCtorEq,rq,Qe,true_implies,and_true,hlt,hD]
    exact ⟨rfl,.inl ⟨rfl,hm,i,rfl⟩⟩
   ·have hb:(x==n)=false:=by simpa using hx
    refine Qh [(0,.lst 1 (ints c) false),(1,.int .i64 x),(7,.int .i64 c.length),(8,.int .i64 ((i:Nat):Int))] ⟨f0,f1,f7,f8,trivial⟩  1000 ?_
    simp -implicitDefEqProofs (disch:=omega) only [go_sem,↓reduceIte,reduceCtorEq,rq,Qe,true_implies,and_true,hlt,hD,hb]
    refine ⟨c.length - (i+1),_,_,by omega,Shift.refl _ _ _ _,i+1,by omega,rfl,?_,?_⟩
    ·rw [Qp hni,List.mem_append]; simp [hno,hx]
    ·simp -implicitDefEqProofs (disch:=omega) only [go_sem,↓reduceIte,reduceCtorEq,rq,and_true,e2]
  ·have hi:i=c.length:=by omega
   rw [hi,List.take_length] at hno
   refine Qh [(0,.lst 1 (ints c) false),(1,.int .i64 x),(7,.int .i64 c.length),(8,.int .i64 ((i:Nat):Int))] ⟨f0,f1,f7,f8,trivial⟩  1000 ?_
   simp -implicitDefEqProofs (disch:=omega) only [go_sem,↓reduceIte,reduceCtorEq,rq,hi,Nat.lt_irrefl]
   exact ⟨rfl,.inr ⟨rfl,hno⟩⟩
 ·obtain ⟨rfl,⟨rfl,hm,i,f4⟩ | ⟨rfl,hm⟩⟩:=hE
  ·refine Qc 1000 ?_
   simp -implicitDefEqProofs (disch:=omega) only [go_sem,true_and,f4]
   exact ⟨_,rfl,by simp [hm]⟩
  ·refine Qc 1000 ?_
   simp -implicitDefEqProofs (disch:=omega) only [go_sem,↓reduceIte,true_and]
   exact ⟨_,rfl,by simp [hm]⟩
theorem Qjy (hT:Qn P tab) (c:List Int) (x:Int) (hl:c.length≤1000000) :
 Pure P G Y2 [row c,.int .i64 x] fun u=>u=.bool (decide (x∈c)):=by
 intro t
 have hI:=QBe (P:=P) (G:=G) hT c x hl
 simp only [row] at hI ⊢
 refine Xa 0 (zL _) (QM hT Ql (by simp [Xg]) (Qx 1000 ?_))
 simp -implicitDefEqProofs (disch:=omega) only [go_sem,↓reduceIte,reduceCtorEq,rq]
 refine Qcc hT ZF hI (by simp [Qb,Qd]) 1000 fun u hu=>?_
 obtain ⟨i,rfl,hi⟩:=hu
 by_cases hx:x∈c
 ·have h0:(0≤i)=True:=eq_true (hi.2 hx)
  simp -implicitDefEqProofs (disch:=omega) only [go_sem,↓reduceIte,reduceCtorEq,rq,h0,hx]
 ·have h0:(0≤i)=False:=eq_false fun k=>hx (hi.1 k)
  simp -implicitDefEqProofs (disch:=omega) only [go_sem,↓reduceIte,reduceCtorEq,rq,h0,hx]
end
end Go.Proofs.YtingdebioipemaaGreatDoor
namespace Go.Proofs.YtingdebioipemaaGreatDoor
open Go Go.Am Go.Cl Go.RowKit
set_option maxRecDepth 100000
variable {w:World} {ρ:Names} {I:Imm} {t:Nat}
theorem Qto {P:Program} {G:Nat→Option V} {f:Nat} {args:List V} {Q:V→H→Prop} (h:C P G 0 f args ⟨t,[]⟩ Q) {xs:Array Value} (R:Rel G I ρ ⟨t,[]⟩ w) (hc:Cells I ρ args xs) :
 Calls P f xs w fun e w'=>∃ v x I' ρ' σ',e=.returned x∧VR I' ρ' v x∧Rel G I' ρ' σ' w'∧I.le I'∧Below w.heap.size w w'∧Q v σ' :=
 (h I ρ w xs R (zL _) hc).mono fun e w' ⟨v,x,I',ρ',σ',h1,h2,h3,h4,_,h6⟩ =>
  ⟨v,x,I',ρ',σ',h1,h2,h3,h4.imms,⟨h4.os,h4.tape,h4.output,h4.size,fun k hk=>h4.keep k hk fun n _ e=>by simp [blk] at e⟩,h6⟩
theorem QfF {G:Nat→Option V} {w':World} (R:Rel G I ρ ⟨t,[]⟩ w) (h:Below w.heap.size w w'):Rel G I ρ ⟨t,[]⟩ w':=R.ex ⟨h.os,h.tape,h.output,h.size,h.block⟩
structure QuX (P:Program):Prop where
 ws:∀ (B b:Nat) (bs:List Value) (s:ByteArray) (w:World),Lib.IsBuffer 55 5 B b bs w→B≤w.heap.size→(∀ v∈bs,v.oneCell'=true)→bs.length+s.size≤140737488355328 →
  Calls P Qbd #[.pointer (some ⟨b,0,none⟩),.string s] w fun e w'=>e=.returned (.tuple #[.int .i64 s.size,.nilIface])∧Lib.IsBuffer 55 5 B b (bs++Lib.byteCells s.data.toList) w'∧Below B w w'∧Lib.OthersKept 5 (some b) w w'
 wb:∀ (B b:Nat) (bs:List Value) (c:Int) (w:World),Lib.IsBuffer 55 5 B b bs w→B≤w.heap.size→(∀ v∈bs,v.oneCell'=true)→bs.length+1≤140737488355328 →
  Calls P Qb3 #[.pointer (some ⟨b,0,none⟩),.int .u8 c] w fun e w'=>e=.returned .nilIface∧Lib.IsBuffer 55 5 B b (bs++[.int .u8 c]) w'∧Below B w w'∧Lib.OthersKept 5 (some b) w w'
 by_:∀ (B b:Nat) (bs:List Value) (w:World),Lib.IsBuffer 55 5 B b bs w →
  Calls P Qd3 #[.pointer (some ⟨b,0,none⟩)] w fun e w'=>∃ v,e=.returned v∧w'.ownsRow B 5 1 v bs.length bs∧∃ n,w'=w.drewN n
def QeR (P:Program) (G:Nat→Option V):Prop:=∀ n:Int,-9223372036854775808≤n∧n≤9223372036854775807→Am.Pure P G QbB [.int .i64 n] fun u=>u=.str (Qw n)
variable {G:Nat→Option V}
section
attribute [local go_sem] nT lR Nat.mul_one zA QpC Qe Qt
def Zt (c:List Int):List UInt8:=(c.map fun n=>Qw n++[32]).flatten
def clB (F:List (List Int)):List UInt8:=(F.map fun c=>Zt c++[48,10]).flatten
def inB (c:List Int) (m:Nat):List UInt8:=Zt (c.take m)++if m=c.length+1 then [48] else []
def Zh (v:Int) (F:List (List Int)):List UInt8:=[112,32,99,110,102,32]++Qw v++[32]++Qw F.length++[10]
def QbU (v:Int) (F:List (List Int)):List UInt8:=Zh v F++clB F
variable {n v:Int}
theorem Qa1 (h:-9223372036854775808≤n∧n≤9223372036854775807):(Qw n).length≤21:=by
 have e:Qw n=Lib.itoa n:=by unfold Qw; exact if_pos h
 rw [e]; exact Lib.itoa_length_le n h.1 h.2
variable {c:List Int}
theorem Qb4 (h:∀ n∈c,n≠0∧-16777216≤n∧n≤16777216):(Zt c).length≤22 * c.length:=by
 unfold Zt
 induction c with
 | nil=>simp
 | cons n c ih =>
   have h1:=Qa1 (n:=n) (by have:=h n (by simp); omega)
   have h2:=ih fun m hm=>h m (by simp [hm])
   simp only [List.map_cons,List.flatten_cons,lAq,lC,lN] at *
   omega
theorem QmN:∀ {F:List (List Int)},(∀ c∈F,c.length≤1000)→(∀ c∈F,∀ n∈c,n≠0∧-16777216≤n∧n≤16777216)→(clB F).length≤22002 * F.length
 | [],_,_=>by simp [clB]
 | c::F,hc,h=>by
   have h1:=Qb4 (h c (by simp))
   have h2:=hc c (by simp)
   have h3:=QmN (F:=F) (fun d hd=>hc d (by simp [hd])) fun d hd=>h d (by simp [hd])
   simp only [clB,List.map_cons,List.flatten_cons,lAq,lC,lN] at *
   omega
variable {F:List (List Int)}
theorem Qlg (hv:-9223372036854775808≤v∧v≤9223372036854775807) (hF:F.length≤1000):(Zh v F).length≤50:=by
 have h1:=Qa1 hv
 have h2:=Qa1 (n:=(F.length:Int)) (by omega)
 simp only [Zh,lAq,lC,lN]; omega
variable {k m t b1 i:Nat}
theorem lens (hv:-9223372036854775808≤v∧v≤9223372036854775807) (hF:F.length≤1000) (hc:∀ c∈F,c.length≤1000) (hn:∀ c∈F,∀ n∈c,n≠0∧-16777216≤n∧n≤16777216) (hk:F[k]?=some c) (hm:m≤c.length+1) :
 (Zh v F++clB (F.take k)++inB c m).length≤100000000:=by
 have h1:=Qlg hv hF
 have h2:=QmN (F:=F.take k) (fun d hd=>hc d (List.mem_of_mem_take hd)) fun d hd=>hn d (List.mem_of_mem_take hd)
 have h3:=Qb4 (c:=c.take m) fun x hx=>hn c (List.mem_of_getElem? hk) x (List.mem_of_mem_take hx)
 have h4:=hc c (List.mem_of_getElem? hk)
 have h5:(F.take k).length≤F.length:=by simp; omega
 have h6:(c.take m).length≤c.length:=by simp; omega
 have h7:(inB c m).length≤(Zt (c.take m)).length+1:=by
  unfold inB; rw [lAq]; split <;> simp
 simp only [lAq]
 omega
theorem Qhb:Qw 0=[48]:=by kernel_rfl
theorem Que (hm:m<c.length) (h:c[m]?=some n):inB c (m+1)=inB c m++(Qw n++[32]):=by
 unfold inB Zt
 rw [Qp h,List.map_append,List.flatten_append,if_neg (by omega),if_neg (by omega)]
 simp
theorem Quf (c:List Int):inB c (c.length+1)=inB c c.length++[48]:=by
 unfold inB
 rw [if_pos rfl,if_neg (by omega),List.take_length,List.take_of_length_le (by omega)]
 simp
theorem QAM (c:List Int):Zt c++[48,10]=inB c (c.length+1)++[10]:=by
 unfold inB
 rw [if_pos rfl,List.take_of_length_le (by omega)]
 simp
theorem Qoa (h:F[k]?=some c):clB (F.take (k+1))=clB (F.take k)++(Zt c++[48,10]):=by
 unfold clB
 rw [Qp h,List.map_append,List.flatten_append]
 simp
theorem QdI (l:List UInt8) (b:UInt8):Lib.byteCells (l++[b])=Lib.byteCells l++[.int .u8 b.toNat]:=by simp [Lib.byteCells]
variable {x y:Value} {ρ:Names} {I:Imm}
theorem QBt {b:Bool} (h:VR I ρ (.bool b) x):x=.bool b:=by cases h; rfl
theorem VR_str {s:List UInt8} (h:VR I ρ (.str s) x):x=.string ⟨s.toArray⟩:=by cases h; rfl
theorem QlY {v:V} (h:VR I ρ v x):Cells I ρ [v] #[x]:=⟨rfl,fun j v' x' h1 h2=>by
 match j,h1,h2 with
 | 0,h1,h2=>cases h1; cases h2; exact h
 | j+1,h1,h2=>simp at h1⟩
variable {w w':World}
theorem QdX {P:Program} (It:QeR P G) (hn:-9223372036854775808≤n∧n≤9223372036854775807) {w1:World} (R:Rel G I ρ ⟨t,[]⟩ w) (h1:Below w.heap.size w w1) :
 Calls P QbB #[.int .i64 n] w1 fun e w'=>e=.returned (.string ⟨(Qw n).toArray⟩)∧Below w1.heap.size w1 w' :=
 (Qto (It n hn t) (QfF R h1) (QlY (.int _ _ _))).mono fun e w' ⟨u,x,I',ρ',σ',e1,e2,_,_,e5,_,e7⟩=>by
  subst e7; rw [VR_str e2] at e1; exact ⟨e1,e5⟩
def headT:Tr:=.rd 0 (.rd 1 (.rd 5 (.rd 6 (.rd 7 (.op 2 true (.rd 3 (.rd 4 (.op 8 true (.rd 9 (.rd 10 (.op 11 false .done)))))))))))
def QAQ (b1:Nat):SZ:=⟨⟨fun b _=>b=b1,fun _=>False⟩,⟨fun b _=>b=b1,fun _=>False⟩⟩
theorem Qf5 (h:Below w.heap.size w w') (hb:b1<w.heap.size):Ek ⟨fun b _=>b=b1,fun _=>False⟩ w w' :=
 ⟨h.os,h.tape,h.output,h.size,fun b o e=>by subst e; simp only [World.cell?,h.block _ hb],fun _ h=>h.elim⟩
theorem Qj7 {B:Nat} (h:Below B w w') (hb:b1<B):Ek ⟨fun b _=>b=b1,fun _=>False⟩ w w' :=
 ⟨h.os,h.tape,h.output,h.size,fun b o e=>by subst e; simp only [World.cell?,h.block _ hb],fun _ h=>h.elim⟩
variable {o:Oper} {a:Act} {S:SZ} {Q:Act→World→Prop} {ops:Array Oper}
theorem QjR {P:Program} {t:Tr} {v:Value} (d:Nat) (ho:ops[i]?=some o) (hg:o.guard=none∧o.dst=some d)
 (hv:∀ w',Ek S.s w w'→(execOp a.eval o).run P w'=.ok (.value v) w') (h:RTree P ops Q t S (a.put (some d) v) w):RTree P ops Q (.rd i t) S a w :=
 ⟨o,v,ho,.inl ⟨by simp [Region.wanted,hg.1],hv⟩,hg.2▸h⟩
theorem Qmn {P:Program} {k:Bool} {t:Tr} {f:FuncId} {args:Array Value} {R:Ending→World→Prop} (d:Nat) (ho:ops[i]?=some o) (hg:o.guard=none∧o.dst=some d)
 (hv:(execOp a.eval o).run P w=.ok (.enter f args) w) (hc:Calls P f args w R) (h:∀ e w',R e w'→∃ v,e=.returned v∧Ek S.z w w'∧Ek S.s w w'∧RTree P ops Q t S (a.put (some d) v) w'):RTree P ops Q (.op i k t) S a w:=by
 refine ⟨o,ho,?_⟩
 rw [if_pos (by simp [Region.wanted,hg.1]),op1,hv,hg.2]
 exact hc.mono fun e w' hr=>by
  obtain ⟨v,h1,h2,h3,h4⟩:=h e w' hr
  exact ⟨v,h1,S,⟨Sg.le.refl _,h2⟩,fun _=>⟨Sg.le.refl _,h3⟩,h4⟩
theorem QAn {a:Option Addr} {n cap:Nat} (hv:VR I ρ (fml v F) (.agg #[.int .i64 v,.slice a n cap])) (R:Rel G I ρ ⟨t,[]⟩ w) (h:F[k]?=some c) :
 ∃ b o y,a=some ⟨b,o,none⟩∧w.cell? ⟨b,o+k,none⟩=some y∧VR I noNames (row c) y:=by
 generalize hu:fml v F=u at hv
 cases hv with
 | agg _ l cs h1 h2 =>
   injection hu with hu
   subst hu
   have h3:=h2 1 (rows F) (.slice a n cap) rfl rfl
   clear h2
   generalize hu:rows F=u at h3
   cases h3 with
   | lst _ sz l _ b o _ f g0 g1 g2 g3 g4 g5 =>
     injection hu with e1 e2 e3
     subst e1 e2
     have hr:(F.map row)[k]?=some (row c):=by simp [h]
     have i1:=g4 k _ hr 0 (row c) rfl
     have i2:=g5 k _ hr 0 (row c) rfl
     refine ⟨b,o,_,rfl,?_,i2⟩
     have:=(R.imm _ _ _ i1).1
     simpa using this
   | lstN => 
     injection hu with e1 e2 e3
     have:F=[]:=by simpa using e2
     subst this; simp at h
   | val=>unfold rows at hu; cases hu
   | any=>unfold rows at hu; cases hu
   | slN=>unfold rows at hu; cases hu
   | sl=>unfold rows at hu; cases hu
 | _=>cases hu
abbrev prQ (p sv:Value) (n k:Nat) (c:List Int) (x0 x1 x2 x3 x5 x7 x9 x10 x11 x12 x13 x14 x15 x16 x17 x18 x19 x20 x21 x22 x23 x24 x49:Value):AE→Fr→H→Prop:=fun e fr σ=>e=.nrm∧∃ t' w,Qi fr 4=.val p∧Qi fr 25=.val sv∧Qi fr 26=.int .i64 n∧Qi fr 27=.int .i64 k∧Qi fr 34=.sl 0 w 0 1 (c.length+1) none∧Qi fr 35=.int .i64 ((c.length+1:Nat):Int)∧Qi fr 36=.int .i64 0∧Qi fr 0=.val x0∧Qi fr 1=.val x1∧Qi fr 2=.val x2∧Qi fr 3=.val x3∧Qi fr 5=.val x5∧Qi fr 7=.val x7∧Qi fr 9=.val x9∧Qi fr 10=.val x10∧Qi fr 11=.val x11∧Qi fr 12=.val x12∧Qi fr 13=.val x13∧Qi fr 14=.val x14∧Qi fr 15=.val x15∧Qi fr 16=.val x16∧Qi fr 17=.val x17∧Qi fr 18=.val x18∧Qi fr 19=.val x19∧Qi fr 20=.val x20∧Qi fr 21=.val x21∧Qi fr 22=.val x22∧Qi fr 23=.val x23∧Qi fr 24=.val x24∧Qi fr 49=.val x49∧σ=⟨t',[some (.arr w 3 (ints (c++[0])))]⟩
theorem QAo (hT:Qn Tryz.prog tab) (p sv:Value) (n k t:Nat) (c:List Int) (x0 x1 x2 x3 x5 x7 x9 x10 x11 x12 x13 x14 x15 x16 x17 x18 x19 x20 x21 x22 x23 x24 x49:Value) (hl:c.length≤1000) :
 sem Tryz.prog G 50 0 (prQ p sv n k c x0 x1 x2 x3 x5 x7 x9 x10 x11 x12 x13 x14 x15 x16 x17 x18 x19 x20 x21 x22 x23 x24 x49) [.ac (.reg QpC [31,32,33])] .nrm [(4,.val p),(25,.val sv),(26,.int .i64 n),(27,.int .i64 k),(6,row c),(0,.val x0),(1,.val x1),(2,.val x2),(3,.val x3),(5,.val x5),(7,.val x7),(9,.val x9),(10,.val x10),(11,.val x11),(12,.val x12),(13,.val x13),(14,.val x14),(15,.val x15),(16,.val x16),(17,.val x17),(18,.val x18),(19,.val x19),(20,.val x20),(21,.val x21),(22,.val x22),(23,.val x23),(24,.val x24),(49,.val x49)] ⟨t,[]⟩:=by
 refine Qc 1000 ?_
 simp only [row]
 simp -implicitDefEqProofs (disch:=omega) only [go_sem,↓reduceIte,reduceCtorEq,rq]
 refine call hT QY (Qij hT c (by omega)) 1000 fun u σ hu=>?_
 obtain ⟨t1,w,ht1,rfl,rfl⟩:=hu
 simp -implicitDefEqProofs (disch:=omega) only [go_sem,↓reduceIte,reduceCtorEq,rq,rL]
 exact ⟨rfl,t1+1,t1,rfl,rfl,rfl,rfl,rfl,rfl,rfl,rfl,rfl,rfl,rfl,rfl,rfl,rfl,rfl,rfl,rfl,rfl,rfl,rfl,rfl,rfl,rfl,rfl,rfl,rfl,rfl,rfl,rfl,rfl,by simp [ints]⟩
theorem Yu (h:VR I ρ (.val x) y):y=x:=by cases h; rfl
theorem QlX {k:IntKind} (h:VR I ρ (.int k n) y):y=.int k n:=by cases h; rfl
theorem row_of {w:Nat} {zs:List Int} {fv:V} {W:World} (R:Rel G I ρ ⟨t,[some (.arr w 3 (ints zs))]⟩ W) (hf:fv=.sl 0 w 0 1 zs.length none) (h:VR I ρ fv x) (hz:zs≠[]) :
 ∃ g o cap cc lo hi,x=.slice (some ⟨g,o,none⟩) zs.length cap∧W.heap[g]?=some (.cells cc 3 (lo,hi))∧(∀ (j:Nat) (n:Int),zs[j]?=some n→cc[o+j]?=some (.int .i64 n))∧blk ρ ⟨t,[some (.arr w 3 (ints zs))]⟩ 0=some g:=by
 subst hf
 have hlen:0<zs.length:=List.length_pos_iff.2 hz
 generalize hu:V.sl 0 w 0 1 zs.length none=u at h
 cases h with
 | sl _ n v off sz len lim b o e cap h1 h2 h3 h4 =>
   cases hu
   rcases R.objs 0 _ rfl with ⟨h0,_⟩ | ⟨b',o',e',cc,lo,hi,k1,k2,k3,k4,k5,k6⟩
   ·rw [h1] at h0; cases h0
   ·rw [h1] at k1; cases k1
    refine ⟨b,o,cap,cc,lo,hi,rfl,k2,fun j n hj=>?_,by simp [blk,Ob.ver,h1,Loc.block]⟩
    obtain ⟨y,g1,g2,_⟩:=k6 j (.int .i64 n) (by simp [ints,hj])
    cases g2; exact g1
 | slN=>injection hu; omega
 | _=>cases hu
theorem FR_of {n:Nat} (hd:a.defers=[]) (hs:a.tmps.size=n):∀ {fr:Fr},(∀ p∈fr,VR I ρ p.2 (a.tmps.getD p.1 undef))→FR I ρ n fr a:=fun {fr} h=>⟨hd,hs,fun t=>by
 induction fr with
 | nil=>exact .any _ _
 | cons p fr ih =>
   obtain ⟨k,v⟩:=p
   unfold Qi
   split
   ·rename_i e; have:=h (k,v) (by simp); subst e; exact this
   ·exact ih fun q hq=>h q (by simp [hq])⟩
end
end Go.Proofs.YtingdebioipemaaGreatDoor
