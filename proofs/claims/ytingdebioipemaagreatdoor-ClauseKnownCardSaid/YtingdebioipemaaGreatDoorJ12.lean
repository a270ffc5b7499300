/- Contracts: the document's side of clauses: what follows by clauses of one literal. -/
import Derived.Test.YtingdebioipemaaGreatDoorJ11
import Derived.Test.YtingdebioipemaaGreatDoorJ10
import Derived.Test.YtingdebioipemaaGreatDoorJ4
open Nat renaming reduceEqDiff → rq, reduceAdd → rA, reduceLeDiff → rL, reduceLT → rT, zero_add → zA, le_refl → lR, zero_le → zL, add_zero → aZ
open List renaming length_cons → lC, length_nil → lN, take_succ_cons → tS, length_append → lAq, nil_append → nAq, cons_append → cAq, append_assoc → aA, take_nil → tN, take_zero → tZ, length_map → lM
open Bool renaming not_false → nFq, not_true → nT
namespace Go.Proofs.YtingdebioipemaaGreatDoor
open Go Go.Am Go.Cl
set_option maxRecDepth 100000
variable {P:Program} {G:Nat→Option V}
section
attribute [local go_sem] nFq nT aZ lR Nat.mul_one zA zL decide_false decide_true Qt QkF QkE Qhn Qhm Qhl Qhk Qhj Qhi QkD QkC QkB QkA Qkz Qky Qpc Qpb
def uR0 (tf tw:Nat) (v:Int) (F:List (List Int)) (S:List Int):List (Option Ob) :=
 [some (.arr tf 33 [.int .i64 v,.lst 1 (F.map row) false]),some (.arr tw 3 (ints S))]
abbrev rpJ (tf:Nat) (v:Int) (F:List (List Int)) (S:List Int):Nat→Fr→H→Prop:=fun i fr σ=>∃ S1 t tw,Qag S (F.take i)=some S1∧Inv F S1∧S.length≤S1.length∧Qi fr 1=.ptr 0 tf 0∧Qi fr 4=.sl 1 tw 0 1 S1.length none∧Qi fr 5=.bool (decide (S.length<S1.length))∧Qi fr 6=.int .i64 ((i:Nat):Int)∧σ=⟨t,uR0 tf tw v F S1⟩
abbrev rpE (tf:Nat) (v:Int) (F:List (List Int)) (S:List Int):AE→Fr→H→Prop:=fun e fr σ=>(e=.ret∧Qag S F=none∧Qi fr 2=.lst 0 [] true∧Qi fr 3=.bool false) ∨
 (e=.ex 2∧∃ S1 t tw,Qag S F=some S1∧Inv F S1∧S.length≤S1.length∧Qi fr 1=.ptr 0 tf 0∧Qi fr 4=.sl 1 tw 0 1 S1.length none∧Qi fr 5=.bool (decide (S.length<S1.length))∧σ=⟨t,uR0 tf tw v F S1⟩)
set_option maxHeartbeats 2000000 in
theorem QtS (hT:Qn P tab) {tf:Nat} {v:Int} {F:List (List Int)} {S:List Int} (hF:F.length≤1000) (hc:∀ c∈F,c.length≤1000) (hz:Nz F) (hrt:∀ c∈F,∀ n∈c,-16777216≤n∧n≤16777216) {i:Nat} {c:List Int} (hci:F[i]?=some c) {fr:Fr} {σ:H} (hJ:rpJ tf v F S i fr σ) :
 W P G 129 0 (.seq (zg Qpc [17,18,19,20] (zw 21 .skip (.exit 2))) (.seq (.block 3 (zg Qpb [] (zg QkF [] (.seq (zg QkE [] (.block 4 (.loop (.seq (zg Qhn [24,25,26,27,28,29,30] (zw 31 .skip (.exit 4))) (.seq (.block 5 (zg Qhm [34,35,36,37,38,39,40,41] (zg Qhl [42,43,44,45,46,47] (zg Qhk [48,49,50,51,52,53,54,55,56,57,58,59,60,61,62,63] (zw 64 (.reg Qhj [65,66,67,68]) .skip))))) (.reg Qhi [32,33])))))) (.seq (zg QkD [69,70,71,72,73,74] (zw 75 (zg QkC [] .ret) .skip)) (zg QkB [76,77,78,79,80,81] (zw 82 (zg QkA [83,84,85,86,87,88] (.reg Qkz [])) .skip))))))) (.reg Qky [22,23]))) fr σ (ZB (fun fr σ=>∃ fr' σ',Shift G 129 0 fr σ fr' σ'∧rpJ tf v F S (i+1) fr' σ') (rpE tf v F S)):=by
 obtain ⟨S1,t,tw,hp,hI,hle,f1,f4,f5,f6,rfl⟩:=hJ
 obtain ⟨hlt,hD,e2⟩:=Zz hci (by omega)
 have hcm:=List.mem_of_getElem? hci
 have hSl:S1.length≤1000000:=by
  have h1:=hI.len
  have h2:=Qhe hc
  have h3:F.length * 1000≤1000 * 1000:=Nat.mul_le_mul_right _ hF
  omega
 have hps:=QbV (S:=S) hci hp
 have hst:=QoB (S:=S1) (c:=c)
 have hLl:=Qlb (S:=S1) c
 have hcl:=hc c hcm
 refine Qh [(1,.ptr 0 tf 0),(4,.sl 1 tw 0 1 S1.length none),(5,.bool (decide (S.length<S1.length))),(6,.int .i64 ((i:Nat):Int))] ⟨f1,f4,f5,f6,trivial⟩  1000 ?_
 simp -implicitDefEqProofs (disch:=omega) only [go_sem,↓reduceIte,rA,rq,uR0,lM,true_implies,and_true,hlt]
 refine Xk (Shift.own (s:=8) (z:=0) (sz:=1) (T:=3) (by simp -implicitDefEqProofs (disch:=omega) only [go_sem,↓reduceIte,rq]) (by decide)) ?_
 simp -implicitDefEqProofs (disch:=omega) only [go_sem,↓reduceIte,rA,rq,H.push,lC,lN,cAq,nAq]
 refine XZ c (rkJ tf tw v F S1 c (decide (S.length<S1.length)) i) (rkE tf tw v F S1 c (decide (S.length<S1.length)) i) ⟨t+1,t,[],false,by simp [Zu],by simp,?_⟩ (fun k n hn fr σ hJ=>QtT hT hci hF hcl hSl (hrt c hcm) hn hJ) (fun k hk fr σ hJ=>?_) (fun e fr σ hE=>?_)
 ·simp -implicitDefEqProofs (disch:=omega) only [go_sem,↓reduceIte,rq,true_and,uR]
  simp [ints]
 ·obtain ⟨t,tl,L,hd,hL,hhd,f1,f4,f5,f6,f7,f8,f9,rfl⟩:=hJ
  rw [hk,List.take_length] at hL hhd
  refine Qh [(1,.ptr 0 tf 0),(4,.sl 1 tw 0 1 S1.length none),(5,.bool (decide (S.length<S1.length))),(6,.int .i64 ((i:Nat):Int)),(7,.bool hd),(8,.sl 2 tl 0 1 L.length none),(9,.int .i64 ((k:Nat):Int))] ⟨f1,f4,f5,f6,f7,f8,f9,trivial⟩ 1000 ?_
  simp -implicitDefEqProofs (disch:=omega) only [go_sem,↓reduceIte,rA,rq,lM,Qe,true_implies,and_true,uR,hlt,hD,hk,Nat.lt_irrefl]
  exact ⟨t,tl,L,hd,rfl,hL,hhd,rfl,rfl,rfl,rfl,rfl,rfl,rfl⟩
 ·obtain ⟨t,tl,L,hd,rfl,hL,hhd,f1,f4,f5,f6,f7,f8,rfl⟩:=hE
  rw [← hhd,← hL] at hst
  have hdrop:∀ S2 tw2,XJ (uR0 tf tw2 v F S2) (uR tf tw2 tl v F S2 L):=fun S2 tw2=>by simp [XJ,uR0,uR]
  cases hd with
  | true =>
    rw [if_pos rfl] at hst
    refine QO [(1,.ptr 0 tf 0),(4,.sl 1 tw 0 1 S1.length none),(5,.bool (decide (S.length<S1.length))),(6,.int .i64 ((i:Nat):Int)),(7,.bool true),(8,.sl 2 tl 0 1 L.length none)] ⟨f1,f4,f5,f6,f7,f8,trivial⟩  14 ?_
    simp -implicitDefEqProofs (disch:=omega) only [go_sem,↓reduceIte,rq,uR]
    iterate 9 (try (refine Qc 4 ?_; simp -implicitDefEqProofs (disch:=omega) only [go_sem,↓reduceIte,rq]))
    refine ⟨_,_,Shift.drop (o':=uR0 tf tw v F S1) (t':=t) (hdrop _ _) (lR _) (zL _),S1,t,tw,by rw [hps,hst],hI,hle,?_⟩
    simp -implicitDefEqProofs (disch:=omega) only [go_sem,↓reduceIte,rq,uR0,and_true,e2]
  | false =>
    rw [if_neg (by simp)] at hst
    by_cases h0:L.length=0
    ·have h0':((L.length:Int)==0)=true:=by simp [h0]
     rw [if_pos h0] at hst
     have hno:=Qje hci hp hst
     refine QO [(1,.ptr 0 tf 0),(4,.sl 1 tw 0 1 S1.length none),(5,.bool (decide (S.length<S1.length))),(6,.int .i64 ((i:Nat):Int)),(7,.bool false),(8,.sl 2 tl 0 1 L.length none)] ⟨f1,f4,f5,f6,f7,f8,trivial⟩  14 ?_
     simp -implicitDefEqProofs (disch:=omega) only [go_sem,↓reduceIte,rA,rq,uR,h0']
     iterate 9 (try (refine Qc 4 ?_; simp -implicitDefEqProofs (disch:=omega) only [go_sem,↓reduceIte,rq]))
     exact .inl ⟨rfl,hno,rfl,rfl⟩
    ·have h0':((L.length:Int)==0)=false:=by rw [beq_eq_false_iff_ne]; omega
     rw [if_neg h0] at hst
     by_cases h1:L.length=1
     ·have h1':((L.length:Int)==1)=true:=by simp [h1]
      rw [if_pos h1] at hst
      obtain ⟨a,ha⟩:=List.length_eq_one_iff.1 h1
      have hg:L.getD 0 0=a:=by rw [ha]; rfl
      have hD0:(ints L).getD 0 V.any=.int .i64 a:=by rw [ha]; rfl
      rw [hg] at hst
      have hap:ints S1++[V.int .i64 a]=ints (S1++[a]):=by simp [ints]
      have hdec:decide (S.length<(S1++[a]).length)=true:=by simp; omega
      have hI2:=((QhF hz hI hcm).2 _ hst).1
      have h1l:0<L.length:=by omega
      refine QO [(1,.ptr 0 tf 0),(4,.sl 1 tw 0 1 S1.length none),(5,.bool (decide (S.length<S1.length))),(6,.int .i64 ((i:Nat):Int)),(7,.bool false),(8,.sl 2 tl 0 1 L.length none)] ⟨f1,f4,f5,f6,f7,f8,trivial⟩  14 ?_
      simp -implicitDefEqProofs (disch:=omega) only [go_sem,↓reduceIte,rA,rq,uR,h0']
      iterate 16 (try (refine Qc 4 ?_; simp -implicitDefEqProofs (disch:=omega) only [go_sem,↓reduceIte,reduceCtorEq,rA,rq,rL,Int.reduceToNat,Int.reduceLE,Qe,true_implies,true_and,and_true,h1',hD0,hap]))
      refine ⟨_,_,Shift.drop (o':=uR0 tf t v F (S1++[a])) (t':=t+1) (hdrop _ _) (lR _) (zL _),S1++[a],t+1,t,by rw [hps,hst],hI2,by simp; omega,?_⟩
      rw [hdec]
      simp -implicitDefEqProofs (disch:=omega) only [go_sem,↓reduceIte,rq,uR0,and_true,e2,lAq]
     ·have h1':((L.length:Int)==1)=false:=by rw [beq_eq_false_iff_ne]; omega
      rw [if_neg h1] at hst
      refine QO [(1,.ptr 0 tf 0),(4,.sl 1 tw 0 1 S1.length none),(5,.bool (decide (S.length<S1.length))),(6,.int .i64 ((i:Nat):Int)),(7,.bool false),(8,.sl 2 tl 0 1 L.length none)] ⟨f1,f4,f5,f6,f7,f8,trivial⟩  14 ?_
      simp -implicitDefEqProofs (disch:=omega) only [go_sem,↓reduceIte,rA,rq,uR,h0']
      iterate 16 (try (refine Qc 4 ?_; simp -implicitDefEqProofs (disch:=omega) only [go_sem,↓reduceIte,rA,rq,h1']))
      refine ⟨_,_,Shift.drop (o':=uR0 tf tw v F S1) (t':=t) (hdrop _ _) (lR _) (zL _),S1,t,tw,by rw [hps,hst],hI,hle,?_⟩
      simp -implicitDefEqProofs (disch:=omega) only [go_sem,↓reduceIte,rq,uR0,and_true,e2]
end
section
attribute [local go_sem] nFq nT aZ lR Nat.mul_one Nat.one_mul Nat.succ_ne_zero zA zL Nat.zero_mul Option.getD_none Option.getD_some Option.isSome_none Option.isSome_some beq_self_eq_true bne_self_eq_false decide_false decide_true ge_iff_le gt_iff_lt Qt XB zqz_0 zqz_1 QkF QkE Qhn Qhm Qhl Qhk Qhj Qhi QkD QkC zqz_2 QkB QkA Qkz Qky QuZ Qpf Qpe QmZ QmY QmX zqz_3 Qpd QuY zqz_4 Qzk Qzj Qzi Qpc Qpb
abbrev r4J (t tf tw:Nat) (v:Int) (F:List (List Int)) (i z:Nat) (n:Int) (l R:List Int):Nat→Fr→H→Prop:=fun m fr σ=>∃ Q S,m=Q.length∧Q++S=l∧(∀ s∈S,av n<av s)∧Qi fr 4=.sl 1 tw 0 1 z none∧Qi fr 11=.int .i64 ((i:Nat):Int)∧Qi fr 12=.int .i64 ((m:Nat):Int)∧σ=⟨t,uR0 tf tw v F (Q++n::(S++R))⟩
abbrev r4E (t tf tw:Nat) (v:Int) (F:List (List Int)) (i z:Nat) (n:Int) (l R:List Int):AE→Fr→H→Prop:=fun e fr σ=>e=.ex 8∧∃ Q S,Q++S=l∧Srt (Q++n::S)∧Qi fr 4=.sl 1 tw 0 1 z none∧Qi fr 11=.int .i64 ((i:Nat):Int)∧σ=⟨t,uR0 tf tw v F (Q++n::(S++R))⟩
variable {σ:H} {fr:Fr} {F:List (List Int)} {v n:Int} {t tf tw i m:Nat}
theorem QtU (hT:Qn P tab) {z:Nat} {l R:List Int} (hl:Srt l) (hn:∀ s∈l,av s≠av n) (hb:∀ s∈n::l,-16777216≤s∧s≤16777216) (hz:l.length+1+R.length=z) (hlen:z≤1000000) (hJ:r4J t tf tw v F i z n l R m fr σ) :
 W P G 129 0 (.seq (zg QmZ [96,97,98,99,100,101,102,103,104,105,106,107,108] (zw 109 .skip (.exit 8))) (.seq (.block 9 (.reg QmY [112,113,114,115,116,117,118,119,120,121,122,123,124,125,126,127])) (.reg QmX [110,111]))) fr σ (ZB (fun fr σ=>∃ m' fr' σ',m'<m∧Shift G 129 0 fr σ fr' σ'∧r4J t tf tw v F i z n l R m' fr' σ') (r4E t tf tw v F i z n l R)):=by
 obtain ⟨Q,S,hq,hQS,hS,f4,f11,f12,rfl⟩:=hJ
 rcases List.eq_nil_or_concat Q with rfl | ⟨Q,p,rfl⟩
 ·rw [lN] at hq
  subst hq
  refine Qh [(4,.sl 1 tw 0 1 z none),(11,.int .i64 ((i:Nat):Int)),(12,.int .i64 0)] ⟨f4,f11,f12,trivial⟩  14 ?_
  simp -implicitDefEqProofs (disch:=omega) only [go_sem,↓reduceIte,rq,uR0,Int.lt_irrefl]
  iterate 9 (try (refine Qc 2 ?_; simp -implicitDefEqProofs (disch:=omega) only [go_sem,↓reduceIte,rq]))
  iterate 4 (try (refine Qc 4 ?_; simp -implicitDefEqProofs (disch:=omega) only [go_sem,↓reduceIte,reduceCtorEq,rA,rq,rL,rT,Nat.reduceSub,Nat.reduceMul,Int.reduceToNat,Int.reduceLE,Int.reduceLT,Int.reduceEq,Int.reduceNe,Nat.reduceBEq,Nat.reduceBNe,uR0,lM,Qe,false_implies,true_implies,true_and,and_true,not_true_eq_false,not_false_eq_true,lAq,lC]))
  exact ⟨rfl,[],S,hQS,QjP (P:=[]) (hQS▸hl) hS (by simp),rfl,rfl,rfl⟩
 ·rw [List.concat_eq_append] at *
  rw [lAq,List.length_singleton] at hq
  rw [aA] at hQS
  have hQz:Q.length+S.length+1+1+R.length=z:=by rw [← hz,← hQS]; simp; omega
  subst hq
  have w1:=Qz7 (q:=Q.length) (by omega)
  have w2:(0:Int)<((Q.length+1:Nat):Int):=by omega
  have w2':decide ((0:Int)<((Q.length+1:Nat):Int))=true:=decide_eq_true w2
  have g1:=Qsz (Q:=Q) (S:=n::(S++R)) (n:=p)
  have g2:=QnX (Q:=Q) (S:=S++R) (p:=p) (n:=n)
  have g3:=Qk4 (Q:=Q) (S:=S++R) (p:=p) (n:=n) (q:=p)
  have g4:=QjS (Q:=Q) (S:=p::(S++R)) (p:=n) (n:=p)
  have hp:p∈l:=by rw [← hQS]; simp
  have hB:=Qoj (P:=P) (G:=G) hT n p (by have:=hb n (by simp); omega) (by have:=hb p (by simp [hp]); omega)
  have e1:Q++[p]++n::(S++R)=Q++p::n::(S++R):=by simp
  by_cases hlt:av n<av p
  ·have hlt':decide (av n<av p)=true:=decide_eq_true hlt
   rw [hlt'] at hB
   rw [e1]
   refine Qh [(4,.sl 1 tw 0 1 z none),(11,.int .i64 ((i:Nat):Int)),(12,.int .i64 ((Q.length+1:Nat):Int))] ⟨f4,f11,f12,trivial⟩  14 ?_
   simp -implicitDefEqProofs (disch:=omega) only [go_sem,↓reduceIte,rA,rq,uR0,Qe,true_implies,true_and,and_true,lAq,lC,w1,w2,g2]
   iterate 4 (try (refine Qc 2 ?_; simp -implicitDefEqProofs (disch:=omega) only [go_sem,↓reduceIte,rA,rq,Qe,true_implies,true_and,and_true,lAq,lC,g1]))
   refine Qj hT Xf hB rfl 4 ?_
   simp -implicitDefEqProofs (disch:=omega) only [go_sem,↓reduceIte,rq]
   iterate 9 (try (refine Qc 4 ?_; simp -implicitDefEqProofs (disch:=omega) only [go_sem,↓reduceIte,rq,Qe,true_implies,true_and,and_true,lAq,lC,w1,g1,g2,g3,g4]))
   refine ⟨Q.length,_,_,by omega,Shift.refl _ _ _ _,Q,p::S,rfl,by rw [← hQS]; simp,fun s hs=>?_,?_⟩
   ·rcases List.mem_cons.1 hs with rfl | hs
    ·exact hlt
    ·exact hS s hs
   ·simp -implicitDefEqProofs (disch:=omega) only [go_sem,↓reduceIte,rq,uR0,and_true,cAq]
  ·have hlt':decide (av n<av p)=false:=decide_eq_false hlt
   rw [hlt'] at hB
   rw [e1]
   have e2:Q++[p]++n::S=Q++p::n::S:=by simp
   have hsr:Srt (Q++[p]++n::S):=QjP (P:=Q++[p]) (S:=S) (n:=n) (by rw [← hQS] at hl; simpa using hl) hS (fun q hq=>by
    simp at hq; subst hq
    have:=hn p hp; omega)
   refine Qh [(4,.sl 1 tw 0 1 z none),(11,.int .i64 ((i:Nat):Int)),(12,.int .i64 ((Q.length+1:Nat):Int))] ⟨f4,f11,f12,trivial⟩  14 ?_
   simp -implicitDefEqProofs (disch:=omega) only [go_sem,↓reduceIte,rA,rq,uR0,Qe,true_implies,true_and,and_true,lAq,lC,w1,w2,g2]
   iterate 4 (try (refine Qc 2 ?_; simp -implicitDefEqProofs (disch:=omega) only [go_sem,↓reduceIte,rA,rq,Qe,true_implies,true_and,and_true,lAq,lC,g1]))
   refine Qj hT Xf hB rfl 4 ?_
   simp -implicitDefEqProofs (disch:=omega) only [go_sem,↓reduceIte,rq]
   iterate 9 (try (refine Qc 4 ?_; simp -implicitDefEqProofs (disch:=omega) only [go_sem]))
   exact ⟨rfl,Q++[p],S,by rw [← hQS]; simp,hsr,rfl,rfl,by rw [e1]; rfl⟩
abbrev r3J (t tf tw:Nat) (v:Int) (F:List (List Int)) (S:List Int):Nat→Fr→H→Prop:=fun i fr σ=>∃ l,l.length=i∧Srt l∧(∀ x,x∈l↔x∈S.take i)∧Qi fr 4=.sl 1 tw 0 1 S.length none∧Qi fr 11=.int .i64 ((i:Nat):Int)∧σ=⟨t,uR0 tf tw v F (l++S.drop i)⟩
abbrev r3E (t tf tw:Nat) (v:Int) (F:List (List Int)) (S:List Int):AE→Fr→H→Prop:=fun e fr σ=>e=.ex 6∧Qi fr 4=.sl 1 tw 0 1 S.length none∧σ=⟨t,uR0 tf tw v F (Qbb S)⟩
theorem QtV (hT:Qn P tab) {S:List Int} (hO:Once S) (hb:∀ s∈S,-16777216≤s∧s≤16777216) (hlen:S.length≤1000000) (ha:S[i]?=some n) (hJ:r3J t tf tw v F S i fr σ) :
 W P G 129 0 (.seq (zg Qpf [89,90,91] (zw 92 .skip (.exit 6))) (.seq (.block 7 (zg Qpe [95] (.block 8 (.loop (.seq (zg QmZ [96,97,98,99,100,101,102,103,104,105,106,107,108] (zw 109 .skip (.exit 8))) (.seq (.block 9 (.reg QmY [112,113,114,115,116,117,118,119,120,121,122,123,124,125,126,127])) (.reg QmX [110,111]))))))) (.reg Qpd [93,94]))) fr σ (ZB (fun fr σ=>∃ fr' σ',Shift G 129 0 fr σ fr' σ'∧r3J t tf tw v F S (i+1) fr' σ') (r3E t tf tw v F S)):=by
 obtain ⟨l,hli,hs,hm,f4,f11,rfl⟩:=hJ
 obtain ⟨hlt,_,e2⟩:=Qas ha (by omega)
 have hts:=Qp ha
 have hd:S.drop i=n::S.drop (i+1):=by
  rw [List.drop_eq_getElem_cons hlt]
  congr 1
  exact (List.getElem?_eq_some_iff.1 ha).2
 have hO2:Once (S.take i++n::S.drop (i+1)):=by rw [← hd,List.take_append_drop]; exact hO
 have hne:∀ s∈l,av s≠av n:=fun s h=>(List.pairwise_append.1 hO2).2.2 s ((hm s).1 h) n (by simp)
 have hbn:∀ s∈n::l,-16777216≤s∧s≤16777216:=fun s h=>by
  rcases List.mem_cons.1 h with rfl | h
  ·exact hb _ (List.mem_of_getElem? ha)
  ·exact hb s (List.mem_of_mem_take ((hm s).1 h))
 have hz:l.length+1+(S.drop (i+1)).length=S.length:=by rw [List.length_drop]; omega
 rw [hd]
 generalize hR:S.drop (i+1)=R at *
 refine Qh [(4,.sl 1 tw 0 1 S.length none),(11,.int .i64 ((i:Nat):Int))] ⟨f4,f11,trivial⟩  1000 ?_
 simp -implicitDefEqProofs (disch:=omega) only [go_sem,↓reduceIte,rq,uR0,hlt]
 refine QX (r4J t tf tw v F i S.length n l R) (r4E t tf tw v F i S.length n l R) (m0:=l.length) ⟨l,[],rfl,by simp,by simp,?_⟩ (fun m fr σ hJ=>QtU hT hs hne hbn hz hlen hJ) (fun e fr σ hE=>?_)
 ·simp -implicitDefEqProofs (disch:=omega) only [go_sem,↓reduceIte,rq,uR0,and_true,hli,nAq]
 ·obtain ⟨rfl,Q,S',hQS,hsr,f4,f11,rfl⟩:=hE
  have hm2:∀ x,x∈Q++n::S'↔x∈S.take (i+1):=fun x=>by
   rw [hts,List.mem_append (s:=S.take i),← hm x,Qsl,hQS]
   simp only [List.mem_singleton]
  have hli2:(Q++n::S').length=i+1:=by
   have:(Q++S').length=i:=by rw [hQS,hli]
   simp at this ⊢; omega
  have hassoc:Q++n::(S'++R)=(Q++n::S')++R:=by simp
  refine QrT [(4,.sl 1 tw 0 1 S.length none),(11,.int .i64 ((i:Nat):Int))] ⟨f4,f11,trivial⟩  1000 ?_
  simp -implicitDefEqProofs (disch:=omega) only [go_sem,↓reduceIte,rq,uR0]
  refine ⟨_,_,Shift.refl _ _ _ _,Q++n::S',hli2,hsr,hm2,?_⟩
  rw [hR]
  simp -implicitDefEqProofs (disch:=omega) only [go_sem,↓reduceIte,rq,uR0,and_true,e2,hassoc]
abbrev r0J (tf:Nat) (v:Int) (F:List (List Int)):Nat→Fr→H→Prop:=fun m fr σ=>∃ S k t tw ag,Inv F S∧((ag=true∧m=k+1∧F.flatten.length+1≤k+S.length∧QhY F k S=Qbv F)∨(ag=false∧m=0∧Qbv F=some S))∧Qi fr 1=.ptr 0 tf 0∧Qi fr 4=.sl 1 tw 0 1 S.length none∧Qi fr 5=.bool ag∧σ=⟨t,uR0 tf tw v F S⟩
abbrev r0E (tf:Nat) (v:Int) (F:List (List Int)):AE→Fr→H→Prop:=fun e fr σ=>(e=.ret∧Qbv F=none∧Qi fr 2=.lst 0 [] true∧Qi fr 3=.bool false)∨(∃ S t tw,e=.ex 0∧Qbv F=some S∧Qi fr 4=.sl 1 tw 0 1 S.length none∧σ=⟨t,uR0 tf tw v F S⟩)
theorem QtW (hT:Qn P tab) (hF:F.length≤1000) (hc:∀ c∈F,c.length≤1000) (hz:Nz F) (hrt:∀ c∈F,∀ n∈c,-16777216≤n∧n≤16777216) (hJ:r0J tf v F m fr σ) :
 W P G 129 0 (.seq (zg Qzk [] (zw 16 .skip (.exit 0))) (.block 1 (zg Qzj [] (zg Qzi [] (.block 2 (.loop (.seq (zg Qpc [17,18,19,20] (zw 21 .skip (.exit 2))) (.seq (.block 3 (zg Qpb [] (zg QkF [] (.seq (zg QkE [] (.block 4 (.loop (.seq (zg Qhn [24,25,26,27,28,29,30] (zw 31 .skip (.exit 4))) (.seq (.block 5 (zg Qhm [34,35,36,37,38,39,40,41] (zg Qhl [42,43,44,45,46,47] (zg Qhk [48,49,50,51,52,53,54,55,56,57,58,59,60,61,62,63] (zw 64 (.reg Qhj [65,66,67,68]) .skip))))) (.reg Qhi [32,33])))))) (.seq (zg QkD [69,70,71,72,73,74] (zw 75 (zg QkC [] .ret) .skip)) (zg QkB [76,77,78,79,80,81] (zw 82 (zg QkA [83,84,85,86,87,88] (.reg Qkz [])) .skip))))))) (.reg Qky [22,23]))))))))) fr σ (ZB (fun fr σ=>∃ m' fr' σ',m'<m∧Shift G 129 0 fr σ fr' σ'∧r0J tf v F m' fr' σ') (r0E tf v F)):=by
 obtain ⟨S,k,t,tw,ag,hI,hk,f1,f4,f5,rfl⟩:=hJ
 rcases hk with ⟨rfl,rfl,hkl,hlu⟩ | ⟨rfl,rfl,hlu⟩
 ·have hdec0:decide (S.length<S.length)=false:=decide_eq_false (Nat.lt_irrefl _)
  refine Qh [(1,.ptr 0 tf 0),(4,.sl 1 tw 0 1 S.length none),(5,.bool true)] ⟨f1,f4,f5,trivial⟩  1000 ?_
  simp -implicitDefEqProofs (disch:=omega) only [go_sem,↓reduceIte,rq,uR0]
  refine XZ F (rpJ tf v F S) (rpE tf v F S) ⟨S,t,tw,rfl,hI,lR _,?_⟩ (fun i c hci fr σ hJ=>QtS hT hF hc hz hrt hci hJ) (fun i hi fr σ hJ=>?_) (fun e fr σ hE=>?_)
  ·simp -implicitDefEqProofs (disch:=omega) only [go_sem,↓reduceIte,rq,uR0,true_and,and_true,hdec0]
   simp
  ·obtain ⟨S1,t,tw,hp,hI1,hl1,f1,f4,f5,f6,rfl⟩:=hJ
   rw [hi,List.take_length] at hp
   refine Qh [(1,.ptr 0 tf 0),(4,.sl 1 tw 0 1 S1.length none),(5,.bool (decide (S.length<S1.length))),(6,.int .i64 ((i:Nat):Int))] ⟨f1,f4,f5,f6,trivial⟩ 1000 ?_
   simp -implicitDefEqProofs (disch:=omega) only [go_sem,↓reduceIte,rA,rq,uR0,lM,true_implies,and_true,lC,hi,Nat.lt_irrefl]
   exact .inr ⟨rfl,S1,t,tw,hp,hI1,hl1,rfl,rfl,rfl,rfl⟩
  ·rcases hE with ⟨rfl,hp,f2,f3⟩ | ⟨rfl,S1,t,tw,hp,hI1,hl1,f1,f4,f5,rfl⟩
   ·have hno:Qbv F=none:=by
     rw [← hlu]
     cases k with
     | zero=>rfl
     | succ k=>rw [QhY,hp]
    refine Qc 1000 ?_
    simp -implicitDefEqProofs (disch:=omega) only [go_sem]
    exact .inl ⟨rfl,hno,f2,f3⟩
   ·have hk:k≠0:=by have:=hI.len; omega
    obtain ⟨k,rfl⟩:=Nat.exists_eq_succ_of_ne_zero hk
    rw [QhY,hp] at hlu
    simp only at hlu
    refine Qc 1000 ?_
    simp -implicitDefEqProofs (disch:=omega) only [go_sem,↓reduceIte,uR0]
    by_cases hlen:S1.length=S.length
    ·rw [if_pos hlen] at hlu
     exact ⟨0,fr,_,by omega,Shift.refl _ _ _ _,S1,0,t,tw,decide (S.length<S1.length),hI1,.inr ⟨by simp; omega,rfl,hlu.symm⟩,f1,f4,f5,rfl⟩
    ·rw [if_neg hlen] at hlu
     exact ⟨k+1,fr,_,by omega,Shift.refl _ _ _ _,S1,k,t,tw,decide (S.length<S1.length),hI1,.inl ⟨by simp; omega,rfl,by omega,hlu⟩,f1,f4,f5,rfl⟩
 ·refine Qh [(1,.ptr 0 tf 0),(4,.sl 1 tw 0 1 S.length none),(5,.bool false)] ⟨f1,f4,f5,trivial⟩  1000 ?_
  simp -implicitDefEqProofs (disch:=omega) only [go_sem,↓reduceIte,rq,uR0]
  exact .inr ⟨S,t,tw,rfl,hlu,rfl,rfl⟩
set_option maxHeartbeats 1000000 in
theorem QuJ (hT:Qn P tab) (v:Int) (F:List (List Int)) (hF:F.length≤1000) (hc:∀ c∈F,c.length≤1000) :
 Pure P G YC [fml v F] fun u=>u=if right v F then (match YV F with | none=>.tup [row [],.bool false] | some l=>.tup [row l,.bool true]) else .tup [row [],.bool false]:=by
 refine Qku (fun t0=>?_) (by cases right v F <;> cases YV F <;> simp [Qd,Qb,Qbr])
 have hR:=Qfw (P:=P) (G:=G) hT v F (by omega) (fun c h=>by have:=hc c h; omega)
 simp only [fml,rows] at hR ⊢
 have h0:Wk (.tup [.lst 0 [] true,.bool false]) (.tup [row [],.bool false]):=.tup _ _ (.cons _ _ _ _ (QrA _) (.cons _ _ _ _ (.refl _) .nil))
 refine QM hT ZG (by simp [XB]) (Qx 1000 ?_)
 simp -implicitDefEqProofs (disch:=omega) only [go_sem,↓reduceIte,reduceCtorEq,rA,rq,false_implies,and_true,lC]
 refine Qj hT QE hR (by simp [Qb,Qd]) 1000 ?_
 cases hr:right v F with
 | false =>
   simp -implicitDefEqProofs (disch:=omega) only [go_sem,↓reduceIte,reduceCtorEq,rq,true_and]
   exact .inl h0
 | true =>
   have hrt:=(Xh.1 hr)
   have hz:=QdU hr
   have hrb:∀ c∈F,∀ n∈c,-16777216≤n∧n≤16777216:=fun c h n hn=>by have:=hrt.2 c h n hn; omega
   simp -implicitDefEqProofs (disch:=omega) only [go_sem,↓reduceIte,reduceCtorEq,rq]
   refine Xk (Shift.own (s:=4) (z:=0) (sz:=1) (T:=3) (by simp -implicitDefEqProofs (disch:=omega) only [go_sem,↓reduceIte,reduceCtorEq,rq]) (by decide)) ?_
   simp -implicitDefEqProofs (disch:=omega) only [go_sem,↓reduceIte,reduceCtorEq,rq,H.push,lC,lN,cAq,nAq]
   refine QX (r0J t0 v F) (r0E t0 v F) (m0:=F.flatten.length+2) ⟨[],F.flatten.length+1,t0+1+1,t0+1,true,Qj4 F,.inl ⟨rfl,rfl,by simp,rfl⟩,?_⟩ (fun m fr σ hJ=>QtW hT hF hc hz hrb hJ) (fun e fr σ hE=>?_)
   ·simp -implicitDefEqProofs (disch:=omega) only [go_sem,↓reduceIte,reduceCtorEq,rq,uR0,true_and,lN]
    simp [ints]
   ·rcases hE with ⟨rfl,hno,f2,f3⟩ | ⟨S,t,tw,rfl,hSo,f4,rfl⟩
    ·refine Qc 1000 ?_
     have hu:YV F=none:=by rw [YV,hno]; rfl
     simp -implicitDefEqProofs (disch:=omega) only [go_sem,true_and,f2,f3,hu]
     exact .inl h0
    ·obtain ⟨hI,hm⟩:=QeE hz hSo
     have hu:YV F=some (Qbb S):=by rw [YV,hSo]; rfl
     have hSl:S.length≤1000000:=by
      have h1:=hI.len
      have h2:=Qhe hc
      have h3:F.length * 1000≤1000 * 1000:=Nat.mul_le_mul_right _ hF
      omega
     have hb:∀ s∈S,-16777216≤s∧s≤16777216:=fun s hs=>by
      obtain ⟨c,hc,hnc⟩:=(hI.up s hs).in
      exact hrb c hc s hnc
     refine QO [(4,.sl 1 tw 0 1 S.length none)] ⟨f4,trivial⟩ 1000 ?_
     simp -implicitDefEqProofs (disch:=omega) only [go_sem,↓reduceIte,rq,uR0]
     refine XZ S (r3J t t0 tw v F S) (r3E t t0 tw v F S) ⟨[],rfl,.nil,by simp,?_⟩ (fun i n ha fr σ hJ=>QtV hT hI.once hb hSl ha hJ) (fun i hi fr σ hJ=>?_) (fun e fr σ hE=>?_)
     ·simp -implicitDefEqProofs (disch:=omega) only [go_sem,↓reduceIte,rq,uR0,true_and,and_true]
      simp
     ·obtain ⟨l,hli,hs,hm,f4,f11,rfl⟩:=hJ
      rw [hi,List.take_length] at hm
      have hl:=QnL hI.once hs hm
      have hd:l++S.drop i=Qbb S:=by rw [hi,List.drop_length,List.append_nil,hl]
      rw [hd]
      refine Qh [(4,.sl 1 tw 0 1 S.length none),(11,.int .i64 ((i:Nat):Int))] ⟨f4,f11,trivial⟩  1000 ?_
      simp -implicitDefEqProofs (disch:=omega) only [go_sem,↓reduceIte,rq,uR0,hi,Nat.lt_irrefl]
      exact ⟨rfl,rfl,rfl⟩
     ·obtain ⟨rfl,f4,rfl⟩:=hE
      refine QO [(4,.sl 1 tw 0 1 S.length none)] ⟨f4,trivial⟩ 1000 ?_
      simp -implicitDefEqProofs (disch:=omega) only [go_sem,↓reduceIte,rq,uR0,hu]
      have hfr:=QmD (k:=1) (w:=tw) (T:=0) (l:=Qbb S)
      rw [Z3] at hfr
      refine ⟨1,tw,_,ints (Qbb S),rfl,QQ _,?_,?_⟩
      ·simp only [X3,Qix] at hfr ⊢
       rw [hfr]
       simp [Qd,Qb,Qbr]
      ·simp only [X3,Qix] at hfr ⊢
       rw [hfr]
       exact .refl _
end
end Go.Proofs.YtingdebioipemaaGreatDoor
namespace Go.Proofs.YtingdebioipemaaGreatDoor
open Go Go.Am Go.Cl
set_option maxRecDepth 100000
variable {G:Nat→Option V}
section
attribute [local go_sem] nFq nT lM aZ lR Nat.mul_one Nat.one_mul Nat.succ_ne_zero zA zL Nat.zero_mul Option.getD_none Option.getD_some Option.isSome_none Option.isSome_some beq_self_eq_true bne_self_eq_false decide_false decide_true ge_iff_le gt_iff_lt Qe Qt QT zqb_0 zqb_1 zqb_2 zqb_3 zqb_4 zqb_5 zqb_6 zqb_7 zqb_8
theorem Qml {V:Int}:∀ {l:List Int} {lo:Int},Srt l→(∀ n∈l,lo<av n∧av n≤V)→lo≤V→(l.length:Int)≤V - lo
 | [],_,_,_,h=>by simp; omega
 | a::l,lo,hs,hb,_=>by
   have hs':=List.pairwise_cons.1 hs
   have ha:=hb a (by simp)
   have:=Qml (l:=l) (lo:=av a) hs'.2 (fun n hn=>⟨hs'.1 n hn,(hb n (by simp [hn])).2⟩) ha.2
   simp only [lC]
   omega
theorem QrH {v:Int} {F:List (List Int)} (hr:right v F=true) {l:List Int} (h:YV F=some l):l.length≤16777216:=by
 obtain ⟨hs,hm⟩:=QdP (QdU hr) h
 obtain ⟨h1,h2⟩:=Xh.1 hr
 have:=Qml (V:=v) (lo:=0) hs (fun n hn=>by
  obtain ⟨c,hc,hnc⟩:=((hm n).1 hn).in
  have:=h2 c hc n hnc
  unfold av; split <;> omega) (by omega)
 omega
theorem Qja (v:Int) (F:List (List Int)):∃ l b,((right v F=false∧l=[]∧b=false)∨(right v F=true∧YV F=none∧l=[]∧b=false)∨(right v F=true∧YV F=some l∧b=true))∧l.length≤16777216:=by
 cases hr:right v F with
 | false=>exact ⟨[],false,.inl ⟨rfl,rfl,rfl⟩,by simp⟩
 | true =>
   cases hu:YV F with
   | none=>exact ⟨[],false,.inr (.inl ⟨rfl,rfl,rfl,rfl⟩),by simp⟩
   | some l=>exact ⟨l,true,.inr (.inr ⟨rfl,rfl,rfl⟩),QrH hr hu⟩
theorem Qim (v:Int) (F:List (List Int)) (L:List Int) (hF:F.length≤1000) (hc:∀ c∈F,c.length≤1000):∃ w A b,Yh v F L=.tup [fml w A,.bool b]∧A.length≤1000∧∀ c∈A,c.length≤1000:=by
 unfold Yh
 split
 ·refine ⟨v,assign F L,true,rfl,?_,fun c h=>?_⟩
  ·unfold assign
   have:=List.length_filter_le (fun c:List Int=>!c.any fun n=>decide (n∈L)) F
   simp only [lM]; omega
  ·unfold assign at h
   obtain ⟨d,hd,rfl⟩:=List.mem_map.1 h
   have h1:=hc d (List.mem_filter.1 hd).1
   unfold ZA
   have:=List.length_filter_le (fun n=>!decide (-n∈L)) d
   omega
 ·exact ⟨0,[],false,rfl,by simp,by simp⟩
theorem Qfy (hT:Qn Tryz.prog tab) (K:QuX Tryz.prog) (It:QeR Tryz.prog G) (v:Int) (F:List (List Int)) (L:List Int) (hF:F.length≤9223372036854775807) (hFc:∀ c∈F,c.length≤9223372036854775807) (hL:L.length≤9223372036854775807) (hb:∀ n∈L,-9223372036854775808≤n∧n≤9223372036854775807) :
 Am.Pure Tryz.prog G Xc [fml v F,row L] fun u=>u=.bool true:=by
 have hW:=Qig (G:=G) hT K It
 have hf:=Qoi (P:=Tryz.prog) (G:=G) hT v F 60 (by omega) hF hFc
 have hp:=QmP (P:=Tryz.prog) (G:=G) hT v F
 have nF:Qb [fml v F]=true:=by simp [fml,rows,Qb,Qd]
 have nFL:Qb [fml v F,row L]=true:=by simp [fml,rows,row,Qb,Qd]
 have nF60:Qb [fml v F,.int .i64 60]=true:=by simp [fml,rows,Qb,Qd]
 intro t
 simp only [fml,rows,row] at hf hp nF nFL nF60 ⊢
 refine Xa 0 (zL _) (QM hT Xb (by simp [QT]) (Qx 1000 ?_))
 simp -implicitDefEqProofs (disch:=omega) only [go_sem,↓reduceIte,reduceCtorEq,rA,rq]
 refine Qj hT Xy hf nF60 4 ?_
 cases h1:QmG F 60 with
 | false =>
   simp -implicitDefEqProofs (disch:=omega) only [go_sem,↓reduceIte,reduceCtorEq,rq]
   iterate 9 (try (refine Qc 4 ?_; simp -implicitDefEqProofs (disch:=omega) only [go_sem,↓reduceIte,reduceCtorEq,rq]))
   refine Qj hT Qm hW rfl 4 ?_
   simp -implicitDefEqProofs (disch:=omega) only [go_sem,↓reduceIte,reduceCtorEq,rq]
   iterate 4 (try (refine Qc 4 ?_; simp -implicitDefEqProofs (disch:=omega) only [go_sem,↓reduceIte,reduceCtorEq,rq]))
 | true =>
   rcases Nat.lt_or_ge 30 L.length with h2 | h2
   ·have h2':decide ((30:Int)<(L.length:Int))=true:=decide_eq_true (by omega)
    have h2'':(30:Int)<(L.length:Int):=by omega
    simp -implicitDefEqProofs (disch:=omega) only [go_sem,↓reduceIte,reduceCtorEq,rA,rq]
    iterate 9 (try (refine Qc 4 ?_; simp -implicitDefEqProofs (disch:=omega) only [go_sem,↓reduceIte,reduceCtorEq,rA,rq,h2'']))
    refine Qj hT Qm hW rfl 4 ?_
    simp -implicitDefEqProofs (disch:=omega) only [go_sem,↓reduceIte,reduceCtorEq,rq]
    iterate 4 (try (refine Qc 4 ?_; simp -implicitDefEqProofs (disch:=omega) only [go_sem,↓reduceIte,reduceCtorEq,rq]))
   ·have h2':decide ((30:Int)<(L.length:Int))=false:=decide_eq_false (by omega)
    have h2'':¬ (30:Int)<(L.length:Int):=by omega
    have hfw:F.length≤60∧∀ c∈F,c.length≤30:=by
     unfold QmG at h1
     simp only [Bool.and_eq_true,decide_eq_true_eq,List.all_eq_true] at h1
     exact h1
    have hA:=Qok (P:=Tryz.prog) (G:=G) hT v F L (by omega) (fun c h=>by have:=hfw.2 c h; omega) (by omega) hb
    have hA2:=Qs0 (P:=Tryz.prog) (G:=G) hT v F L (by omega) (fun c h=>by have:=hfw.2 c h; omega) (by omega) hb
    have hU:=QmQ (P:=Tryz.prog) (G:=G) hT QAh v F (by omega) (fun c h=>by have:=hfw.2 c h; omega)
    have hU2:=QuJ (P:=Tryz.prog) (G:=G) hT v F (by omega) (fun c h=>by have:=hfw.2 c h; omega)
    obtain ⟨w,A,b,ea,la,lc⟩:=Qim v F L (by omega) (fun c h=>by have:=hfw.2 c h; omega)
    obtain ⟨l,b2,eu,lu⟩:=Qja v F
    rw [Qtc,ea] at hA2
    rw [ea] at hA
    replace hU:Am.Pure Tryz.prog G Y3 [fml v F] fun u=>u=.tup [row l,.bool b2]:=by
     rcases eu with ⟨e1,rfl,rfl⟩ | ⟨e1,e2,rfl,rfl⟩ | ⟨e1,e2,rfl⟩
     ·simpa [e1] using hU
     ·simpa [e1,e2] using hU
     ·simpa [e1,e2] using hU
    replace hU2:Am.Pure Tryz.prog G YC [fml v F] fun u=>u=.tup [row l,.bool b2]:=by
     rcases eu with ⟨e1,rfl,rfl⟩ | ⟨e1,e2,rfl,rfl⟩ | ⟨e1,e2,rfl⟩
     ·simpa [e1] using hU2
     ·simpa [e1,e2] using hU2
     ·simpa [e1,e2] using hU2
    have hS:=Qkm (P:=Tryz.prog) (G:=G) hT w w A A (by omega) (by omega) (fun c h=>by have:=lc c h; omega) (fun c h=>by have:=lc c h; omega)
    have hI:=Qcd (P:=Tryz.prog) (G:=G) hT l l (by omega) (by omega)
    have nA:Qb [fml w A,fml w A]=true:=by simp [fml,rows,Qb,Qd]
    have nl:Qb [row l,row l]=true:=by simp [row,Qb,Qd]
    have eb:(b==b)=true:=by simp
    have eb2:(b2==b2)=true:=by simp
    simp only [and_self,decide_true] at hS hI
    simp only [fml,rows,row] at hA hA2 hU hU2 hS hI nA nl
    simp -implicitDefEqProofs (disch:=omega) only [go_sem,↓reduceIte,reduceCtorEq,rA,rq]
    iterate 9 (try (refine Qc 4 ?_; simp -implicitDefEqProofs (disch:=omega) only [go_sem,↓reduceIte,reduceCtorEq,rA,rq,false_implies,and_true,h2'']))
    refine Qj hT QZ hp nF 40 ?_
    simp -implicitDefEqProofs (disch:=omega) only [go_sem,↓reduceIte,reduceCtorEq,rA,rq,false_implies,and_true]
    refine Qj hT QaU hA nFL 40 ?_
    simp -implicitDefEqProofs (disch:=omega) only [go_sem,↓reduceIte,reduceCtorEq,rA,rq,rT,false_implies,and_true]
    refine Qj hT Zj hA2 nFL 40 ?_
    simp -implicitDefEqProofs (disch:=omega) only [go_sem,↓reduceIte,reduceCtorEq,rA,rq,rT,false_implies,and_true]
    refine Qj hT ZY hU nF 40 ?_
    simp -implicitDefEqProofs (disch:=omega) only [go_sem,↓reduceIte,reduceCtorEq,rA,rq,rT,false_implies,and_true]
    refine Qj hT ZG hU2 nF 4 ?_
    simp -implicitDefEqProofs (disch:=omega) only [go_sem,↓reduceIte,reduceCtorEq,rA,rq,rT]
    iterate 9 (try (refine Qc 4 ?_; simp -implicitDefEqProofs (disch:=omega) only [go_sem,↓reduceIte,reduceCtorEq,rA,rq,false_implies,and_true]))
    refine Qj hT Xm hS nA 4 ?_
    simp -implicitDefEqProofs (disch:=omega) only [go_sem,↓reduceIte,reduceCtorEq,rA,rq]
    iterate 9 (try (refine Qc 4 ?_; simp -implicitDefEqProofs (disch:=omega) only [go_sem,↓reduceIte,reduceCtorEq,rA,rq]))
    refine Qj hT Qu hI nl 4 ?_
    simp -implicitDefEqProofs (disch:=omega) only [go_sem,↓reduceIte,reduceCtorEq,rA,rq]
    iterate 9 (try (refine Qc 4 ?_; simp -implicitDefEqProofs (disch:=omega) only [go_sem,↓reduceIte,reduceCtorEq,rA,rq,rL,rT,Nat.reduceSub,Nat.reduceMul,Int.reduceToNat,Int.reduceLE,Int.reduceLT,Int.reduceEq,Int.reduceNe,Nat.reduceBEq,Nat.reduceBNe,false_implies,true_implies,true_and,and_true,not_true_eq_false,not_false_eq_true,Int.reduceBEq,Int.reduceBNe]))
    refine Qj hT Qm hW rfl 4 ?_
    simp -implicitDefEqProofs (disch:=omega) only [go_sem,↓reduceIte,reduceCtorEq,rq]
    iterate 4 (try (refine Qc 4 ?_; simp -implicitDefEqProofs (disch:=omega) only [go_sem,↓reduceIte,reduceCtorEq,rA,rq,and_true]))
end
end Go.Proofs.YtingdebioipemaaGreatDoor
namespace Go.Proofs.YtingdebioipemaaGreatDoor
open Go Go.Am Go.Cl
set_option maxRecDepth 100000
variable {P:Program} {G:Nat→Option V}
section
attribute [local go_sem] nFq cAq lC lN nAq aZ Nat.mul_one zA zL and_true decide_false decide_true Qt Qi9 Qi8 Qi7 true_and true_implies
variable {σ:H} {fr:Fr}
theorem QrU {n base:Nat} {c:AC} {s:List KI} {Q:AE→Fr→H→Prop} (J:Fr→H→Prop) (h1:W P G n base c fr σ fun e fr σ=>e=.nrm∧J fr σ) (h2:∀ fr σ,J fr σ→sem P G n base Q s .nrm fr σ):sem P G n base Q (.ac c::s) .nrm fr σ :=
 h1.conseq fun e fr σ ⟨he,hJ⟩=>by subst he; exact h2 fr σ hJ
def Q4 (v M:Nat):List Bool:=(List.range v).map fun j=>decide (M / 2 ^ j % 2=1)
theorem QdW (v M:Nat):(Q4 v M).length=v:=by simp [Q4]
theorem bit_ok:∀ M:Nat,M<256→∀ j:Nat,j<8→(Qzf IntKind.i64 (((M:Nat):Int).fdiv (2 ^ min j 64)) 1==1)=decide (M / 2 ^ j % 2=1):=by
 have h:(List.range 256).all (fun M=>(List.range 8).all fun j=>(Qzf IntKind.i64 (((M:Nat):Int).fdiv (2 ^ min j 64)) 1==1)==decide (M / 2 ^ j % 2=1))=true:=by decide +kernel
 intro M hM j hj
 have h1:=List.all_eq_true.1 h M (List.mem_range.2 hM)
 exact eq_of_beq (List.all_eq_true.1 h1 j (List.mem_range.2 hj))
variable {v M:Nat}
theorem QoJ {j:Nat} (h:j<v):List.take j (((Q4 v M).take j).map V.bool++List.replicate (v - j) (V.bool false))++[V.bool (decide (M / 2 ^ j % 2=1))]++List.drop (j+1) (((Q4 v M).take j).map V.bool++List.replicate (v - j) (V.bool false))=((Q4 v M).take (j+1)).map V.bool++List.replicate (v - (j+1)) (V.bool false):=by
 have hl:(((Q4 v M).take j).map V.bool).length=j:=by simp [QdW]; omega
 have hg:(Q4 v M)[j]?=some (decide (M / 2 ^ j % 2=1)):=by simp [Q4,h]
 rw [List.take_left' hl,Qp hg,List.map_append]
 obtain ⟨n,hn⟩:∃ n,v - j=n+1:=⟨v - j - 1,by omega⟩
 rw [hn,show v - (j+1)=n by omega,List.drop_append,hl,List.drop_of_length_le (by omega)]
 simp [List.replicate_succ]
def mH (tf tl:Nat) (v w:Int) (F A:List (List Int)):List (Option Ob):=[some (.arr tf 24 [.int .i64 v,.lst 1 (F.map row) false]),some (.arr tl 24 [.int .i64 w,.lst 1 (A.map row) false])]
abbrev fiJ (tf tl:Nat) (v:Nat) (w:Int) (F A:List (List Int)) (L l a b c:List Int) (xa xb:V) (ok can made:Bool) (M:Nat):Nat→Fr→H→Prop:=fun z fr σ=>∃ j t tm,j≤v∧z=v - j∧Qi fr 1=.lst 1 (ints L) false∧Qi fr 5=.ptr 0 tf 0∧Qi fr 11=.ptr 1 tl 0∧Qi fr 12=.bool ok∧Qi fr 13=.lst 1 (ints l) false∧Qi fr 14=.bool can∧Qi fr 15=xa∧Qi fr 16=xb∧Qi fr 17=.lst 1 (ints c) false∧Qi fr 18=.bool made∧Qi fr 19=.int .i64 ((M:Nat):Int)∧Qi fr 20=.sl 2 tm 0 1 v none∧Qi fr 21=.int .i64 ((j:Nat):Int)∧σ=⟨t,mH tf tl v w F A++[some (.arr tm 4 (((Q4 v M).take j).map V.bool++List.replicate (v - j) (.bool false)))]⟩
abbrev fiE (tf tl:Nat) (v:Nat) (w:Int) (F A:List (List Int)) (L l a b c:List Int) (xa xb:V) (ok can made:Bool) (M:Nat):AE→Fr→H→Prop:=fun e fr σ=>∃ t tm,e=.ex 2∧Qi fr 1=.lst 1 (ints L) false∧Qi fr 5=.ptr 0 tf 0∧Qi fr 11=.ptr 1 tl 0∧Qi fr 12=.bool ok∧Qi fr 13=.lst 1 (ints l) false∧Qi fr 14=.bool can∧Qi fr 15=xa∧Qi fr 16=xb∧Qi fr 17=.lst 1 (ints c) false∧Qi fr 18=.bool made∧Qi fr 19=.int .i64 ((M:Nat):Int)∧Qi fr 20=.sl 2 tm 0 1 v none∧σ=⟨t,mH tf tl v w F A++[some (.arr tm 4 ((Q4 v M).map V.bool))]⟩
theorem Qur {tf tl:Nat} {w:Int} {F A:List (List Int)} {L l a b c:List Int} {xa xb:V} {ok can made:Bool} (hv:v≤8) (hM:M<256) {z:Nat} (hJ:fiJ tf tl v w F A L l a b c xa xb ok can made M z fr σ) :
 W P G 153 0 (.seq (zg Qi9 [92,93,94] (zw 95 .skip (.exit 2))) (.seq (.block 3 (.reg Qi8 [98,99,100,101,102,103,104,105])) (.reg Qi7 [96,97]))) fr σ (ZB (fun fr σ=>∃ m' fr' σ',m'<z∧Shift G 153 0 fr σ fr' σ'∧fiJ tf tl v w F A L l a b c xa xb ok can made M m' fr' σ') (fiE tf tl v w F A L l a b c xa xb ok can made M)):=by
 obtain ⟨j,t,tm,hj,rfl,f1,f5,f11,f12,f13,f14,f15,f16,f17,f18,f19,f20,f21,rfl⟩:=hJ
 rcases Nat.lt_or_ge j v with hlt | hge
 ·have e2:IntKind.i64.wrap ((j:Int)+1)=((j+1:Nat):Int):=by rw [QcT (by omega)]; omega
  have hl1:(((Q4 v M).take j).map V.bool++List.replicate (v - j) (V.bool false)).length=v:=by simp [QdW]; omega
  refine Qh [(1,.lst 1 (ints L) false),(5,.ptr 0 tf 0),(11,.ptr 1 tl 0),(12,.bool ok),(13,.lst 1 (ints l) false),(14,.bool can),(15,xa),(16,xb),(17,.lst 1 (ints c) false),(18,.bool made),(19,.int .i64 ((M:Nat):Int)),(20,.sl 2 tm 0 1 v none),(21,.int .i64 ((j:Nat):Int))] ⟨f1,f5,f11,f12,f13,f14,f15,f16,f17,f18,f19,f20,f21,trivial⟩  1000 ?_
  simp -implicitDefEqProofs (disch:=omega) only [go_sem,↓reduceIte,rA,rq,rL,mH,hlt,hl1]
  have hb:=bit_ok M hM j (by omega)
  have hms:=QoJ (v:=v) (M:=M) hlt
  refine ⟨v - (j+1),_,_,by omega,Shift.refl _ _ _ _,j+1,t,tm,by omega,rfl,?_⟩
  simp -implicitDefEqProofs (disch:=omega) only [go_sem,↓reduceIte,rq,mH,e2,hb]
  rw [hms]
 ·have hj':j=v:=by omega
  subst hj'
  refine Qh [(1,.lst 1 (ints L) false),(5,.ptr 0 tf 0),(11,.ptr 1 tl 0),(12,.bool ok),(13,.lst 1 (ints l) false),(14,.bool can),(15,xa),(16,xb),(17,.lst 1 (ints c) false),(18,.bool made),(19,.int .i64 ((M:Nat):Int)),(20,.sl 2 tm 0 1 j none),(21,.int .i64 ((j:Nat):Int))] ⟨f1,f5,f11,f12,f13,f14,f15,f16,f17,f18,f19,f20,f21,trivial⟩  1000 ?_
  simp -implicitDefEqProofs (disch:=omega) only [go_sem,↓reduceIte,rA,rq,rL,mH,Nat.lt_irrefl]
  refine ⟨t,tm,rfl,rfl,rfl,rfl,rfl,rfl,rfl,rfl,rfl,rfl,rfl,rfl,rfl,?_⟩
  rw [List.take_of_length_le (by rw [QdW]; exact lR _),Nat.sub_self]
  simp [mH]
end
end Go.Proofs.YtingdebioipemaaGreatDoor
