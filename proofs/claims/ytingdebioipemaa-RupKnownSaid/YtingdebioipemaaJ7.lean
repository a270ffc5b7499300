/- Contracts: the document's side of clauses: Units. -/
import Derived.Test.YtingdebioipemaaJ6
open Nat renaming reduceEqDiff → rq, reduceAdd → rA, reduceLeDiff → rL, reduceLT → rTq, zero_add → zA, le_refl → lR, zero_le → zL, add_zero → aZ
open List renaming length_cons → lC, length_nil → lN, take_succ_cons → tS, length_append → lA, nil_append → nA, cons_append → cA, append_assoc → aA, take_nil → tN, take_zero → tZ, length_map → lM
open Bool renaming not_false → nF, not_true → nT
namespace Go.Proofs.Ytingdebioipemaa
open Go Go.Am Go.Cl
set_option maxRecDepth 100000
variable {P:Program} {G:Nat→Option V}
section
attribute [local go_sem] nF nT aZ lR Nat.mul_one Nat.one_mul Nat.succ_ne_zero zA zL Nat.zero_mul Option.getD_none Option.getD_some Option.isSome_none Option.isSome_some beq_self_eq_true bne_self_eq_false decide_false decide_true ge_iff_le gt_iff_lt Qt Xj Qur Quq QgP QgO Qd7 Qd6 Qd5 Qd4 Qd3 Qd2 QgN QgM Qup QgL QgK QgJ QgI Qo3 Qk3 Qk2 QiB QiA Qiz Quo Qk1 Qo2 Qun Qo1 Qo0 QoZ Qjt Qjs
abbrev r4J (t tf tw:Nat) (v:Int) (F:List (List Int)) (i z:Nat) (n:Int) (l R:List Int):Nat→Fr→H→Prop:=fun m fr σ=>∃ Q S,m=Q.length∧Q++S=l∧(∀ s∈S,av n<av s)∧Qg fr 4=.sl 1 tw 0 1 z none∧Qg fr 11=.int .i64 ((i:Nat):Int)∧Qg fr 12=.int .i64 ((m:Nat):Int)∧σ=⟨t,uR0 tf tw v F (Q++n::(S++R))⟩
abbrev r4E (t tf tw:Nat) (v:Int) (F:List (List Int)) (i z:Nat) (n:Int) (l R:List Int):AE→Fr→H→Prop:=fun e fr σ=>e=.ex 8∧∃ Q S,Q++S=l∧Srt (Q++n::S)∧Qg fr 4=.sl 1 tw 0 1 z none∧Qg fr 11=.int .i64 ((i:Nat):Int)∧σ=⟨t,uR0 tf tw v F (Q++n::(S++R))⟩
variable {σ:H} {fr:Fr} {F:List (List Int)} {v n:Int} {t tf tw i m:Nat}
theorem QrR (hT:Qj P tab) {z:Nat} {l R:List Int} (hl:Srt l) (hn:∀ s∈l,av s≠av n) (hb:∀ s∈n::l,-16777216≤s∧s≤16777216) (hz:l.length+1+R.length=z) (hlen:z≤1000000) (hJ:r4J t tf tw v F i z n l R m fr σ) :
 W P G 129 0 (.seq (zg QiB [96,97,98,99,100,101,102,103,104,105,106,107,108] (zw 109 .skip (.exit 8))) (.seq (.block 9 (.reg QiA [112,113,114,115,116,117,118,119,120,121,122,123,124,125,126,127])) (.reg Qiz [110,111]))) fr σ (Y9 (fun fr σ=>∃ m' fr' σ',m'<m∧Shift G 129 0 fr σ fr' σ'∧r4J t tf tw v F i z n l R m' fr' σ') (r4E t tf tw v F i z n l R)):=by
 obtain ⟨Q,S,hq,hQS,hS,f4,f11,f12,rfl⟩:=hJ
 rcases List.eq_nil_or_concat Q with rfl | ⟨Q,p,rfl⟩
 ·rw [lN] at hq
  subst hq
  refine Qf [(4,.sl 1 tw 0 1 z none),(11,.int .i64 ((i:Nat):Int)),(12,.int .i64 0)] ⟨f4,f11,f12,trivial⟩  14 ?_
  simp -implicitDefEqProofs (disch:=omega) only [go_sem,↓reduceIte,rq,uR0,Int.lt_irrefl]
  iterate 9 (try (refine Qc 2 ?_; simp -implicitDefEqProofs (disch:=omega) only [go_sem,↓reduceIte,rq]))
  iterate 4 (try (refine Qc 4 ?_; simp -implicitDefEqProofs (disch:=omega) only [go_sem,↓reduceIte,reduceCtorEq,rA,rq,rL,rTq,Nat.reduceSub,Nat.reduceMul,Int.reduceToNat,Int.reduceLE,Int.reduceLT,Int.reduceEq,Int.reduceNe,Nat.reduceBEq,Nat.reduceBNe,uR0,lM,Qb,false_implies,true_implies,true_and,and_true,not_true_eq_false,not_false_eq_true,lA,lC]))
  exact ⟨rfl,[],S,hQS,QiT (P:=[]) (hQS▸hl) hS (by simp),rfl,rfl,rfl⟩
 ·rw [List.concat_eq_append] at *
  rw [lA,List.length_singleton] at hq
  rw [aA] at hQS
  have hQz:Q.length+S.length+1+1+R.length=z:=by rw [← hz,← hQS]; simp; omega
  subst hq
  have w1:=Qwz (q:=Q.length) (by omega)
  have w2:(0:Int)<((Q.length+1:Nat):Int):=by omega
  have w2':decide ((0:Int)<((Q.length+1:Nat):Int))=true:=decide_eq_true w2
  have g1:=Qqh (Q:=Q) (S:=n::(S++R)) (n:=p)
  have g2:=QmJ (Q:=Q) (S:=S++R) (p:=p) (n:=n)
  have g3:=QjQ (Q:=Q) (S:=S++R) (p:=p) (n:=n) (q:=p)
  have g4:=QiV (Q:=Q) (S:=p::(S++R)) (p:=n) (n:=p)
  have hp:p∈l:=by rw [← hQS]; simp
  have hB:=QmW (P:=P) (G:=G) hT n p (by have:=hb n (by simp); omega) (by have:=hb p (by simp [hp]); omega)
  have e1:Q++[p]++n::(S++R)=Q++p::n::(S++R):=by simp
  by_cases hlt:av n<av p
  ·have hlt':decide (av n<av p)=true:=decide_eq_true hlt
   rw [hlt'] at hB
   rw [e1]
   refine Qf [(4,.sl 1 tw 0 1 z none),(11,.int .i64 ((i:Nat):Int)),(12,.int .i64 ((Q.length+1:Nat):Int))] ⟨f4,f11,f12,trivial⟩  14 ?_
   simp -implicitDefEqProofs (disch:=omega) only [go_sem,↓reduceIte,rA,rq,uR0,Qb,true_implies,true_and,and_true,lA,lC,w1,w2,g2]
   iterate 4 (try (refine Qc 2 ?_; simp -implicitDefEqProofs (disch:=omega) only [go_sem,↓reduceIte,rA,rq,Qb,true_implies,true_and,and_true,lA,lC,g1]))
   refine Qi hT QP hB rfl 4 ?_
   simp -implicitDefEqProofs (disch:=omega) only [go_sem,↓reduceIte,rq]
   iterate 9 (try (refine Qc 4 ?_; simp -implicitDefEqProofs (disch:=omega) only [go_sem,↓reduceIte,rq,Qb,true_implies,true_and,and_true,lA,lC,w1,g1,g2,g3,g4]))
   refine ⟨Q.length,_,_,by omega,Shift.refl _ _ _ _,Q,p::S,rfl,by rw [← hQS]; simp,fun s hs=>?_,?_⟩
   ·rcases List.mem_cons.1 hs with rfl | hs
    ·exact hlt
    ·exact hS s hs
   ·simp -implicitDefEqProofs (disch:=omega) only [go_sem,↓reduceIte,rq,uR0,and_true,cA]
  ·have hlt':decide (av n<av p)=false:=decide_eq_false hlt
   rw [hlt'] at hB
   rw [e1]
   have e2:Q++[p]++n::S=Q++p::n::S:=by simp
   have hsr:Srt (Q++[p]++n::S):=QiT (P:=Q++[p]) (S:=S) (n:=n) (by rw [← hQS] at hl; simpa using hl) hS (fun q hq=>by
    simp at hq; subst hq
    have:=hn p hp; omega)
   refine Qf [(4,.sl 1 tw 0 1 z none),(11,.int .i64 ((i:Nat):Int)),(12,.int .i64 ((Q.length+1:Nat):Int))] ⟨f4,f11,f12,trivial⟩  14 ?_
   simp -implicitDefEqProofs (disch:=omega) only [go_sem,↓reduceIte,rA,rq,uR0,Qb,true_implies,true_and,and_true,lA,lC,w1,w2,g2]
   iterate 4 (try (refine Qc 2 ?_; simp -implicitDefEqProofs (disch:=omega) only [go_sem,↓reduceIte,rA,rq,Qb,true_implies,true_and,and_true,lA,lC,g1]))
   refine Qi hT QP hB rfl 4 ?_
   simp -implicitDefEqProofs (disch:=omega) only [go_sem,↓reduceIte,rq]
   iterate 9 (try (refine Qc 4 ?_; simp -implicitDefEqProofs (disch:=omega) only [go_sem]))
   exact ⟨rfl,Q++[p],S,by rw [← hQS]; simp,hsr,rfl,rfl,by rw [e1]; rfl⟩
abbrev r3J (t tf tw:Nat) (v:Int) (F:List (List Int)) (S:List Int):Nat→Fr→H→Prop:=fun i fr σ=>∃ l,l.length=i∧Srt l∧(∀ x,x∈l↔x∈S.take i)∧Qg fr 4=.sl 1 tw 0 1 S.length none∧Qg fr 11=.int .i64 ((i:Nat):Int)∧σ=⟨t,uR0 tf tw v F (l++S.drop i)⟩
abbrev r3E (t tf tw:Nat) (v:Int) (F:List (List Int)) (S:List Int):AE→Fr→H→Prop:=fun e fr σ=>e=.ex 6∧Qg fr 4=.sl 1 tw 0 1 S.length none∧σ=⟨t,uR0 tf tw v F (QaB S)⟩
theorem QrS (hT:Qj P tab) {S:List Int} (hO:Once S) (hb:∀ s∈S,-16777216≤s∧s≤16777216) (hlen:S.length≤1000000) (ha:S[i]?=some n) (hJ:r3J t tf tw v F S i fr σ) :
 W P G 129 0 (.seq (zg Qk3 [89,90,91] (zw 92 .skip (.exit 6))) (.seq (.block 7 (zg Qk2 [95] (.block 8 (.loop (.seq (zg QiB [96,97,98,99,100,101,102,103,104,105,106,107,108] (zw 109 .skip (.exit 8))) (.seq (.block 9 (.reg QiA [112,113,114,115,116,117,118,119,120,121,122,123,124,125,126,127])) (.reg Qiz [110,111]))))))) (.reg Qk1 [93,94]))) fr σ (Y9 (fun fr σ=>∃ fr' σ',Shift G 129 0 fr σ fr' σ'∧r3J t tf tw v F S (i+1) fr' σ') (r3E t tf tw v F S)):=by
 obtain ⟨l,hli,hs,hm,f4,f11,rfl⟩:=hJ
 obtain ⟨hlt,_,e2⟩:=Qdo ha (by omega)
 have hts:=Qo ha
 have hd:S.drop i=n::S.drop (i+1):=by
  rw [List.drop_eq_getElem_cons hlt]
  congr 1
  exact (List.getElem?_eq_some_iff.1 ha).2
 have hO2:Once (S.take i++n::S.drop (i+1)):=by rw [← hd,List.take_append_drop]; exact hO
 have hne:∀ s∈l,av s≠av n:=fun s h=>(List.pairwise_append.1 hO2).2.2 s ((hm s).1 h) n (by simp)
 have hbn:∀ s∈n::l,-16777216≤s∧s≤16777216:=fun s h=>by
  rcases List.mem_cons.1 h with rfl | h
  ·exact hb _ (List.mem_of_getElem? ha)
  ·exact hb s (List.mem_of_mem_take ((hm s).1 h))
 have hz:l.length+1+(S.drop (i+1)).length=S.length:=by rw [List.length_drop]; omega
 rw [hd]
 generalize hR:S.drop (i+1)=R at *
 refine Qf [(4,.sl 1 tw 0 1 S.length none),(11,.int .i64 ((i:Nat):Int))] ⟨f4,f11,trivial⟩  1000 ?_
 simp -implicitDefEqProofs (disch:=omega) only [go_sem,↓reduceIte,rq,uR0,hlt]
 refine QC (r4J t tf tw v F i S.length n l R) (r4E t tf tw v F i S.length n l R) (m0:=l.length) ⟨l,[],rfl,by simp,by simp,?_⟩ (fun m fr σ hJ=>QrR hT hs hne hbn hz hlen hJ) (fun e fr σ hE=>?_)
 ·simp -implicitDefEqProofs (disch:=omega) only [go_sem,↓reduceIte,rq,uR0,and_true,hli,nA]
 ·obtain ⟨rfl,Q,S',hQS,hsr,f4,f11,rfl⟩:=hE
  have hm2:∀ x,x∈Q++n::S'↔x∈S.take (i+1):=fun x=>by
   rw [hts,List.mem_append (s:=S.take i),← hm x,Qp0,hQS]
   simp only [List.mem_singleton]
  have hli2:(Q++n::S').length=i+1:=by
   have:(Q++S').length=i:=by rw [hQS,hli]
   simp at this ⊢; omega
  have hassoc:Q++n::(S'++R)=(Q++n::S')++R:=by simp
  refine QjL [(4,.sl 1 tw 0 1 S.length none),(11,.int .i64 ((i:Nat):Int))] ⟨f4,f11,trivial⟩  1000 ?_
  simp -implicitDefEqProofs (disch:=omega) only [go_sem,↓reduceIte,rq,uR0]
  refine ⟨_,_,Shift.refl _ _ _ _,Q++n::S',hli2,hsr,hm2,?_⟩
  rw [hR]
  simp -implicitDefEqProofs (disch:=omega) only [go_sem,↓reduceIte,rq,uR0,and_true,e2,hassoc]
abbrev r0J (tf:Nat) (v:Int) (F:List (List Int)):Nat→Fr→H→Prop:=fun m fr σ=>∃ S k t tw ag,Inv F S∧((ag=true∧m=k+1∧F.flatten.length+1≤k+S.length∧Qhd F k S=QaW F)∨(ag=false∧m=0∧QaW F=some S))∧Qg fr 1=.ptr 0 tf 0∧Qg fr 4=.sl 1 tw 0 1 S.length none∧Qg fr 5=.bool ag∧σ=⟨t,uR0 tf tw v F S⟩
abbrev r0E (tf:Nat) (v:Int) (F:List (List Int)):AE→Fr→H→Prop:=fun e fr σ=>(e=.ret∧QaW F=none∧Qg fr 2=.lst 0 [] true∧Qg fr 3=.bool false)∨(∃ S t tw,e=.ex 0∧QaW F=some S∧Qg fr 4=.sl 1 tw 0 1 S.length none∧σ=⟨t,uR0 tf tw v F S⟩)
theorem QrT (hT:Qj P tab) (hF:F.length≤1000) (hc:∀ c∈F,c.length≤1000) (hz:Nz F) (hrt:∀ c∈F,∀ n∈c,-16777216≤n∧n≤16777216) (hJ:r0J tf v F m fr σ) :
 W P G 129 0 (.seq (zg Qo1 [] (zw 16 .skip (.exit 0))) (.block 1 (zg Qo0 [] (zg QoZ [] (.block 2 (.loop (.seq (zg Qjt [17,18,19,20] (zw 21 .skip (.exit 2))) (.seq (.block 3 (zg Qjs [] (zg QgP [] (.seq (zg QgO [] (.block 4 (.loop (.seq (zg Qd7 [24,25,26,27,28,29,30] (zw 31 .skip (.exit 4))) (.seq (.block 5 (zg Qd6 [34,35,36,37,38,39,40,41] (zg Qd5 [42,43,44,45,46,47] (zg Qd4 [48,49,50,51,52,53,54,55,56,57,58,59,60,61,62,63] (zw 64 (.reg Qd3 [65,66,67,68]) .skip))))) (.reg Qd2 [32,33])))))) (.seq (zg QgN [69,70,71,72,73,74] (zw 75 (zg QgM [] .ret) .skip)) (zg QgL [76,77,78,79,80,81] (zw 82 (zg QgK [83,84,85,86,87,88] (.reg QgJ [])) .skip))))))) (.reg QgI [22,23]))))))))) fr σ (Y9 (fun fr σ=>∃ m' fr' σ',m'<m∧Shift G 129 0 fr σ fr' σ'∧r0J tf v F m' fr' σ') (r0E tf v F)):=by
 obtain ⟨S,k,t,tw,ag,hI,hk,f1,f4,f5,rfl⟩:=hJ
 rcases hk with ⟨rfl,rfl,hkl,hlu⟩ | ⟨rfl,rfl,hlu⟩
 ·have hdec0:decide (S.length<S.length)=false:=decide_eq_false (Nat.lt_irrefl _)
  refine Qf [(1,.ptr 0 tf 0),(4,.sl 1 tw 0 1 S.length none),(5,.bool true)] ⟨f1,f4,f5,trivial⟩  1000 ?_
  simp -implicitDefEqProofs (disch:=omega) only [go_sem,↓reduceIte,rq,uR0]
  refine XZ F (rpJ tf v F S) (rpE tf v F S) ⟨S,t,tw,rfl,hI,lR _,?_⟩ (fun i c hci fr σ hJ=>QrJ hT hF hc hz hrt hci hJ) (fun i hi fr σ hJ=>?_) (fun e fr σ hE=>?_)
  ·simp -implicitDefEqProofs (disch:=omega) only [go_sem,↓reduceIte,rq,uR0,true_and,and_true,hdec0]
   simp
  ·obtain ⟨S1,t,tw,hp,hI1,hl1,f1,f4,f5,f6,rfl⟩:=hJ
   rw [hi,List.take_length] at hp
   refine Qf [(1,.ptr 0 tf 0),(4,.sl 1 tw 0 1 S1.length none),(5,.bool (decide (S.length<S1.length))),(6,.int .i64 ((i:Nat):Int))] ⟨f1,f4,f5,f6,trivial⟩ 1000 ?_
   simp -implicitDefEqProofs (disch:=omega) only [go_sem,↓reduceIte,rA,rq,uR0,lM,true_implies,and_true,lC,hi,Nat.lt_irrefl]
   exact .inr ⟨rfl,S1,t,tw,hp,hI1,hl1,rfl,rfl,rfl,rfl⟩
  ·rcases hE with ⟨rfl,hp,f2,f3⟩ | ⟨rfl,S1,t,tw,hp,hI1,hl1,f1,f4,f5,rfl⟩
   ·have hno:QaW F=none:=by
     rw [← hlu]
     cases k with
     | zero=>rfl
     | succ k=>rw [Qhd,hp]
    refine Qc 1000 ?_
    simp -implicitDefEqProofs (disch:=omega) only [go_sem]
    exact .inl ⟨rfl,hno,f2,f3⟩
   ·have hk:k≠0:=by have:=hI.len; omega
    obtain ⟨k,rfl⟩:=Nat.exists_eq_succ_of_ne_zero hk
    rw [Qhd,hp] at hlu
    simp only at hlu
    refine Qc 1000 ?_
    simp -implicitDefEqProofs (disch:=omega) only [go_sem,↓reduceIte,uR0]
    by_cases hlen:S1.length=S.length
    ·rw [if_pos hlen] at hlu
     exact ⟨0,fr,_,by omega,Shift.refl _ _ _ _,S1,0,t,tw,decide (S.length<S1.length),hI1,.inr ⟨by simp; omega,rfl,hlu.symm⟩,f1,f4,f5,rfl⟩
    ·rw [if_neg hlen] at hlu
     exact ⟨k+1,fr,_,by omega,Shift.refl _ _ _ _,S1,k,t,tw,decide (S.length<S1.length),hI1,.inl ⟨by simp; omega,rfl,by omega,hlu⟩,f1,f4,f5,rfl⟩
 ·refine Qf [(1,.ptr 0 tf 0),(4,.sl 1 tw 0 1 S.length none),(5,.bool false)] ⟨f1,f4,f5,trivial⟩  1000 ?_
  simp -implicitDefEqProofs (disch:=omega) only [go_sem,↓reduceIte,rq,uR0]
  exact .inr ⟨S,t,tw,rfl,hlu,rfl,rfl⟩
set_option maxHeartbeats 1000000 in
theorem Qst (hT:Qj P tab) (v:Int) (F:List (List Int)) (hF:F.length≤1000) (hc:∀ c∈F,c.length≤1000) :
 Pure P G Zq [fml v F] fun u=>u=if right v F then (match Z9 F with | none=>.tup [row [],.bool false] | some l=>.tup [row l,.bool true]) else .tup [row [],.bool false]:=by
 refine QdC (fun t0=>?_) (by cases right v F <;> cases Z9 F <;> simp [nameless,Qd,QaP])
 have hR:=Qjj (P:=P) (G:=G) hT v F (by omega) (fun c h=>by have:=hc c h; omega)
 simp only [fml,rows] at hR ⊢
 have h0:Wk (.tup [.lst 0 [] true,.bool false]) (.tup [row [],.bool false]):=.tup _ _ (.cons _ _ _ _ (Qpi _) (.cons _ _ _ _ (.refl _) .nil))
 refine QF hT Yk (by simp [Xj]) (Qx 1000 ?_)
 simp -implicitDefEqProofs (disch:=omega) only [go_sem,↓reduceIte,reduceCtorEq,rA,rq,false_implies,and_true,lC]
 refine Qi hT Xy hR (by simp [Qd,nameless]) 1000 ?_
 cases hr:right v F with
 | false =>
   simp -implicitDefEqProofs (disch:=omega) only [go_sem,↓reduceIte,reduceCtorEq,rq,true_and]
   exact .inl h0
 | true =>
   have hrt:=(Xe.1 hr)
   have hz:=Qet hr
   have hrb:∀ c∈F,∀ n∈c,-16777216≤n∧n≤16777216:=fun c h n hn=>by have:=hrt.2 c h n hn; omega
   simp -implicitDefEqProofs (disch:=omega) only [go_sem,↓reduceIte,reduceCtorEq,rq]
   refine ZL (Shift.own (s:=4) (z:=0) (sz:=1) (T:=3) (by simp -implicitDefEqProofs (disch:=omega) only [go_sem,↓reduceIte,reduceCtorEq,rq]) (by decide)) ?_
   simp -implicitDefEqProofs (disch:=omega) only [go_sem,↓reduceIte,reduceCtorEq,rq,H.push,lC,lN,cA,nA]
   refine QC (r0J t0 v F) (r0E t0 v F) (m0:=F.flatten.length+2) ⟨[],F.flatten.length+1,t0+1+1,t0+1,true,Qi7 F,.inl ⟨rfl,rfl,by simp,rfl⟩,?_⟩ (fun m fr σ hJ=>QrT hT hF hc hz hrb hJ) (fun e fr σ hE=>?_)
   ·simp -implicitDefEqProofs (disch:=omega) only [go_sem,↓reduceIte,reduceCtorEq,rq,uR0,true_and,lN]
    simp [ints]
   ·rcases hE with ⟨rfl,hno,f2,f3⟩ | ⟨S,t,tw,rfl,hSo,f4,rfl⟩
    ·refine Qc 1000 ?_
     have hu:Z9 F=none:=by rw [Z9,hno]; rfl
     simp -implicitDefEqProofs (disch:=omega) only [go_sem,true_and,f2,f3,hu]
     exact .inl h0
    ·obtain ⟨hI,hm⟩:=Qhk hz hSo
     have hu:Z9 F=some (QaB S):=by rw [Z9,hSo]; rfl
     have hSl:S.length≤1000000:=by
      have h1:=hI.len
      have h2:=QgA hc
      have h3:F.length * 1000≤1000 * 1000:=Nat.mul_le_mul_right _ hF
      omega
     have hb:∀ s∈S,-16777216≤s∧s≤16777216:=fun s hs=>by
      obtain ⟨c,hc,hnc⟩:=(hI.up s hs).in
      exact hrb c hc s hnc
     refine QQ [(4,.sl 1 tw 0 1 S.length none)] ⟨f4,trivial⟩ 1000 ?_
     simp -implicitDefEqProofs (disch:=omega) only [go_sem,↓reduceIte,rq,uR0]
     refine XZ S (r3J t t0 tw v F S) (r3E t t0 tw v F S) ⟨[],rfl,.nil,by simp,?_⟩ (fun i n ha fr σ hJ=>QrS hT hI.once hb hSl ha hJ) (fun i hi fr σ hJ=>?_) (fun e fr σ hE=>?_)
     ·simp -implicitDefEqProofs (disch:=omega) only [go_sem,↓reduceIte,rq,uR0,true_and,and_true]
      simp
     ·obtain ⟨l,hli,hs,hm,f4,f11,rfl⟩:=hJ
      rw [hi,List.take_length] at hm
      have hl:=Qmt hI.once hs hm
      have hd:l++S.drop i=QaB S:=by rw [hi,List.drop_length,List.append_nil,hl]
      rw [hd]
      refine Qf [(4,.sl 1 tw 0 1 S.length none),(11,.int .i64 ((i:Nat):Int))] ⟨f4,f11,trivial⟩  1000 ?_
      simp -implicitDefEqProofs (disch:=omega) only [go_sem,↓reduceIte,rq,uR0,hi,Nat.lt_irrefl]
      exact ⟨rfl,rfl,rfl⟩
     ·obtain ⟨rfl,f4,rfl⟩:=hE
      refine QQ [(4,.sl 1 tw 0 1 S.length none)] ⟨f4,trivial⟩ 1000 ?_
      simp -implicitDefEqProofs (disch:=omega) only [go_sem,↓reduceIte,rq,uR0,hu]
      have hfr:=Qlr (k:=1) (w:=tw) (T:=0) (l:=QaB S)
      rw [ZK] at hfr
      refine ⟨1,tw,_,ints (QaB S),rfl,Xq _,?_,?_⟩
      ·simp only [YU,Qgd] at hfr ⊢
       rw [hfr]
       simp [nameless,Qd,QaP]
      ·simp only [YU,Qgd] at hfr ⊢
       rw [hfr]
       exact .refl _
end
section
attribute [local go_sem] nF nT lM aZ lR Nat.mul_one Nat.succ_ne_zero zA zL and_true decide_false decide_true false_implies gt_iff_lt Qb Qt not_false_eq_true QY zqw_0 zqw_1 QsL QsK QnV QnU QnT QsJ QsI Qvz Qvy Qvx Qvw zqw_6 zqw_7 zqw_8 zqw_9 rfH true_and true_implies
def trw (c:List Int):V:=.lst 1 (ints c) true
theorem wk_trw (c:List Int):Wk (trw c) (row c):=.lst 1 1 _ _ true (WkL.refl _) (.inr rfl)
theorem Qh9:∀ {a a' b b':List V},WkL a a'→WkL b b'→WkL (a++b) (a'++b')
 | _,_,_,_,.nil,k=>k
 | _,_,_,_,.cons v v' l l' hv h,k=>.cons v v' _ _ hv (Qh9 h k)
theorem Qi1 (L:List Int):Qd (L.map fun n=>trw [-n])=true:=by
 induction L with
 | nil=>rfl
 | cons c F ih =>
   rw [List.map_cons]
   show (nameless (trw [-c])&&Qd (F.map fun n=>trw [-n]))=true
   rw [ih]
   simp [trw,nameless,ints]
abbrev f1J (t:Nat) (v:Int) (F:List (List Int)) (c:List Int):Nat→Fr→H→Prop:=fun i fr σ=>(∀ n∈c.take i,XI v n=true)∧Qg fr 1=.lst 1 (ints c) false∧Qg fr 2=.ptr 0 t 0∧Qg fr 5=.int .i64 ((i:Nat):Int)∧σ=⟨t+1,rfH t v F⟩
abbrev f1E (t:Nat) (v:Int) (F:List (List Int)) (c:List Int):AE→Fr→H→Prop:=fun e fr σ=>(e=.ret∧c.all (XI v)=false∧Qg fr 4=.bool false)∨(e=.ex 0∧c.all (XI v)=true∧Qg fr 1=.lst 1 (ints c) false∧Qg fr 2=.ptr 0 t 0∧σ=⟨t+1,rfH t v F⟩)
variable {σ:H} {fr:Fr} {c:List Int} {F:List (List Int)} {v n:Int} {t i:Nat}
theorem Qsm (hv:0≤v∧v≤16777216) (hl:c.length≤1000) (ha:c[i]?=some n) (hJ:f1J t v F c i fr σ) :
 W P G 82 0 (.seq (zg Qvz [12,13,14] (zw 15 .skip (.exit 0))) (.seq (.block 1 (zg Qvy [18,19,20,21,22,23,24,25,26,27,28,29,30,31,32,33,34,35,36,37,38,39,40] (zw 41 (zg Qvx [] .ret) .skip))) (.reg Qvw [16,17]))) fr σ (Y9 (fun fr σ=>∃ fr' σ',Shift G 82 0 fr σ fr' σ'∧f1J t v F c (i+1) fr' σ') (f1E t v F c)):=by
 obtain ⟨hok,f1,f2,f5,rfl⟩:=hJ
 obtain ⟨hlt,hD,e2⟩:=Qdo ha (by omega)
 have hnm:=List.mem_of_getElem? ha
 have hts:=Qo ha
 have hneg:=wneg hv
 have hno:XI v n=false→c.all (XI v)=false:=fun h=>List.all_eq_false.2 ⟨n,hnm,by simp [h]⟩
 by_cases g1:n=0
 ·have hr:=hno (by simp [XI,g1])
  have g1':(n==0)=true:=by simp [g1]
  refine Qf [(1,.lst 1 (ints c) false),(2,.ptr 0 t 0),(5,.int .i64 ((i:Nat):Int))] ⟨f1,f2,f5,trivial⟩  14 ?_
  simp -implicitDefEqProofs (disch:=omega) only [go_sem,↓reduceIte,rq,hlt]
  iterate 16 (try (refine Qc 2 ?_; simp -implicitDefEqProofs (disch:=omega) only [go_sem,↓reduceIte,rq,hlt,hD,g1']))
  iterate 4 (try (refine Qc 4 ?_; simp -implicitDefEqProofs (disch:=omega) only [go_sem]))
  exact .inl ⟨rfl,hr,rfl⟩
 have g1':(n==0)=false:=by simpa using g1
 by_cases g2:v<n
 ·have hr:=hno (by simp [XI]; omega)
  refine Qf [(1,.lst 1 (ints c) false),(2,.ptr 0 t 0),(5,.int .i64 ((i:Nat):Int))] ⟨f1,f2,f5,trivial⟩  14 ?_
  simp -implicitDefEqProofs (disch:=omega) only [go_sem,↓reduceIte,rq,hlt]
  iterate 16 (try (refine Qc 2 ?_; simp -implicitDefEqProofs (disch:=omega) only [go_sem,↓reduceIte,rA,rq,rL,hlt,hD,g1',g2]))
  iterate 4 (try (refine Qc 4 ?_; simp -implicitDefEqProofs (disch:=omega) only [go_sem]))
  exact .inl ⟨rfl,hr,rfl⟩
 by_cases g3:n < -v
 ·have hr:=hno (by simp [XI]; omega)
  refine Qf [(1,.lst 1 (ints c) false),(2,.ptr 0 t 0),(5,.int .i64 ((i:Nat):Int))] ⟨f1,f2,f5,trivial⟩  14 ?_
  simp -implicitDefEqProofs (disch:=omega) only [go_sem,↓reduceIte,rq,hlt]
  iterate 16 (try (refine Qc 2 ?_; simp -implicitDefEqProofs (disch:=omega) only [go_sem,↓reduceIte,rA,rq,rL,hlt,hD,g1',g2,g3,hneg]))
  iterate 4 (try (refine Qc 4 ?_; simp -implicitDefEqProofs (disch:=omega) only [go_sem]))
  exact .inl ⟨rfl,hr,rfl⟩
 have hl:XI v n=true:=by simp [XI,g1]; omega
 refine Qf [(1,.lst 1 (ints c) false),(2,.ptr 0 t 0),(5,.int .i64 ((i:Nat):Int))] ⟨f1,f2,f5,trivial⟩  14 ?_
 simp -implicitDefEqProofs (disch:=omega) only [go_sem,↓reduceIte,rq,hlt]
 iterate 16 (try (refine Qc 2 ?_; simp -implicitDefEqProofs (disch:=omega) only [go_sem,↓reduceIte,rA,rq,rL,hlt,hD,g1',g2,g3,hneg]))
 iterate 4 (try (refine Qc 4 ?_; simp -implicitDefEqProofs (disch:=omega) only [go_sem,↓reduceIte,rq]))
 refine ⟨_,_,Shift.refl _ _ _ _,fun x hx=>?_,?_⟩
 ·rw [hts,List.mem_append] at hx
  rcases hx with hx | hx
  ·exact hok x hx
  ·simp at hx; subst hx; exact hl
 ·simp -implicitDefEqProofs (disch:=omega) only [go_sem,↓reduceIte,rq,e2]
def gF (t tg tw:Nat) (v:Int) (F:List (List Int)) (L:List Int):List (Option Ob):=[some (.arr t 28 [.int .i64 v,.lst 1 (F.map row) false]),some (.arr tg 28 [.int .i64 v,.sl 2 tw 0 1 (F.length+L.length) none]),some (.arr tw 25 (F.map row++L.map fun n=>trw [-n]))]
abbrev f2J (t tg:Nat) (v:Int) (F:List (List Int)) (c:List Int):Nat→Fr→H→Prop:=fun i fr σ=>∃ tw t',Qg fr 1=.lst 1 (ints c) false∧Qg fr 8=.ptr 1 tg 0∧Qg fr 9=.int .i64 ((i:Nat):Int)∧σ=⟨t',gF t tg tw v F (c.take i)⟩
abbrev f2E (t tg:Nat) (v:Int) (F:List (List Int)) (c:List Int):AE→Fr→H→Prop:=fun e fr σ=>e=.ex 2∧∃ tw t',Qg fr 8=.ptr 1 tg 0∧σ=⟨t',gF t tg tw v F c⟩
theorem Qsl {tg:Nat} (hF:F.length≤1000) (hl:c.length≤1000) (hb:∀ n∈c,-16777216≤n∧n≤16777216) (ha:c[i]?=some n) (hJ:f2J t tg v F c i fr σ) :
 W P G 82 0 (.seq (zg QnV [58,59,60] (zw 61 .skip (.exit 2))) (.seq (.block 3 (.reg QnU [64,65,66,67,68,69,70,71,72,73,74])) (.reg QnT [62,63]))) fr σ (Y9 (fun fr σ=>∃ fr' σ',Shift G 82 0 fr σ fr' σ'∧f2J t tg v F c (i+1) fr' σ') (f2E t tg v F c)):=by
 obtain ⟨tw,t',f1,f8,f9,rfl⟩:=hJ
 obtain ⟨hlt,hD,e2⟩:=Qdo ha (by omega)
 have hbn:=hb n (List.mem_of_getElem? ha)
 have hneg:IntKind.i64.wrap (0 - n)=-n:=by rw [QjA (by omega)]; omega
 have hts:=Qo ha
 have hil:(c.take i).length=i:=by rw [List.length_take]; omega
 have hil2:(c.take (i+1)).length=i+1:=by rw [List.length_take]; omega
 have hap:F.map row++(c.take i).map (fun n=>trw [-n])++[.lst 1 [.int .i64 (-n)] true]=F.map row++(c.take (i+1)).map fun n=>trw [-n]:=by
  rw [hts,List.map_append,aA]; rfl
 refine Qf [(1,.lst 1 (ints c) false),(8,.ptr 1 tg 0),(9,.int .i64 ((i:Nat):Int))] ⟨f1,f8,f9,trivial⟩  1000 ?_
 simp -implicitDefEqProofs (disch:=omega) only [go_sem,↓reduceIte,reduceCtorEq,rA,rq,rL,gF,hlt,hD,hneg,hil,lA,hap]
 refine ⟨_,_,Shift.refl _ _ _ _,t',t'+1,?_⟩
 simp -implicitDefEqProofs (disch:=omega) only [go_sem,↓reduceIte,rq,gF,hil2,e2,Nat.add_assoc]
set_option maxHeartbeats 1000000 in
theorem QlJ (hT:Qj P tab) (v:Int) (F:List (List Int)) (c:List Int) (hF:F.length+c.length≤1000) (hc:∀ c∈F,c.length≤1000) (hl:c.length≤1000) (hb:∀ n∈c,-9223372036854775808≤n∧n≤9223372036854775807) (hr:right v F=true) :
 Pure P G Y5 [fml v F,row c] fun u=>u=.bool (follows v F c):=by
 intro t
 have hv:0≤v∧v≤16777216:=by have:=(Xe.1 hr).1; omega
 have hCl:=Qsv (P:=P) (G:=G) hT c hb (by omega)
 simp only [fml,rows,row] at hCl ⊢
 refine XU 0 (zL _) (QF hT YY (by simp [QY]) (Qx 1000 ?_))
 simp -implicitDefEqProofs (disch:=omega) only [go_sem,↓reduceIte,reduceCtorEq,rq]
 refine XZ c (f1J t v F c) (f1E t v F c) ⟨by simp,?_⟩ (fun i n ha fr σ hJ=>Qsm hv hl ha hJ) (fun i hi fr σ hJ=>?_) (fun e fr σ hE=>?_)
 ·simp -implicitDefEqProofs (disch:=omega) only [go_sem,↓reduceIte,reduceCtorEq,rq]
  simp
 ·obtain ⟨hok,f1,f2,f5,rfl⟩:=hJ
  rw [hi,List.take_length] at hok
  refine Qf [(1,.lst 1 (ints c) false),(2,.ptr 0 t 0),(5,.int .i64 ((i:Nat):Int))] ⟨f1,f2,f5,trivial⟩  1000 ?_
  simp -implicitDefEqProofs (disch:=omega) only [go_sem,↓reduceIte,rq,hi,Nat.lt_irrefl]
  exact .inr ⟨rfl,List.all_eq_true.2 hok,rfl,rfl,rfl⟩
 ·rcases hE with ⟨rfl,hno,f4⟩ | ⟨rfl,hall,f1,f2,rfl⟩
  ·have hfo:follows v F c=false:=by simp [follows,hno]
   refine Qc 1000 ?_
   simp -implicitDefEqProofs (disch:=omega) only [go_sem,f4,hfo]
  ·refine QQ [(1,.lst 1 (ints c) false),(2,.ptr 0 t 0)] ⟨f1,f2,trivial⟩ 1000 ?_
   simp -implicitDefEqProofs (disch:=omega) only [go_sem,↓reduceIte,rq]
   refine Qi hT Zl hCl (by simp [Qd,nameless]) 1000 ?_
   cases hbad:bad c with
   | true =>
     have hcs:Qs c=([],false):=by rw [Qs,if_pos hbad]
     have hfo:follows v F c=true:=by simp [follows,hr,hall,hbad]
     simp -implicitDefEqProofs (disch:=omega) only [go_sem,↓reduceIte,rA,rq,rTq,hcs,hfo]
   | false =>
     have hcs:Qs c=(canon c,true):=by rw [Qs,if_neg (by simp [hbad])]
     have hcr:∀ n∈c,n≠0∧-v≤n∧n≤v:=fun n hn=>by simpa [XI] using List.all_eq_true.1 hall n hn
     have hrA:right v (F++XA (c.map fun n=>-n))=true:=by
      have h1:=Xe.1 hr
      refine Xe.2 ⟨⟨hv.1,hv.2,by simp [XA]; omega⟩,fun d hd n hn=>?_⟩
      rcases List.mem_append.1 hd with hd | hd
      ·exact h1.2 d hd n hn
      ·simp only [XA,List.map_map,List.mem_map] at hd
       obtain ⟨m,hm,rfl⟩:=hd
       simp at hn; subst hn
       have:=hcr m hm; omega
     have hfl:=ZO F
     have n1:F.length * 24≤140737488355328:=by omega
     simp -implicitDefEqProofs (disch:=omega) only [go_sem,↓reduceIte,reduceCtorEq,rA,rq,rL,rTq,hcs,hfl,n1]
     refine XZ c (f2J t (t+1) v F c) (f2E t (t+1) v F c) ⟨t+1+1,t+1+1+1,?_⟩ (fun i n ha fr σ hJ=>Qsl (by omega) hl (fun n hn=>by have:=hcr n hn; omega) ha hJ) (fun i hi fr σ hJ=>?_) (fun e fr σ hE=>?_)
     ·simp -implicitDefEqProofs (disch:=omega) only [go_sem,↓reduceIte,rq,gF,tZ,List.map_nil,List.append_nil,lN]
      simp
     ·obtain ⟨tw,t',f1,f8,f9,rfl⟩:=hJ
      rw [hi,List.take_length]
      refine Qf [(1,.lst 1 (ints c) false),(8,.ptr 1 (t+1) 0),(9,.int .i64 ((i:Nat):Int))] ⟨f1,f8,f9,trivial⟩ 1000 ?_
      simp -implicitDefEqProofs (disch:=omega) only [go_sem,↓reduceIte,rq,hi,Nat.lt_irrefl]
      exact ⟨rfl,tw,t',rfl,rfl⟩
     ·obtain ⟨rfl,tw,t',f8,rfl⟩:=hE
      have hnl:Qd (F.map row++c.map fun n=>trw [-n])=true:=YR (X0 F) (Qi1 c)
      have hlen:(F.map row++c.map fun n=>trw [-n]).length=F.length+c.length:=by simp
      have htk:List.take (F.length+c.length) (F.map row++c.map fun n=>trw [-n])=F.map row++c.map fun n=>trw [-n]:=List.take_of_length_le (by simp)
      have hU:=Qst (P:=P) (G:=G) hT v (F++XA (c.map fun n=>-n)) (by simp [XA]; omega) (fun d hd=>by
       rcases List.mem_append.1 hd with hd | hd
       ·exact hc d hd
       ·simp only [XA,List.map_map,List.mem_map] at hd
        obtain ⟨m,_,rfl⟩:=hd
        simp)
      rw [hrA,if_pos rfl] at hU
      have hU2:=Pure.args (.cons _ _ _ _ (.agg [.int .i64 v,.lst 1 (F.map row++c.map fun n=>trw [-n]) false] _ (.cons _ _ _ _ (.refl _) (.cons _ _ _ _ (.lst 1 1 _ _ false (by
       rw [List.map_append,XA,List.map_map,List.map_map]
       exact Qh9 (WkL.refl _) (WkL.map fun n _=>wk_trw [-n])) (.inr rfl)) .nil))) .nil) hU
      have hfo:follows v F c=(Z9 (F++XA (c.map fun n=>-n))).isNone:=by simp [follows,hr,hall,hbad]
      refine QpB [(8,.ptr 1 (t+1) 0)] ⟨f8,trivial⟩ ?_
      refine ZL (Shift.freeze (k:=2) (v:=tw) (T:=25) (cs:=F.map row++c.map fun n=>trw [-n]) (zL _) rfl hnl) ?_
      simp only [Qij,Qj4,YU,Qac,gF,Xw,Ob.mapV,List.set_cons_succ,List.set_cons_zero,Option.map_some,Option.map_none,List.map_cons,List.map_nil,hlen]
      refine Qc 1000 ?_
      simp -implicitDefEqProofs (disch:=omega) only [go_sem,↓reduceIte,reduceCtorEq,rA,rq,htk]
      have hnB:Qd [V.agg [V.int .i64 v,V.lst 1 (F.map row++c.map fun n=>trw [-n]) false]]=true:=by simp [Qd,nameless]
      cases hu:Z9 (F++XA (c.map fun n=>-n)) with
      | none =>
        rw [hu] at hU2 hfo
        simp only at hU2
        refine Qi hT Yk hU2 hnB 1000 ?_
        simp -implicitDefEqProofs (disch:=omega) only [go_sem,↓reduceIte,rA,rq,rTq,hfo]
        rfl
      | some l =>
        rw [hu] at hU2 hfo
        simp only at hU2
        refine Qi hT Yk hU2 hnB 1000 ?_
        simp -implicitDefEqProofs (disch:=omega) only [go_sem,↓reduceIte,rA,rq,rTq,hfo]
        rfl
end
section
attribute [local go_sem] nF nT aZ lR Nat.mul_one Nat.one_mul Nat.succ_ne_zero zA zL Nat.zero_mul Option.getD_none Option.getD_some Option.isSome_none Option.isSome_some and_true beq_self_eq_true bne_self_eq_false decide_false decide_true false_implies ge_iff_le gt_iff_lt Qt not_false_eq_true not_true_eq_false Xh zqf_0 zqf_1 zqf_2 Xg zqd_0 zqd_1 zqd_2 zqd_3 Qv5 Qv4 Qv3 Qv2 Qv1 zqd_9 QX zqb_0 zqb_1 true_and true_implies
theorem QhD (hT:Qj P tab) (v:Int) (F:List (List Int)) (c:List Int) (hF:F.length+c.length≤1000) (hc:∀ c∈F,c.length≤1000) (hl:c.length≤1000) (hb:∀ n∈c,-9223372036854775808≤n∧n≤9223372036854775807) :
 Pure P G Y4 [fml v F,row c] fun u=>u=.bool (follows v F c):=by
 intro t
 have hR:=Qjj (P:=P) (G:=G) hT v F (by omega) (fun c h=>by have:=hc c h; omega)
 have hFo:=QlJ (P:=P) (G:=G) hT v F c hF hc hl hb
 simp only [fml,rows,row] at hR hFo ⊢
 refine XU 0 (zL _) (QF hT Xa (by simp [QX]) (Qx 1000 ?_))
 simp -implicitDefEqProofs (disch:=omega) only [go_sem,↓reduceIte,reduceCtorEq,rA,rq]
 refine Qi hT Xy hR (by simp [Qd,nameless]) 4 ?_
 cases hr:right v F with
 | false =>
   have hf:follows v F c=false:=by simp [follows,hr]
   simp -implicitDefEqProofs (disch:=omega) only [go_sem,↓reduceIte,reduceCtorEq,rq]
   iterate 9 (try (refine Qc 4 ?_; simp -implicitDefEqProofs (disch:=omega) only [go_sem,↓reduceIte,reduceCtorEq,rq,hf]))
 | true =>
   simp -implicitDefEqProofs (disch:=omega) only [go_sem,↓reduceIte,reduceCtorEq,rA,rq]
   iterate 4 (try (refine Qc 4 ?_; simp -implicitDefEqProofs (disch:=omega) only [go_sem,↓reduceIte,reduceCtorEq,rA,rq,rL,rTq,Nat.reduceSub,Nat.reduceMul,Int.reduceToNat,Int.reduceLE,Int.reduceLT,Int.reduceEq,Int.reduceNe,Nat.reduceBEq,Nat.reduceBNe]))
   refine Qi hT YY (hFo hr) (by simp [Qd,nameless]) 4 ?_
   simp -implicitDefEqProofs (disch:=omega) only [go_sem,↓reduceIte,reduceCtorEq,rq]
   iterate 9 (try (refine Qc 4 ?_; simp -implicitDefEqProofs (disch:=omega) only [go_sem,↓reduceIte,reduceCtorEq,rq]))
def kH (tf tg tw:Nat) (v:Int) (F R:List (List Int)):List (Option Ob):=[some (.arr tf 28 [.int .i64 v,.lst 1 (F.map row) false]),some (.arr tg 28 [.int .i64 v,.sl 2 tw 0 1 R.length none]),some (.arr tw 25 (R.map row))]
abbrev kiJ (tf tg:Nat) (v:Int) (F p:List (List Int)):Nat→Fr→H→Prop:=fun i fr σ=>∃ t tw,Q3 v F p=i+Q3 v (F++p.take i) (p.drop i)∧Qg fr 1=.lst 1 (p.map row) false∧Qg fr 5=.ptr 1 tg 0∧Qg fr 6=.int .i64 ((i:Nat):Int)∧σ=⟨t,kH tf tg tw v F (F++p.take i)⟩
abbrev kiE (v:Int) (F p:List (List Int)):AE→Fr→H→Prop:=fun e fr _=>(e=.ret∧Qg fr 4=.int .i64 (Q3 v F p))∨(e=.ex 0∧Qg fr 1=.lst 1 (p.map row) false∧Q3 v F p=p.length)
set_option maxHeartbeats 1000000 in
theorem Qr8 (hT:Qj P tab) {tf tg:Nat} {v:Int} {F p:List (List Int)} (hF:F.length+p.length≤500) (hc:∀ c∈F,c.length≤500) (hp:∀ c∈p,c.length≤500) (hb:∀ c∈p,∀ n∈c,-9223372036854775808≤n∧n≤9223372036854775807) {i:Nat} {c:List Int} (hci:p[i]?=some c) {fr:Fr} {σ:H} (hJ:kiJ tf tg v F p i fr σ) :
 W P G 41 0 (.seq (zg Qv5 [16,17,18] (zw 19 .skip (.exit 0))) (.seq (.block 1 (.seq (zg Qv4 [22,23,24,25,26,27] (zw 28 (zg Qv3 [29] .ret) .skip)) (.reg Qv2 [30,31,32,33,34,35,36,37,38]))) (.reg Qv1 [20,21]))) fr σ (Y9 (fun fr σ=>∃ fr' σ',Shift G 41 0 fr σ fr' σ'∧kiJ tf tg v F p (i+1) fr' σ') (kiE v F p)):=by
 obtain ⟨t,tw,hfi,f1,f5,f6,rfl⟩:=hJ
 obtain ⟨hlt,hD,e2⟩:=Qeg hci (by omega)
 have hcm:=List.mem_of_getElem? hci
 have hd:p.drop i=c::p.drop (i+1):=by
  rw [List.drop_eq_getElem_cons hlt]
  congr 1
  exact (List.getElem?_eq_some_iff.1 hci).2
 have hts:=Qo hci
 have hRl:(F++p.take i).length≤499:=by rw [lA,List.length_take]; omega
 have hRc:∀ d∈F++p.take i,d.length≤500:=fun d h=>(List.mem_append.1 h).elim (hc d) fun h=>hp d (List.mem_of_mem_take h)
 have hFo:=QhD (P:=P) (G:=G) hT v (F++p.take i) c (by have:=hp c hcm; omega) (fun c h=>by have:=hRc c h; omega) (by have:=hp c hcm; omega) (hb c hcm)
 rw [hd,Q3] at hfi
 have happ:F++p.take (i+1)=(F++p.take i)++[c]:=by rw [hts,aA]
 generalize F++p.take i=R at *
 simp only [fml,rows,row] at hFo
 cases hfo:follows v R c with
 | false =>
   rw [hfo] at hFo hfi
   have hres:Q3 v F p=i:=by simpa using hfi
   refine Qf [(1,.lst 1 (p.map row) false),(5,.ptr 1 tg 0),(6,.int .i64 ((i:Nat):Int))] ⟨f1,f5,f6,trivial⟩  1000 ?_
   simp -implicitDefEqProofs (disch:=omega) only [go_sem,↓reduceIte,reduceCtorEq,rA,rq,lM,lC,lN,kH,hlt,hD]
   refine QJ hT Xa hFo (.cons _ _ _ _ (.agg _ _ (.cons _ _ _ _ (.same _ rfl) (.cons _ _ _ _ (Qam rfl) .nil))) (.cons _ _ _ _ (.same _ (by simp [nameless])) .nil)) rfl 1000 ?_
   simp -implicitDefEqProofs (disch:=omega) only [go_sem,↓reduceIte,rq]
   exact .inl ⟨rfl,by rw [hres]; rfl⟩
 | true =>
   rw [hfo] at hFo hfi
   rw [if_pos rfl,← happ] at hfi
   refine Qf [(1,.lst 1 (p.map row) false),(5,.ptr 1 tg 0),(6,.int .i64 ((i:Nat):Int))] ⟨f1,f5,f6,trivial⟩  1000 ?_
   simp -implicitDefEqProofs (disch:=omega) only [go_sem,↓reduceIte,reduceCtorEq,rA,rq,lM,lC,lN,kH,hlt,hD]
   refine QJ hT Xa hFo (.cons _ _ _ _ (.agg _ _ (.cons _ _ _ _ (.same _ rfl) (.cons _ _ _ _ (Qam rfl) .nil))) (.cons _ _ _ _ (.same _ (by simp [nameless])) .nil)) rfl 1000 ?_
   simp -implicitDefEqProofs (disch:=omega) only [go_sem,↓reduceIte,reduceCtorEq,rA,rq,rL,lM,lC,lN,cA,nA,hlt,hD]
   refine ⟨_,_,Shift.refl _ _ _ _,t+1,t,by omega,?_⟩
   simp -implicitDefEqProofs (disch:=omega) only [go_sem,↓reduceIte,rq,lC,lN,kH,e2,happ,lA,List.map_append,row]
set_option maxHeartbeats 1000000 in
theorem QmV (hT:Qj P tab) (v:Int) (F p:List (List Int)) (hF:F.length+p.length≤500) (hc:∀ c∈F,c.length≤500) (hp:∀ c∈p,c.length≤500) (hb:∀ c∈p,∀ n∈c,-9223372036854775808≤n∧n≤9223372036854775807) :
 Pure P G Zn [fml v F,rows p] fun u=>u=.int .i64 (Q3 v F p):=by
 intro t0
 simp only [fml,rows]
 have hfl:=ZO F
 have n1:F.length * 24≤140737488355328:=by omega
 refine XU 0 (zL _) (QF hT Yj (by simp [Xg]) (Qx 1000 ?_))
 simp -implicitDefEqProofs (disch:=omega) only [go_sem,↓reduceIte,reduceCtorEq,rA,rq,rL,lM,lC,lN,cA,nA,hfl,n1]
 refine XZ p (kiJ t0 (t0+1) v F p) (kiE v F p) ⟨t0+1+1+1,t0+1+1,by simp,?_⟩ (fun i c hci fr σ hJ=>Qr8 hT hF hc hp hb hci hJ) (fun i hi fr σ hJ=>?_) (fun e fr σ hE=>?_)
 ·simp -implicitDefEqProofs (disch:=omega) only [go_sem,↓reduceIte,reduceCtorEq,rq,kH,tZ,List.append_nil]
  simp
 ·obtain ⟨t,tw,hfi,f1,f5,f6,rfl⟩:=hJ
  have hres:Q3 v F p=p.length:=by rw [hi,List.drop_length] at hfi; simpa [Q3] using hfi
  refine Qf [(1,.lst 1 (p.map row) false),(5,.ptr 1 (t0+1) 0),(6,.int .i64 ((i:Nat):Int))] ⟨f1,f5,f6,trivial⟩ 1000 ?_
  simp -implicitDefEqProofs (disch:=omega) only [go_sem,↓reduceIte,rq,lM,kH,hi,Nat.lt_irrefl]
  exact .inr ⟨rfl,rfl,hres⟩
 ·rcases hE with ⟨rfl,f4⟩ | ⟨rfl,f1,hres⟩
  ·refine Qc 1000 ?_
   simp -implicitDefEqProofs (disch:=omega) only [go_sem,f4]
  ·refine Qc 1000 ?_
   simp -implicitDefEqProofs (disch:=omega) only [go_sem,↓reduceIte,rq,lM,f1,hres]
theorem Qjk (hT:Qj P tab) (v:Int) (F p:List (List Int)) (hF:F.length+p.length≤500) (hc:∀ c∈F,c.length≤500) (hp:∀ c∈p,c.length≤500) (hb:∀ c∈p,∀ n∈c,-9223372036854775808≤n∧n≤9223372036854775807) :
 Pure P G Zo [fml v F,rows p] fun u=>u=.bool (Xc v F p):=by
 intro t
 have hFi:=QmV (P:=P) (G:=G) hT v F p hF hc hp hb
 have hle:=Qhn v p F
 simp only [fml,rows] at hFi ⊢
 refine XU 0 (zL _) (QF hT Xx (by simp [Xh]) (Qx 14 ?_))
 have hnF:Qd [V.agg [V.int .i64 v,V.lst 1 (F.map row) false],V.lst 1 (p.map row) false]=true:=by simp [Qd,nameless]
 rcases Nat.eq_zero_or_pos p.length with hz | hpos
 ·have hcs:Xc v F p=false:=by rw [ZV]; simp [hz]
  have h0:¬ (0<(p.length:Int)):=by omega
  have h0':decide (0<(p.length:Int))=false:=decide_eq_false h0
  simp -implicitDefEqProofs (disch:=omega) only [go_sem,↓reduceIte,reduceCtorEq,rq,lM]
  iterate 14 (try (refine Qc 2 ?_; simp -implicitDefEqProofs (disch:=omega) only [go_sem,↓reduceIte,reduceCtorEq,rq,h0]))
  rw [hcs]
 ·have h0:0<(p.length:Int):=by omega
  have h0':decide (0<(p.length:Int))=true:=decide_eq_true h0
  obtain ⟨c,hci⟩:∃ c,p[p.length - 1]?=some c:=⟨_,List.getElem?_eq_getElem (by omega)⟩
  have hD:=XD hci
  have hlast:p.getLast?=some c:=by rw [List.getLast?_eq_getElem?]; exact hci
  have e4:IntKind.i64.wrap ((p.length:Int) - 1)=((p.length - 1:Nat):Int):=by rw [QjA (by omega)]; omega
  have hlt:p.length - 1<p.length:=by omega
  by_cases hcn:c=[]
  ·have hcl:((c.length:Int)==0)=true:=by rw [hcn]; rfl
   have hcs:Xc v F p=decide (Q3 v F p=p.length):=by rw [ZV]; simp [hpos,hlast,hcn]
   simp -implicitDefEqProofs (disch:=omega) only [go_sem,↓reduceIte,reduceCtorEq,rq,lM]
   iterate 14 (try (refine Qc 2 ?_; simp -implicitDefEqProofs (disch:=omega) only [go_sem,↓reduceIte,reduceCtorEq,rA,rq,lM,Qb,h0,e4,hD,hlt,hcl]))
   refine Qi hT Yj hFi hnF 2 ?_
   simp -implicitDefEqProofs (disch:=omega) only [go_sem,↓reduceIte,reduceCtorEq,rA,rq]
   iterate 9 (try (refine Qc 2 ?_; simp -implicitDefEqProofs (disch:=omega) only [go_sem,↓reduceIte,reduceCtorEq,rq]))
   rw [hcs]
   congr 1
   rw [Bool.eq_iff_iff,beq_iff_eq,decide_eq_true_eq]
   omega
  ·have hcl:((c.length:Int)==0)=false:=by
    rw [beq_eq_false_iff_ne]; have:=List.length_pos_iff.2 hcn; omega
   have hcs:Xc v F p=false:=by rw [ZV]; simp [hlast,hcn]
   simp -implicitDefEqProofs (disch:=omega) only [go_sem,↓reduceIte,reduceCtorEq,rq,lM]
   iterate 14 (try (refine Qc 2 ?_; simp -implicitDefEqProofs (disch:=omega) only [go_sem,↓reduceIte,reduceCtorEq,rA,rq,lM,Qb,h0,e4,hD,hlt,hcl]))
   rw [hcs]
end
section
attribute [local go_sem] nF nT lM lR Nat.mul_one zA and_true decide_false decide_true false_implies ge_iff_le Qt Xf zq9_0 zq9_1 Qs4 zq9_2 zq9_3 zq9_4 Qwc Qwb Qwa Qv9 Qv8 QW zqs_0 zqs_1 zqs_2 zqs_3 true_and
theorem Qsf {k w:Nat} {l:List (List Int)}:YU k w (l.map row) (.sl k w 0 1 l.length none)=rows l:=by
 have h:(l.map row).take l.length=l.map row:=List.take_of_length_le (by simp)
 simp [YU,Qac,rows,h]
theorem Qa2 (l:List (List Int)):nameless (rows l)=true:=by simp [rows,nameless]
theorem QnF (hT:Qj P tab) (p:List (List Int)) (i:Nat) (hi:i<p.length) (hl:p.length≤1000):Pure P G Y3 [rows p,.int .i64 i] fun u=>u=rows (Xz p i):=by
 refine QdC (fun t=>?_) (Qa2 _)
 simp only [rows]
 have e2:=XP hi (by omega)
 refine QF hT YX (by simp [QW]) (Qx 1000 ?_)
 have h1:List.take (i - 0) (p.map row)=(p.take i).map row:=by simp [List.map_take]
 have h2:List.take (p.length - (i+1)) (List.drop (i+1) (p.map row))=(p.drop (i+1)).map row:=by
  rw [← List.map_drop,List.take_of_length_le]; simp
 have ha:(p.take i).length+(p.drop (i+1)).length+1=p.length:=by simp; omega
 have h3:Xz p i=p.take i++p.drop (i+1):=rfl
 rw [h3]
 have hlt:(i:Int)≤p.length:=by omega
 have hlt2:((i+1:Nat):Int)≤p.length:=by omega
 simp -implicitDefEqProofs (disch:=omega) only [go_sem,↓reduceIte,reduceCtorEq,rq,e2,h1,h2]
 generalize p.take i=a at *
 generalize p.drop (i+1)=b at *
 have f1:=ZO a
 have f2:=ZO b
 have f3:=Qsf (k:=0) (w:=t+1) (l:=a++b)
 have f4:=X0 (a++b)
 have f5:=Qa2 (a++b)
 simp -implicitDefEqProofs (disch:=omega) only [go_sem,f1,f2]
 rw [← lA] at *
 exact ⟨0,t+1,_,(a++b).map row,by rw [List.map_append]; rfl,f4,by rw [f3]; exact f5,by rw [f3]; exact .refl _⟩
abbrev soJ (t:Nat) (v:Int) (F p:List (List Int)):Nat→Fr→H→Prop:=fun m fr σ=>∃ out,m<out.length∧out.length≤p.length∧(∀ c∈out,c∈p)∧Y1 v F m out=Y1 v F (p.length - 1) p∧Qg fr 2=.ptr 0 t 0∧Qg fr 6=.lst 1 (out.map row) false∧Qg fr 7=.int .i64 ((m:Int) - 1)∧σ=⟨t+1,rfH t v F⟩
abbrev soE (v:Int) (F p:List (List Int)):AE→Fr→H→Prop:=fun e fr _=>e=.ex 0∧Qg fr 6=.lst 1 ((Y1 v F (p.length - 1) p).map row) false
variable {i:Nat} {p:List (List Int)}
theorem QjP {c:List Int} (h:c∈Xz p i):c∈p:=by
 unfold Xz at h
 exact (List.mem_append.1 h).elim List.mem_of_mem_take List.mem_of_mem_drop
theorem Qf0 (h:i<p.length):(Xz p i).length=p.length - 1:=by simp [Xz]; omega
theorem QrA (hT:Qj P tab) {t:Nat} {v:Int} {F:List (List Int)} (hF:F.length+p.length≤500) (hc:∀ c∈F,c.length≤500) (hp:∀ c∈p,c.length≤500) (hb:∀ c∈p,∀ n∈c,-9223372036854775808≤n∧n≤9223372036854775807) {m:Nat} {fr:Fr} {σ:H} (hJ:soJ t v F p m fr σ) :
 W P G 29 0 (.seq (zg Qwc [17] (zw 18 .skip (.exit 0))) (.seq (.block 1 (zg Qwb [21,22,23] (zg Qwa [24,25] (zw 26 (.reg Qv9 [27]) .skip)))) (.reg Qv8 [19,20]))) fr σ (Y9 (fun fr σ=>∃ m' fr' σ',m'<m∧Shift G 29 0 fr σ fr' σ'∧soJ t v F p m' fr' σ') (soE v F p)):=by
 obtain ⟨out,hm,ho,hop,hs,f2,f6,f7,rfl⟩:=hJ
 cases m with
 | zero =>
   have h0:¬ (0:Int)≤((0:Nat):Int) - 1:=by omega
   refine Qf [(2,.ptr 0 t 0),(6,.lst 1 (out.map row) false),(7,.int .i64 (((0:Nat):Int) - 1))] ⟨f2,f6,f7,trivial⟩  1000 ?_
   simp -implicitDefEqProofs (disch:=omega) only [go_sem,↓reduceIte,rq,h0]
   exact ⟨rfl,by rw [← hs]; rfl⟩
 | succ m =>
   have h0:(0:Int)≤((m+1:Nat):Int) - 1:=by omega
   have h1:((m+1:Nat):Int) - 1=(m:Int):=by omega
   have e2:IntKind.i64.wrap ((m:Int) - 1)=(m:Int) - 1:=QjA (by omega)
   have hW:=QnF (P:=P) (G:=G) hT out m (by omega) (by omega)
   have hdm:∀ c∈Xz out m,c∈p:=fun c h=>hop c (QjP h)
   have hdl:=Qf0 (p:=out) (i:=m) (by omega)
   have hC:=Qjk (P:=P) (G:=G) hT v F (Xz out m) (by omega) hc (fun c h=>hp c (hdm c h)) (fun c h=>hb c (hdm c h))
   rw [h1] at f7
   rw [Y1] at hs
   simp only [fml,rows] at hW hC
   refine Qf [(2,.ptr 0 t 0),(6,.lst 1 (out.map row) false),(7,.int .i64 (m:Int))] ⟨f2,f6,f7,trivial⟩  1000 ?_
   have hm0:(0:Int)≤(m:Int):=by omega
   simp -implicitDefEqProofs (disch:=omega) only [go_sem,↓reduceIte,rq,hm0]
   refine Qi hT YX hW (by simp [Qd,nameless]) 1000 ?_
   simp -implicitDefEqProofs (disch:=omega) only [go_sem,↓reduceIte,reduceCtorEq,rA,rq,rfH]
   refine Qi hT Xx hC (by simp [Qd,nameless]) 1000 ?_
   cases hck:Xc v F (Xz out m) with
   | false =>
     rw [hck,if_neg (by simp)] at hs
     simp -implicitDefEqProofs (disch:=omega) only [go_sem,↓reduceIte,rq]
     refine ⟨m,_,_,by omega,Shift.refl _ _ _ _,out,by omega,ho,hop,hs,?_⟩
     simp -implicitDefEqProofs (disch:=omega) only [go_sem,↓reduceIte,rq,e2,rfH]
   | true =>
     rw [hck,if_pos rfl] at hs
     simp -implicitDefEqProofs (disch:=omega) only [go_sem,↓reduceIte,rq]
     refine ⟨m,_,_,by omega,Shift.refl _ _ _ _,Xz out m,by omega,by omega,hdm,hs,?_⟩
     simp -implicitDefEqProofs (disch:=omega) only [go_sem,↓reduceIte,rq,e2,rfH]
theorem Qsu (hT:Qj P tab) (v:Int) (F p:List (List Int)) (hF:F.length+p.length≤500) (hc:∀ c∈F,c.length≤500) (hp:∀ c∈p,c.length≤500) (hb:∀ c∈p,∀ n∈c,-9223372036854775808≤n∧n≤9223372036854775807) :
 Pure P G Zm [fml v F,rows p] fun u=>u=.tup [rows (short v F p).1,.bool (short v F p).2]:=by
 have hC:=Qjk (P:=P) (G:=G) hT v F p hF hc hp hb
 refine QdC (fun t0=>?_) (by simp [nameless,Qd,Qa2])
 simp only [fml,rows] at hC ⊢
 refine QF hT Zj (by simp [Xf]) (Qx 1000 ?_)
 simp -implicitDefEqProofs (disch:=omega) only [go_sem,↓reduceIte,reduceCtorEq,rA,rq]
 refine Qi hT Xx hC (by simp [Qd,nameless]) 1000 ?_
 cases hck:Xc v F p with
 | false =>
   have hs:short v F p=([],false):=by simp [short,hck]
   simp -implicitDefEqProofs (disch:=omega) only [go_sem,↓reduceIte,reduceCtorEq,rq,hs]
   exact .inl (.tup _ _ (.cons _ _ _ _ (.lst _ _ _ _ _ .nil (.inl rfl)) (.cons _ _ _ _ (.refl _) .nil)))
 | true =>
   have hs:short v F p=(Y1 v F (p.length - 1) p,true):=by simp [short,hck]
   have hpos:0<p.length:=by rw [ZV] at hck; simp at hck; omega
   have e1:IntKind.i64.wrap ((p.length:Int) - 2)=((p.length - 1:Nat):Int) - 1:=by rw [QjA (by omega)]; omega
   simp -implicitDefEqProofs (disch:=omega) only [go_sem,↓reduceIte,reduceCtorEq,rq,e1,hs]
   refine QC (soJ t0 v F p) (soE v F p) (m0:=p.length - 1) ⟨p,by omega,lR _,fun c h=>h,rfl,?_⟩ (fun m fr σ hJ=>QrA hT hF hc hp hb hJ) (fun e fr σ hE=>?_)
   ·simp -implicitDefEqProofs (disch:=omega) only [go_sem,↓reduceIte,reduceCtorEq,rq,rfH]
   ·obtain ⟨rfl,f6⟩:=hE
    refine QQ [(6,.lst 1 ((Y1 v F (p.length - 1) p).map row) false)] ⟨f6,trivial⟩ 1000 ?_
    simp -implicitDefEqProofs (disch:=omega) only [go_sem,↓reduceIte,rq]
    exact .inl (.refl _)
end
end Go.Proofs.Ytingdebioipemaa
