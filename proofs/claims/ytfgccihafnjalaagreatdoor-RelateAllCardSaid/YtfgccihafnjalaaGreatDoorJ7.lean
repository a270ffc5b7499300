/- Rows of pairs of ours: the library's DeleteFunc, Compact. -/
import Derived.Test.YtfgccihafnjalaaGreatDoorJ5
import Derived.Test.YtfgccihafnjalaaGreatDoorAmD
import Derived.Test.YtfgccihafnjalaaGreatDoorY
open Nat renaming reduceEqDiff → rq, reduceAdd → rA, reduceLeDiff → rL, reduceLT → rT, zero_add → zA, le_refl → lR, zero_le → zL, add_zero → aZ
open List renaming length_cons → lC, length_nil → lN, take_succ_cons → tS, length_append → lA, nil_append → nA, cons_append → cA, append_assoc → aA, take_nil → tN, take_zero → tZ, length_map → lM
open Bool renaming not_false → nF, not_true → nT
namespace Go.Proofs.YtfgccihafnjalaaGreatDoor
open Go Go.Am Go.Re
set_option maxRecDepth 100000
variable {P:Program} {G:Nat→Option V}
section
attribute [local go_sem] nF nT lA lC lN List.length_replicate aZ lR Nat.mul_one Nat.one_mul Nat.succ_ne_zero zA zL Nat.zero_mul Option.getD_none Option.getD_some Option.isSome_none Option.isSome_some beq_self_eq_true bne_self_eq_false decide_false decide_true YR ge_iff_le gt_iff_lt Qz Qk Qn zqt_0 zqt_1 Qwn Qwm Qwl QBE QBD QBC QBB zqt_2 zqt_3 zqt_4 zqt_5 zqt_6 zqt_7 QFC QFB Qo zqw_0 zqw_1 QBA QBz QBy zqw_2 zqw_3 zqw_4 zqw_5 zqw_6 zqw_7 zqw_8 zqw_9
theorem QkY {α:Type} (o:List α) (x y:α):(o++[x]).set o.length y=o++[y]:=by simp
theorem QhO {α:Type} (o:List α) (x y z:α):(o++[x,y]).set o.length z=o++[z,y]:=by simp
theorem Qh3 {α:Type} (o:List α) (x y:α):(o++[x,y])[o.length]?=some x:=by simp
theorem Qft {α:Type} (o:List α) (x y:α):(o++[x,y])[o.length+1]?=some y:=by
 rw [List.getElem?_append_right (by omega),show o.length+1 - o.length=1 by omega]; rfl
theorem QhN {α:Type} (o:List α) (x y z:α):(o++[x,y]).set (o.length+1) z=o++[x,z]:=by
 rw [List.set_append_right _ _ (by omega),show o.length+1 - o.length=1 by omega]; rfl
theorem QuI {q:Pr→Bool}:∀ {c:List Pr},¬ (∀ n∈c,q n=false)→∃ k n,c[k]?=some n∧q n=true∧∀ m∈c.take k,q m=false
 | [],h=>absurd (by simp) h
 | a::c,h=>by
   cases ha:q a with
   | true=>exact ⟨0,a,rfl,ha,by simp⟩
   | false =>
     obtain ⟨k,n,h1,h2,h3⟩:=QuI (c:=c) fun hh=>h fun n hn=>by
      simp only [List.mem_cons] at hn
      rcases hn with rfl | hn
      ·exact ha
      ·exact hh n hn
     exact ⟨k+1,n,by simpa using h1,h2,fun m hm=>by
      simp only [tS,List.mem_cons] at hm
      rcases hm with rfl | hm
      ·exact ha
      ·exact h3 m hm⟩
variable {c l:List Pr}
theorem filter_all {q:Pr→Bool} (h:∀ m∈c,q m=false):c.filter (fun n=>!q n)=c:=List.filter_eq_self.2 fun n hn=>by simp [h n hn]
variable {i base t w k:Nat}
theorem Qon {L:List Pr} (h:i<L.length) (y:Pr) (rest:List V):(fl prC L++rest).take (i * 3)++V.int .i64 y.v::V.int .u8 y.k::V.int .i64 y.n::(fl prC L++rest).drop (i * 3+3)=fl prC (L.set i y)++rest:=by
 have:=fl_put prC 3 QlU h y rest
 simpa [prC] using this
theorem Qff:∀ {a b:List V},Qb (a++b)=(Qb a&&Qb b)
 | [],b=>by simp [Qb]
 | x::a,b=>by simp [Qb,Qff (a:=a) (b:=b),Bool.and_assoc]
theorem Qs4:∀ (n:Nat) {a:List V},Qb a=true→Qb (a.drop n)=true
 | 0,a,h=>h
 | n+1,[],h=>rfl
 | n+1,x::a,h=>by simp only [Qb,Bool.and_eq_true] at h; exact Qs4 n h.2
theorem Qx8 (k:Nat):Qb (List.replicate k [V.int .i64 0,V.int .u8 0,V.int .i64 0]).flatten=true:=by
 induction k with
 | zero=>rfl
 | succ k ih=>rw [List.replicate_succ,List.flatten_cons]; simpa [Qb,Qd] using ih
theorem QgM (o:List (Option Ob)) (x y:Option Ob):Xw (o++[x]) (o++[x,y]):=by
 have:=Z6 (o.length+1) (o++[x,y])
 rwa [List.take_append,List.take_of_length_le (by omega),show o.length+1 - o.length=1 by omega] at this
variable {cs:List V} {o:List (Option Ob)}
theorem QrZ (hT:Qh P tab) {g:Nat} {cap:List V} (hcs:Qb cs=true) {p:Pr→Bool} (hb:base≤o.length) (hp:∀ ex,QuW P G base (.fn (.func g) [] cap) (o++ex) p c) (hl:c.length≤1000000) :
 C P G base Q6 [.sl o.length w 0 3 c.length none,.fn (.func g) [] cap] ⟨t,o++[some (.arr w 64 (fl prC c++cs))]⟩ fun v σ=>∃ t' cells,t≤t'∧Qb cells=true∧v=.sl o.length w 0 3 (c.filter fun n=>!p n).length none∧σ=⟨t',o++[some (.arr w 64 (fl prC (c.filter fun n=>!p n)++cells))]⟩:=by
 refine Q0 hT QD (by simp [Qo]) (Ql 1000 ?_)
 refine ya ?_
 refine call hT Q9 (QBa hT (hp _) (by omega) (k:=o.length) (w:=w) (T:=64) (lim:=none) (cs:=cs) (by simp)) 1000 fun v σ hv=>?_
 obtain ⟨rfl,t1,ht1,rfl⟩:=hv
 by_cases hn:∀ n∈c,p n=false
 ·rw [QpC hn,filter_all hn]
  refine ya ?_
  exact ⟨t1,cs,ht1,hcs,rfl,by simp⟩
 ·obtain ⟨k,n,hk,hpn,hno⟩:∃ k n,c[k]?=some n∧p n=true∧∀ m∈c.take k,p m=false:=QuI hn
  have hkl:=(List.getElem?_eq_some_iff.1 hk).1
  rw [Qtn hno hk hpn,zA]
  have e1:=YJ hkl (by omega)
  have hk1:((k:Int)==-1)=false:=by rw [beq_eq_false_iff_ne]; omega
  simp -implicitDefEqProofs (disch:=omega) only [go_sem,↓reduceIte,reduceCtorEq,rq,hk1,e1]
  refine Qbe (fun m fr σ=>∃ j t' L q,q=(c.take j).filter (fun n=>!p n)∧j≤c.length∧m=c.length - j∧q.length<j∧L.length=c.length∧L.take q.length=q∧L.drop j=c.drop j∧t≤t'∧Qf fr 0=.sl o.length w 0 3 c.length none∧Qf fr 1=.fn (.func g) [] cap∧Qf fr 5=.int .i64 q.length∧Qf fr 6=.int .i64 ((j:Nat):Int)∧σ=⟨t',o++[some (.arr w 64 (fl prC L++cs))]⟩)
   (fun e fr σ=>∃ t' L q,q=c.filter (fun n=>!p n)∧t≤t'∧e=.ex 0∧q.length<c.length∧L.length=c.length∧L.take q.length=q∧Qf fr 0=.sl o.length w 0 3 c.length none∧Qf fr 1=.fn (.func g) [] cap∧Qf fr 5=.int .i64 q.length∧σ=⟨t',o++[some (.arr w 64 (fl prC L++cs))]⟩)
   (m0:=c.length - (k+1)) ⟨k+1,t1,c,c.take k,?_,by omega,rfl,?_,rfl,?_,rfl,ht1,?_⟩ (fun m fr σ hJ=>?_) (fun e fr σ hE=>?_)
  ·rw [Qy hk,List.filter_append,filter_all hno]
   simp [hpn]
  ·simp; omega
  ·rw [List.length_take,Nat.min_eq_left (by omega)]
  ·simp -implicitDefEqProofs (disch:=omega) only [go_sem,↓reduceIte,reduceCtorEq,rq,List.length_take,Nat.min_eq_left (Nat.le_of_lt hkl)]
   try simp
  ·obtain ⟨j,t',L,q,hq,hj,rfl,hij,hL,hL1,hL2,ht,f0,f1,f5,f6,rfl⟩:=hJ
   rcases Nat.lt_or_ge j c.length with hlt | hge
   ·obtain ⟨n,hnj⟩:∃ n,c[j]?=some n:=⟨_,List.getElem?_eq_getElem hlt⟩
    have hnL:L[j]?=some n:=by
     have:=congrArg (fun l=>l[0]?) hL2
     simpa only [List.getElem?_drop,aZ,hnj] using this
    have hD:=ZJ hnL cs
    have hdn:L.drop (j+1)=c.drop (j+1):=by
     rw [← List.drop_drop,hL2,List.drop_drop]
    have e2:=YJ hlt (by omega)
    have e3:=YJ (i:=q.length) (n:=c.length) (by omega) (by omega)
    have hjL:j<L.length:=by omega
    have hqL:q.length<L.length:=by omega
    have hP:=Qon hqL n cs
    have hs1:j * 3+3≤c.length * 3+cs.length:=by omega
    have hs2:q.length * 3+3≤c.length * 3+cs.length:=by omega
    have hql:q.length<c.length:=by omega
    refine Qe [(0,.sl o.length w 0 3 c.length none),(1,.fn (.func g) [] cap),(5,.int .i64 q.length),(6,.int .i64 ((j:Nat):Int))] ⟨f0,f1,f5,f6,trivial⟩  12 ?_
    refine yc ?_
    iterate 20 (try (refine Qa 2 ?_; simp -implicitDefEqProofs (disch:=omega) only [go_sem,↓reduceIte,reduceCtorEq,rA,rq,List.getElem?_concat_length,Qft,QhN,aA,cA,nA,hlt,hD,hL,hs1]))
    have hh:=hp [some (.arr w 64 (fl prC L++cs)),some (.arr t' 64 [.int .i64 n.v,.int .u8 n.k,.int .i64 n.n])] (t'+1) n (List.mem_of_getElem? hnj)
    simp only [prV,prC] at hh
    refine CV.use 12 hh fun v σ hv=>?_
    obtain ⟨rfl,t2,ht2,rfl⟩:=hv
    cases hpn:p n with
    | true =>
      refine yf ?_
      iterate 6 (try (refine Qa 2 ?_; simp -implicitDefEqProofs (disch:=omega) only [go_sem,↓reduceIte,reduceCtorEq,rA,rq,rL,rT,Nat.reduceSub,Nat.reduceMul,Int.reduceToNat,Int.reduceLE,Int.reduceLT,Int.reduceEq,Int.reduceNe,Nat.reduceBEq,Nat.reduceBNe,List.getElem?_concat_length,QkY,QhO,Qh3,Qft,QhN,aA,cA,nA,Nat.add_assoc,e2]))
      refine ⟨c.length - (j+1),_,_,by omega,Shift.drop (o':=o++[some (.arr w 64 (fl prC L++cs))]) (t':=t2) (QgM _ _ _) (lR _) (by simp; omega),j+1,t2,L,q,?_,by omega,rfl,by omega,hL,hL1,hdn,by omega,?_⟩
      ·rw [Qy hnj,List.filter_append,← hq]; simp [hpn]
      ·exact yb
    | false =>
      simp -implicitDefEqProofs (disch:=omega) only [go_sem,↓reduceIte,reduceCtorEq,rA,rq,QhO,Qh3,Qft,aA,cA,nA]
      iterate 8 (try (refine Qa 2 ?_; simp -implicitDefEqProofs (disch:=omega) only [go_sem,↓reduceIte,reduceCtorEq,rq,hP,e3]))
      iterate 6 (try (refine Qa 2 ?_; simp -implicitDefEqProofs (disch:=omega) only [go_sem,↓reduceIte,reduceCtorEq,rA,rq,rL,rT,Nat.reduceSub,Nat.reduceMul,Int.reduceToNat,Int.reduceLE,Int.reduceLT,Int.reduceEq,Int.reduceNe,Nat.reduceBEq,Nat.reduceBNe,List.getElem?_concat_length,QkY,QhO,Qh3,Qft,QhN,aA,cA,nA,Nat.add_assoc,e2,e3]))
      refine ⟨c.length - (j+1),_,_,by omega,Shift.drop (o':=o++[some (.arr w 64 (fl prC (L.set q.length n)++cs))]) (t':=t2) (QgM _ _ _) (lR _) (by simp; omega),j+1,t2,L.set q.length n,q++[n],?_,by omega,rfl,?_,?_,?_,?_,by omega,?_⟩
      ·rw [Qy hnj,List.filter_append,← hq]; simp [hpn]
      ·simp; omega
      ·simpa using hL
      ·rw [lA,List.length_singleton,Qy (x:=n) (by simp [hqL]),List.take_set_of_le (lR _),hL1]
      ·rw [List.drop_set_of_lt (by omega)]; exact hdn
      ·simp -implicitDefEqProofs (disch:=omega) only [go_sem,↓reduceIte,reduceCtorEq,rq,e2]
   ·have hi:j=c.length:=by omega
    refine Qe [(0,.sl o.length w 0 3 c.length none),(1,.fn (.func g) [] cap),(5,.int .i64 q.length),(6,.int .i64 ((j:Nat):Int))] ⟨f0,f1,f5,f6,trivial⟩  12 ?_
    refine yd ?_
    rw [hi,List.take_length] at hq
    rw [hi] at hij
    refine ⟨t',L,q,hq,ht,hij,hL,hL1,?_⟩
    repeat' (first | exact rfl | refine ⟨rfl,?_⟩)
  ·obtain ⟨t',L,q,hq,ht,rfl,hlt,hL,hL1,f0,f1,f5,rfl⟩:=hE
   have htk:(fl prC L++cs).take (q.length * 3)=fl prC q:=by rw [QpH prC 3 QlU L q.length cs (by omega),hL1]
   have hqm:q.length * 3+(c.length - q.length) * 3≤c.length * 3+cs.length:=by omega
   refine QV [(0,.sl o.length w 0 3 c.length none),(1,.fn (.func g) [] cap),(5,.int .i64 q.length)] ⟨f0,f1,f5,trivial⟩ 5 ?_
   refine ya ?_
   refine Qa 12 ?_
   refine ya ?_
   simp only [evW]
   simp -implicitDefEqProofs (disch:=omega) only [go_sem,↓reduceIte,reduceCtorEq,rq,List.getElem?_concat_length,QkY,aA,hL,hqm,htk]
   rw [Nat.sub_zero,← hq]
   refine ⟨t',_,ht,?_,rfl,rfl,rfl⟩
   rw [Qff,Bool.and_eq_true]
   exact ⟨Qx8 _,Qs4 _ (by rw [Qff,X9 prC QjG,hcs]; rfl)⟩
theorem Qmw (x y:Pr):(x.v==y.v&&(x.k==y.k&&x.n==y.n))=decide (x=y):=by
 obtain ⟨a,b,c⟩:=x
 obtain ⟨d,e,f⟩:=y
 rw [Bool.eq_iff_iff]
 simp only [Bool.and_eq_true,beq_iff_eq,decide_eq_true_eq,Pr.mk.injEq]
theorem QzE (h:0<i) (hn:i≤9223372036854775807):IntKind.i64.wrap ((i:Int) - 1)=((i - 1:Nat):Int):=by
 rw [Zl]
 ·omega
 ·simp [IntKind.min,IntKind.signed,IntKind.bits]; omega
 ·simp [IntKind.max,IntKind.signed,IntKind.bits]; omega
abbrev cpJ (l:List Pr) (k w d t:Nat) (o:List (Option Ob)) (cs:List V):Nat→Fr→H→Prop:=fun m fr σ=>∃ j L q,q=Qi7 (l.take (d+j))∧1≤j∧d+j≤l.length∧m=l.length - (d+j)∧q.length<d+j∧L.length=l.length∧L.take q.length=q∧L.drop (d+j - 1)=l.drop (d+j - 1)∧Qf fr 0=.sl k w 0 3 l.length none∧Qf fr 3=.int .i64 q.length∧Qf fr 4=.sl k w (d * 3) 3 (l.length - d) none∧Qf fr 5=.int .i64 ((j:Nat):Int)∧σ=⟨t,o.set k (some (.arr w 64 (fl prC L++cs)))⟩
abbrev cpE (l:List Pr) (k w t:Nat) (o:List (Option Ob)) (cs:List V):AE→Fr→H→Prop:=fun e fr σ=>∃ L q,e=.ex 2∧q=Qi7 l∧q.length<l.length∧L.length=l.length∧L.take q.length=q∧Qf fr 0=.sl k w 0 3 l.length none∧Qf fr 3=.int .i64 q.length∧σ=⟨t,o.set k (some (.arr w 64 (fl prC L++cs)))⟩
theorem QA2 {d:Nat} (hk:base≤k) (hko:k<o.length) (hl:l.length≤1000000) {m:Nat} {fr:Fr} {σ:H} (hJ:cpJ l k w d t o cs m fr σ) :
 W P G 61 base (.seq (zg QFC [29,30,31] (zw 32 .skip (.exit 2))) (.seq (.block 3 (zg QFB [35,36,37,38,39,40,41,42,43] (zw 44 (zg Qwn [45,46,47,48,49,50,51] (.reg Qwm [52,53])) .skip))) (.reg Qwl [33,34]))) fr σ (YH (fun fr σ=>∃ m' fr' σ',m'<m∧Shift G 61 base fr σ fr' σ'∧cpJ l k w d t o cs m' fr' σ') (cpE l k w t o cs)):=by
 obtain ⟨j,L,q,hq,hj1,hj,rfl,hql,hL,hL1,hL2,f0,f3,f4,f5,rfl⟩:=hJ
 have hget:∀ X:Option Ob,(o.set k X)[k]?=some X:=fun X=>by simp [hko]
 have hset:∀ X Y:Option Ob,(o.set k X).set k Y=o.set k Y:=fun X Y=>by simp
 rcases Nat.lt_or_ge (d+j) l.length with hlt | hge
 ·obtain ⟨x,hx⟩:∃ x,l[d+j]?=some x:=⟨_,List.getElem?_eq_getElem hlt⟩
  obtain ⟨y,hy⟩:∃ y,l[d+j - 1]?=some y:=⟨_,List.getElem?_eq_getElem (by omega)⟩
  have hxL:L[d+j]?=some x:=by
   have:=congrArg (fun l=>l[1]?) hL2
   simpa only [List.getElem?_drop,show d+j - 1+1=d+j by omega,hx] using this
  have hyL:L[d+j - 1]?=some y:=by
   have:=congrArg (fun l=>l[0]?) hL2
   simpa only [List.getElem?_drop,aZ,hy] using this
  have hDx:=ZJ hxL cs
  have hDy:=ZJ hyL cs
  have e2:=YJ (i:=j) (n:=l.length) (by omega) (by omega)
  have e3:=YJ (i:=q.length) (n:=l.length) (by omega) (by omega)
  have e4:=QzE (i:=j) (by omega) (by omega)
  have a1:d * 3+j * 3=(d+j) * 3:=by omega
  have a2:d * 3+(j - 1) * 3=(d+j - 1) * 3:=by omega
  have b1:j<l.length - d:=by omega
  have b2:j - 1<l.length - d:=by omega
  have b3:(d+j) * 3+3≤l.length * 3+cs.length:=by omega
  have b4:(d+j - 1) * 3+3≤l.length * 3+cs.length:=by omega
  have b5:q.length * 3+3≤l.length * 3+cs.length:=by omega
  have b6:q.length<l.length:=by omega
  have hb1:((j:Int)<((l.length - d:Nat):Int))=True:=eq_true (by omega)
  have hP:=Qon (L:=L) (i:=q.length) (by omega) x cs
  have hsn:Qi7 (l.take (d+j+1))=Qi7 (l.take (d+j))++if (l.take (d+j)).getLast?=some x then [] else [x]:=by
   rw [Qy hx,QmT]
  have hla:(l.take (d+j)).getLast?=some y:=by
   rw [List.getLast?_eq_getElem?,List.length_take,Nat.min_eq_left (by omega),List.getElem?_take,if_pos (by omega),hy]
  rw [hla,← hq] at hsn
  have hdn:L.drop (d+j)=l.drop (d+j):=by
   have:=congrArg (List.drop 1) hL2
   simpa only [List.drop_drop,show d+j - 1+1=d+j by omega] using this
  by_cases he:x=y
  ·have hE:(x.v==y.v&&(x.k==y.k&&x.n==y.n))=true:=by rw [Qmw]; exact decide_eq_true he
   refine Qe [(0,.sl k w 0 3 l.length none),(3,.int .i64 q.length),(4,.sl k w (d * 3) 3 (l.length - d) none),(5,.int .i64 ((j:Nat):Int))] ⟨f0,f3,f4,f5,trivial⟩  12 ?_
   refine yl ?_
   iterate 8 (try (refine Qa 4 ?_; simp -implicitDefEqProofs (disch:=omega) only [go_sem,↓reduceIte,reduceCtorEq,rq,false_implies,and_true,hget,a1,a2,b1,b2,b3,b4,hL,hDx,hDy,e4,hE,e2]))
   refine ⟨l.length - (d+(j+1)),_,_,by omega,Shift.refl _ _ _ _,j+1,L,q,?_,by omega,by omega,rfl,by omega,hL,hL1,?_,?_⟩
   ·rw [← Nat.add_assoc,hsn,if_pos (by rw [he]),List.append_nil]
   ·rw [show d+(j+1) - 1=d+j by omega]; exact hdn
   ·exact yg
  ·have hE:(x.v==y.v&&(x.k==y.k&&x.n==y.n))=false:=by rw [Qmw]; exact decide_eq_false he
   refine Qe [(0,.sl k w 0 3 l.length none),(3,.int .i64 q.length),(4,.sl k w (d * 3) 3 (l.length - d) none),(5,.int .i64 ((j:Nat):Int))] ⟨f0,f3,f4,f5,trivial⟩  12 ?_
   refine yl ?_
   iterate 12 (try (refine Qa 4 ?_; simp -implicitDefEqProofs (disch:=omega) only [go_sem,↓reduceIte,reduceCtorEq,rA,rq,false_implies,true_and,and_true,hget,hset,a1,a2,b1,b2,b3,b4,b5,b6,hL,hDx,hDy,e4,hE,e2,e3,hP,aA,cA,nA]))
   refine ⟨l.length - (d+(j+1)),_,_,by omega,Shift.refl _ _ _ _,j+1,L.set q.length x,q++[x],?_,by omega,by omega,rfl,?_,?_,?_,?_,?_⟩
   ·rw [← Nat.add_assoc,hsn,if_neg (fun h=>he (by injection h with h; exact h.symm))]
   ·simp; omega
   ·simpa using hL
   ·rw [lA,List.length_singleton,Qy (x:=x) (by rw [List.getElem?_set_self (by omega)]),List.take_set_of_le (lR _),hL1]
   ·rw [show d+(j+1) - 1=d+j by omega,List.drop_set_of_lt (by omega)]; exact hdn
   ·simp -implicitDefEqProofs (disch:=omega) only [go_sem,↓reduceIte,reduceCtorEq,rq,and_true]
    try simp
 ·have hje:d+j=l.length:=by omega
  have hb1:((j:Int)<((l.length - d:Nat):Int))=False:=eq_false (by omega)
  refine Qe [(0,.sl k w 0 3 l.length none),(3,.int .i64 q.length),(4,.sl k w (d * 3) 3 (l.length - d) none),(5,.int .i64 ((j:Nat):Int))] ⟨f0,f3,f4,f5,trivial⟩  12 ?_
  refine yl ?_
  rw [hje,List.take_length] at hq
  refine ⟨L,q,rfl,hq,by omega,hL,hL1,?_⟩
  repeat' (first | exact rfl | refine ⟨rfl,?_⟩)
theorem QvY (hT:Qh P tab) (hcs:Qb cs=true) (hk:base≤k) (ho:o[k]?=some (some (.arr w 64 (fl prC l++cs)))) (hl:l.length≤1000000) :
 C P G base Xk [.sl k w 0 3 l.length none] ⟨t,o⟩ fun v σ=>v=.sl k w 0 3 (Qi7 l).length none∧∃ cells,Qb cells=true∧σ=⟨t,o.set k (some (.arr w 64 (fl prC (Qi7 l)++cells)))⟩:=by
 have hko:=(List.getElem?_eq_some_iff.1 ho).1
 have hos:o.set k (some (.arr w 64 (fl prC l++cs)))=o:=by
  obtain ⟨h1,h2⟩:=List.getElem?_eq_some_iff.1 ho
  rw [← h2,List.set_getElem_self]
 have hget:∀ X:Option Ob,(o.set k X)[k]?=some X:=fun X=>by simp [hko]
 have hset:∀ X Y:Option Ob,(o.set k X).set k Y=o.set k Y:=fun X Y=>by simp
 by_cases h2:l.length<2
 ·have h2':((l.length:Nat):Int)<2:=by omega
  have hc:Qi7 l=l:=by
   match l,h2 with
   | [],_=>rfl
   | [a],_=>rfl
   | a::b::l,h=>exact absurd h (by simp)
  refine Q0 hT QL (by simp [Qn]) (Ql 30 ?_)
  simp -implicitDefEqProofs (disch:=omega) only [go_sem,↓reduceIte,reduceCtorEq,rq,true_and,h2']
  rw [hc]
  exact ⟨rfl,cs,hcs,by rw [hos]⟩
 have h2':¬ ((l.length:Nat):Int)<2:=by omega
 refine Q0 hT QL (by simp [Qn]) (Ql 30 ?_)
 simp -implicitDefEqProofs (disch:=omega) only [go_sem,↓reduceIte,reduceCtorEq,rq,h2']
 refine Qbe (fun m fr σ=>∃ i,1≤i∧i≤l.length∧m=l.length - i∧Qi7 (l.take i)=l.take i∧Qf fr 0=.sl k w 0 3 l.length none∧Qf fr 3=.int .i64 ((i:Nat):Int)∧σ=⟨t,o⟩)
  (fun e fr σ=>(e=.ex 0∧Qi7 l=l∧Qf fr 0=.sl k w 0 3 l.length none∧σ=⟨t,o⟩)∨(e=.ret∧∃ cells,Qb cells=true∧Qf fr 2=.sl k w 0 3 (Qi7 l).length none∧σ=⟨t,o.set k (some (.arr w 64 (fl prC (Qi7 l)++cells)))⟩))
  (m0:=l.length - 1) ⟨1,by omega,by omega,rfl,?_,?_⟩ (fun m fr σ hJ=>?_) (fun e fr σ hE=>?_)
 ·match l,h2 with
  | [],h=>simp at h
  | a::l,_=>rfl
 ·refine yo ?_
  simp
 ·obtain ⟨i,hi1,hi,rfl,hok,f0,f3,rfl⟩:=hJ
  rcases Nat.lt_or_ge i l.length with hlt | hge
  ·obtain ⟨x,hx⟩:∃ x,l[i]?=some x:=⟨_,List.getElem?_eq_getElem hlt⟩
   obtain ⟨y,hy⟩:∃ y,l[i - 1]?=some y:=⟨_,List.getElem?_eq_getElem (by omega)⟩
   have hDx:=ZJ hx cs
   have hDy:=ZJ hy cs
   have e2:=YJ hlt (by omega)
   have e4:=QzE (i:=i) (by omega) (by omega)
   have b1:i - 1<l.length:=by omega
   have b3:i * 3+3≤l.length * 3+cs.length:=by omega
   have b4:(i - 1) * 3+3≤l.length * 3+cs.length:=by omega
   have hb1:((i:Int)<((l.length:Nat):Int))=True:=eq_true (by omega)
   have hsn:Qi7 (l.take (i+1))=Qi7 (l.take i)++if (l.take i).getLast?=some x then [] else [x]:=by rw [Qy hx,QmT]
   have hla:(l.take i).getLast?=some y:=by
    rw [List.getLast?_eq_getElem?,List.length_take,Nat.min_eq_left (by omega),List.getElem?_take,if_pos (by omega),hy]
   rw [hla,hok] at hsn
   by_cases he:x=y
   ·have hE:(x.v==y.v&&(x.k==y.k&&x.n==y.n))=true:=by rw [Qmw]; exact decide_eq_true he
    refine Qe [(0,.sl k w 0 3 l.length none),(3,.int .i64 ((i:Nat):Int))] ⟨f0,f3,trivial⟩  12 ?_
    refine yl ?_
    iterate 8 (try (refine Qa 4 ?_; simp -implicitDefEqProofs (disch:=omega) only [go_sem,↓reduceIte,reduceCtorEq,rq,false_implies,and_true,ho,b1,b3,b4,hDx,hDy,e4,hE,hlt]))
    refine Qbe (cpJ l k w i t o cs) (cpE l k w t o cs) (m0:=l.length - (i+1)) ⟨1,l,l.take i,?_,by omega,by omega,rfl,?_,rfl,?_,rfl,?_⟩ (fun m fr σ hJ=>QA2 hk hko hl hJ) (fun e fr σ hE=>?_)
    ·rw [hsn,if_pos (by rw [he]),List.append_nil]
    ·simp; omega
    ·rw [List.length_take,Nat.min_eq_left (by omega)]
    ·simp -implicitDefEqProofs (disch:=omega) only [go_sem,↓reduceIte,reduceCtorEq,rq,true_and,and_true,hos,List.length_take,Nat.min_eq_left (Nat.le_of_lt hlt)]
     try simp
    ·obtain ⟨L,q,rfl,hq,hql,hL,hL1,f0,f3,rfl⟩:=hE
     have htk:(fl prC L++cs).take (q.length * 3)=fl prC q:=by rw [QpH prC 3 QlU L q.length cs (by omega),hL1]
     have hqm:q.length * 3+(l.length - q.length) * 3≤l.length * 3+cs.length:=by omega
     refine QV [(0,.sl k w 0 3 l.length none),(3,.int .i64 q.length)] ⟨f0,f3,trivial⟩ 5 ?_
     refine yi ?_
     refine Qa 12 ?_
     refine ya ?_
     simp only [evW]
     simp -implicitDefEqProofs (disch:=omega) only [go_sem,↓reduceIte,reduceCtorEq,rq,true_and,and_true,hL,hget,hset,hqm,htk]
     refine Qa 4 ?_
     refine yi ?_
     refine ⟨_,?_,by rw [Nat.sub_zero,← hq],by rw [← hq,aA]⟩
     rw [Qff,Bool.and_eq_true]
     exact ⟨Qx8 _,Qs4 _ (by rw [Qff,X9 prC QjG,hcs]; rfl)⟩
   ·have hE:(x.v==y.v&&(x.k==y.k&&x.n==y.n))=false:=by rw [Qmw]; exact decide_eq_false he
    refine Qe [(0,.sl k w 0 3 l.length none),(3,.int .i64 ((i:Nat):Int))] ⟨f0,f3,trivial⟩  12 ?_
    refine yl ?_
    iterate 8 (try (refine Qa 4 ?_; simp -implicitDefEqProofs (disch:=omega) only [go_sem,↓reduceIte,reduceCtorEq,rq,false_implies,and_true,ho,b1,b3,b4,hDx,hDy,e4,hE,hlt,e2]))
    refine ⟨l.length - (i+1),_,_,by omega,Shift.refl _ _ _ _,i+1,by omega,by omega,rfl,?_,?_⟩
    ·rw [hsn,if_neg (fun h=>he (by injection h with h; exact h.symm)),Qy hx]
    ·exact yg
  ·have hie:i=l.length:=by omega
   have hb1:((i:Int)<((l.length:Nat):Int))=False:=eq_false (by omega)
   refine Qe [(0,.sl k w 0 3 l.length none),(3,.int .i64 ((i:Nat):Int))] ⟨f0,f3,trivial⟩  12 ?_
   simp -implicitDefEqProofs (disch:=omega) only [go_sem,↓reduceIte,reduceCtorEq,rq,true_and,and_true,hb1]
   rw [hie,List.take_length] at hok
   exact hok
 ·rcases hE with ⟨rfl,hc,f0,rfl⟩ | ⟨rfl,cells,hcn,f2,rfl⟩
  ·refine QV [(0,.sl k w 0 3 l.length none)] ⟨f0,trivial⟩ 12 ?_
   refine yi ?_
   rw [hc]
   first | exact ⟨rfl,cs,hcs,by rw [hos]⟩ | exact ⟨cs,hcs,by rw [hos]⟩
  ·refine Qa 12 ?_
   simp -implicitDefEqProofs (disch:=omega) only [go_sem,true_and,f2]
   first | exact ⟨rfl,cells,hcn,rfl⟩ | exact ⟨cells,hcn,rfl⟩
end
end Go.Proofs.YtfgccihafnjalaaGreatDoor
namespace Go.Am
open Go
variable {α:Type} [DecidableEq α]
def km (key:α→V) (f:α→V) (S:List α):List (V × V):=S.map fun a=>(key a,f a)
def QJK (f:α→V) (a:α) (v:V):α→V:=fun b=>if b=a then v else f b
def Qyg (S:List α) (a:α):List α:=if a∈S then S else S++[a]
omit [DecidableEq α] in
theorem km_length (key:α→V) (f:α→V) (S:List α):(km key f S).length=S.length:=by simp [km]
theorem Qyc {ks:List Kd} {key:α→V} (hk:∀ a b,Qdz ks (key a) (key b)=decide (a=b)) (f:α→V) (a:α):∀ S:List α,Qng ks (key a) (km key f S)=if a∈S then some (f a) else none
 | []=>rfl
 | b::S=>by
   have ih:=Qyc hk f a S
   unfold Qng km at ih ⊢
   simp only [List.map_cons,List.find?_cons,hk]
   by_cases h:a=b
   ·subst h; simp
   ·simp only [h,decide_false]
    rw [ih]
    simp [h]
theorem Qyb {ks:List Kd} {key:α→V} (hk:∀ a b,Qdz ks (key a) (key b)=decide (a=b)) (f:α→V) (a:α) (v:V):∀ S:List α,S.Nodup→Qnf ks (key a) v (km key f S)=km key (QJK f a v) (Qyg S a)
 | [],_=>by simp [Qnf,km,QJK,Qyg]
 | b::S,hn=>by
   have ih:=Qyb hk f a v S (List.nodup_cons.1 hn).2
   have hb:=(List.nodup_cons.1 hn).1
   simp only [km,List.map_cons,Qnf,hk]
   by_cases h:a=b
   ·subst h
    simp only [decide_true,if_true,Qyg,List.mem_cons,true_or,if_true,List.map_cons,QJK]
    congr 1
    refine List.map_congr_left fun c hc=>?_
    have:c≠a:=fun e=>hb (e▸hc)
    simp [this]
   ·have h':b≠a:=fun e=>h e.symm
    simp only [h,decide_false,Bool.false_eq_true,if_false]
    unfold km at ih
    rw [ih]
    unfold Qyg
    by_cases hm:a∈S
    ·simp [hm,QJK,h']
    ·simp [hm,h,QJK,h']
theorem QvD {S:List α} {a:α} (h:S.Nodup):(Qyg S a).Nodup:=by
 unfold Qyg
 split
 ·exact h
 ·rename_i hm
  rw [List.nodup_append]
  exact ⟨h,by simp,fun x hx y hy=>by simp at hy; subst hy; exact fun e=>hm (e▸hx)⟩
theorem QAr {S:List α} {a x:α}:x∈Qyg S a↔x∈S∨x=a:=by
 unfold Qyg
 split
 ·rename_i hm
  exact ⟨.inl,fun h=>h.elim id fun e=>e▸hm⟩
 ·simp
end Go.Am
namespace Go.Proofs.YtfgccihafnjalaaGreatDoor
open Go Go.Am Go.Re
set_option maxRecDepth 100000
variable {P:Program} {G:Nat→Option V}
section
attribute [local go_sem] nF lR zA zL decide_false decide_true Qz QbB Zi zqx_0 zqx_1 zqb_0 zqb_1 zqb_2 ZH zq9_0 zq9_1 zq9_2 zq9_3 Yd zqz_0 zqz_1 Qc2 zqv_0 zqv_1 zqv_2 zqv_3 zqv_4 zqv_5 zqv_6 zqv_7 QkY
def Qnm (l:List Pr):List Pr:=l.mergeSort fun x y=>!decide (lt y x)
theorem QlN (l:List Pr):(Qnm l).length=l.length:=(List.mergeSort_perm l _).length_eq
theorem QvT (l:List Pr):Qi7 (Qnm l)=srt l:=QxF l
def Qb0 (P:Program) (G:Nat→Option V):Prop:=∀ {base k v t:Nat} {o:List (Option Ob)} {l:List Pr} {n:Nat},n=l.length→base≤k→o[k]?=some (some (.arr v 64 (fl prC l)))→l.length≤1000000 →
 C P G base Xg [.sl k v 0 3 n none,.fn (.func 31) [] []] ⟨t,o⟩ fun r σ'=>r=.tup []∧σ'=⟨t,o.set k (some (.arr v 64 (fl prC (Qnm l))))⟩
variable {o:List (Option Ob)} {base t:Nat}
theorem QmW (hT:Qh P tab) (hS:Qb0 P G) (l:List Pr) (tg:Bool) (hl:l.length≤1000000) (hb:base≤o.length) :
 C P G base QbI [.lst 3 (prs l) tg] ⟨t,o⟩ fun u σ=>∃ t' w cells,t≤t'∧Qb cells=true∧u=.sl o.length w 0 3 (srt l).length none∧σ=⟨t',o++[some (.arr w 64 (fl prC (srt l)++cells))]⟩:=by
 refine Q0 hT ZC (by simp [ZH]) (Ql 1000 ?_)
 refine ya ?_
 refine call hT Xr (QBe hT l tg hl) 12 fun u σ hu=>?_
 obtain ⟨t1,w,ht1,rfl,rfl⟩:=hu
 refine ya ?_
 refine call hT Yl (hS (o:=o++[some (.arr w 64 (fl prC l))]) (l:=l) rfl hb (by simp) hl) 12 fun u σ hu=>?_
 obtain ⟨rfl,rfl⟩:=hu
 refine ya ?_
 rw [← QlN l]
 refine call hT QL (QvY hT (o:=o++[some (.arr w 64 (fl prC (Qnm l)))]) (w:=w) (l:=Qnm l) (cs:=[]) rfl hb (by simp) (by rw [QlN]; exact hl)) 12 fun u σ hu=>?_
 obtain ⟨rfl,cells,hcn,rfl⟩:=hu
 refine ya ?_
 rw [QvT]
 exact ⟨t1,w,cells,ht1,hcn,rfl,rfl,rfl⟩
theorem QqT:∀ (l:List Pr) (cs:List V),Zx 3 l.length (fl prC l++cs)=prs l
 | [],cs=>rfl
 | p::l,cs=>by
   have ih:=QqT l cs
   rw [lC,Qfu]
   simp only [Zx,prC,cA,nA,tS,tZ,List.drop_succ_cons,List.drop_zero]
   rw [ih]; rfl
theorem QiN {k w:Nat} (l:List Pr) (cs:List V):X8 k w (fl prC l++cs) (.sl k w 0 3 l.length none)=.lst 3 (prs l) false:=by
 simp [X8,Qj6,QqT]
 rw [YR]; omega
theorem QA9 (hT:Qh P tab) (hS:Qb0 P G) (l:List Pr) (tg:Bool) (hl:l.length≤1000000):Am.Pure P G QbI [.lst 3 (prs l) tg] fun u=>u=.lst 3 (prs (srt l)) false:=by
 refine Qli (fun t=>(QmW hT hS l tg hl (zL _)).conseq fun u σ hu=>?_) (by simp [Qd])
 obtain ⟨t1,w,cells,ht1,hcn,rfl,rfl⟩:=hu
 refine .inr ⟨0,w,64,_,rfl,by rw [Qff,X9 prC QjG,hcn]; rfl,?_,?_⟩
 ·rw [show ([]:List (Option Ob)).length=0 from rfl,QiN]; simp [Qd]
 ·rw [show ([]:List (Option Ob)).length=0 from rfl,QiN]; exact .refl _
theorem Qoo (a b:Pr):Qdz [.i,.i,.i] (prV a) (prV b)=decide (a=b):=by
 have:=Qmw a b
 simp only [Qdz,prV,prC,V.cells,QcJ,Qzw]
 rw [← this]
 rw [Bool.eq_iff_iff]; simp
theorem QAx (a:Pr) (f:Pr→V) (S:List Pr):QbQ true [.i,.i,.i] (prV a) (km prV f S):=by
 refine ⟨⟨rfl,rfl⟩,fun p hp=>?_⟩
 simp only [km,List.mem_map] at hp
 obtain ⟨b,_,rfl⟩:=hp
 exact ⟨rfl,rfl⟩
def setV (S:List Pr):List (V × V):=km prV (fun _=>.int .i64 1) S
variable {S:List Pr}
theorem Qz3 (p:Pr) (hn:S.Nodup):Qnf [Kd.i,Kd.i,Kd.i] (V.agg [.int .i64 p.v,.int .u8 p.k,.int .i64 p.n]) (.int .i64 1) (setV S)=setV (Qyg S p):=by
 have:=Qyb (ks:=[Kd.i,Kd.i,Kd.i]) (key:=prV) Qoo (fun _=>.int .i64 1) p (.int .i64 1) S hn
 unfold setV
 rw [show V.agg [.int .i64 p.v,.int .u8 p.k,.int .i64 p.n]=prV p from rfl,this]
 congr 1
 funext b
 unfold QJK; split <;> rfl
theorem Que (S:List Pr) (p:Pr):(Qng [Kd.i,Kd.i,Kd.i] (V.agg [.int .i64 p.v,.int .u8 p.k,.int .i64 p.n]) (setV S)).getD (.int .i64 0)=.int .i64 (if p∈S then 1 else 0):=by
 have:=Qyc (ks:=[Kd.i,Kd.i,Kd.i]) (key:=prV) Qoo (fun _=>.int .i64 1) p S
 unfold setV
 rw [show V.agg [.int .i64 p.v,.int .u8 p.k,.int .i64 p.n]=prV p from rfl,this]
 split <;> rfl
theorem QsR (S:List Pr) (p:Pr):QbQ true [Kd.i,Kd.i,Kd.i] (V.agg [.int .i64 p.v,.int .u8 p.k,.int .i64 p.n]) (setV S)=True:=eq_true (QAx p _ S)
theorem k_set (hT:Qh P tab) (l:List Pr) (tg:Bool) (hl:l.length≤1000000) (hb:base≤o.length) :
 C P G base QjM [.lst 3 (prs l) tg] ⟨t,o⟩ fun u σ=>∃ t' w S,t≤t'∧S.Nodup∧(∀ p,p∈S↔p∈l)∧u=.mp o.length w∧σ=⟨t',o++[some (.map w (setV S))]⟩:=by
 refine Q0 hT QjC (by simp [Qc2]) (Ql 1000 ?_)
 simp -implicitDefEqProofs (disch:=omega) only [go_sem,↓reduceIte,reduceCtorEq,rq,Qk]
 generalize hw:t=w
 have htw:t≤w+1:=by omega
 refine XS l (fun i fr σ=>∃ t' S,w+1≤t'∧S.Nodup∧(∀ p,p∈S↔p∈l.take i)∧Qf fr 3=.mp o.length w∧Qf fr 7=.lst 3 (prs l) tg∧Qf fr 8=.int .i64 l.length∧Qf fr 9=.int .i64 ((i:Nat):Int)∧σ=⟨t',o++[some (.map w (setV S))]⟩)
  (fun e fr σ=>∃ t' S,e=.ex 0∧w+1≤t'∧S.Nodup∧(∀ p,p∈S↔p∈l)∧Qf fr 3=.mp o.length w∧σ=⟨t',o++[some (.map w (setV S))]⟩) ⟨w+1,[],by omega,by simp,by simp,?_⟩ (fun i p hp fr σ hJ=>?_) (fun i hi fr σ hJ=>?_) (fun e fr σ hE=>?_)
 ·refine ya ?_
  try simp [setV,km]
 ·obtain ⟨t',S,ht,hn,hS,f3,f7,f8,f9,rfl⟩:=hJ
  have hlt:=(List.getElem?_eq_some_iff.1 hp).1
  have hD:=QaW hp
  have e2:=YJ hlt (by omega)
  have hnl:Qd (V.agg [.int .i64 p.v,.int .u8 p.k,.int .i64 p.n])=true:=rfl
  simp only [prV,prC] at hD
  refine Qe [(3,.mp o.length w),(7,.lst 3 (prs l) tg),(8,.int .i64 l.length),(9,.int .i64 ((i:Nat):Int))] ⟨f3,f7,f8,f9,trivial⟩  12 ?_
  simp -implicitDefEqProofs (disch:=omega) only [go_sem,↓reduceIte,rq,Qk,hlt,hD]
  iterate 8 (try (refine Qa 4 ?_; simp -implicitDefEqProofs (disch:=omega) only [go_sem,↓reduceIte,reduceCtorEq,rA,rq,QhO,Qh3,Qft,QhN,aA,cA,nA,lA,lC,lN,Qz3 p hn,QsR,hnl,e2]))
  refine ⟨_,_,Shift.drop (o':=o++[some (.map w (setV (Qyg S p)))]) (t':=t'+1) (QgM _ _ _) (lR _) (by simp; omega),t'+1,Qyg S p,by omega,QvD hn,fun q=>?_,?_⟩
  ·rw [QAr,Qy hp,List.mem_append,hS]; simp
  ·exact yb
 ·obtain ⟨t',S,ht,hn,hS,f3,f7,f8,f9,rfl⟩:=hJ
  refine Qe [(3,.mp o.length w),(7,.lst 3 (prs l) tg),(8,.int .i64 l.length),(9,.int .i64 ((i:Nat):Int))] ⟨f3,f7,f8,f9,trivial⟩  12 ?_
  refine yd ?_
  rw [hi,List.take_length] at hS
  refine ⟨t',S,ht,hn,hS,?_⟩
  repeat' (first | exact rfl | refine ⟨rfl,?_⟩)
 ·obtain ⟨t',S,rfl,ht,hn,hS,f3,rfl⟩:=hE
  refine QV [(3,.mp o.length w)] ⟨f3,trivial⟩ 12 ?_
  refine ya ?_
  exact ⟨t',w,S,by omega,hn,hS,rfl,rfl,rfl⟩
theorem Qai:(Value.map none).oneCell'=true:=rfl
theorem Qxt (hT:Qh P tab) {l:List Pr} {w1 w2:Nat} {ex:List (Option Ob)} (hb:base≤2+ex.length) (f:Nat) (hf:f=Qea∨f=Qcr) :
 QuW P G base (.fn (.func f) [] [.ptr 1 w2 0]) ([some (.map w1 (setV S)),some (.arr w2 71 [.mp 0 w1])]++ex) (fun p=>!decide (p∈S)) l:=fun t p hp=>by
 have hbb:((if p∈S then (1:Int) else 0)==0) = !decide (p∈S):=by split <;> simp [*]
 have htk:∀ x y z:Option Ob,List.take (2+ex.length) (x::y::(ex++[z]))=x::y::ex:=fun x y z=>by
  rw [Nat.add_comm,tS,tS,List.take_append,List.take_of_length_le (lR _),Nat.sub_self,tZ,List.append_nil]
 rcases hf with rfl | rfl
 ·refine CV.of hT Qd2 (Xq (2+ex.length) hb (Q0 hT Qd2 (by simp [Zi]) (Ql 1000 ?_)))
  simp only [prV,prC]
  simp -implicitDefEqProofs (disch:=omega) only [go_sem,↓reduceIte,reduceCtorEq,rA,rq,List.getElem?_concat_length,cA,nA,lA,lC,lN,List.getElem?_cons_zero,List.getElem?_cons_succ,Nat.add_assoc,QsR,Que,hbb,htk]
  try simp
  try omega
 ·refine CV.of hT Qcn (Xq (2+ex.length) hb (Q0 hT Qcn (by simp [Yd]) (Ql 1000 ?_)))
  simp only [prV,prC]
  simp -implicitDefEqProofs (disch:=omega) only [go_sem,↓reduceIte,reduceCtorEq,rA,rq,List.getElem?_concat_length,cA,nA,lA,lC,lN,List.getElem?_cons_zero,List.getElem?_cons_succ,Nat.add_assoc,QsR,Que,hbb,htk]
  try simp
  try omega
theorem c_Meet (hT:Qh P tab) (hS:Qb0 P G) (a b:List Pr) (ta tb:Bool) (ha:a.length≤1000000) (hb:b.length≤1000000):Am.Pure P G QhY [.lst 3 (prs a) ta,.lst 3 (prs b) tb] fun u=>u=.lst 3 (prs (meet a b)) false:=by
 refine Qli (fun t=>?_) (by simp [Qd])
 refine Q0 hT QhK (by simp [QbB]) (Ql 1000 ?_)
 refine ya ?_
 refine call hT QjC (k_set hT b tb hb (o:=[]) (zL _)) 12 fun u σ hu=>?_
 obtain ⟨t1,w,S,ht1,hn,hSm,rfl,rfl⟩:=hu
 simp -implicitDefEqProofs (disch:=omega) only [go_sem,↓reduceIte,reduceCtorEq,rq,Qai,cA,nA,lC,lN,List.getElem?_cons_zero,List.getElem?_cons_succ,List.set_cons_zero,List.set_cons_succ]
 refine call hT ZC (QmW hT hS a ta ha (zL _)) 12 fun u σ hu=>?_
 obtain ⟨t2,w2,cells,ht2,hcn,rfl,rfl⟩:=hu
 simp -implicitDefEqProofs (disch:=omega) only [go_sem,↓reduceIte,reduceCtorEq,rA,rq,cA,nA,lC,lN]
 have hsl:=QlM a
 refine call hT QD (QrZ hT (o:=[some (.map w (setV S)),some (.arr t1 71 [.mp 0 w])]) hcn (zL _) (fun ex=>Qxt hT (zL _) _ (.inl rfl)) (by omega)) 12 fun u σ hu=>?_
 obtain ⟨t3,cells3,ht3,hcn3,rfl,rfl⟩:=hu
 have hm:(srt a).filter (fun p=>!(!decide (p∈S)))=meet a b:=by
  unfold meet
  refine List.filter_congr fun p _=>?_
  rw [Bool.not_not]; exact decide_eq_decide.2 (hSm p)
 rw [hm]
 simp -implicitDefEqProofs (disch:=omega) only [go_sem,↓reduceIte,reduceCtorEq,rA,rq,cA,nA,lC,lN]
 refine ⟨2,w2,64,_,rfl,by rw [Qff,X9 prC QjG,hcn3]; rfl,?_,?_⟩
 ·rw [QiN]; simp [Qd]
 ·rw [QiN]; exact .refl _
end
end Go.Proofs.YtfgccihafnjalaaGreatDoor
