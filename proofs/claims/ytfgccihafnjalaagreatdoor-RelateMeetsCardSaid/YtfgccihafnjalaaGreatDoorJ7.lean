/- Rows of pairs of ours: the library's DeleteFunc, Compact. -/
import Derived.Test.YtfgccihafnjalaaGreatDoorJ5
import Derived.Test.YtfgccihafnjalaaGreatDoorAmD
import Derived.Test.YtfgccihafnjalaaGreatDoorY
open Nat renaming reduceEqDiff → rq, reduceAdd → rA, reduceLeDiff → rL, reduceLT → rT, zero_add → zA, le_refl → lR, zero_le → zL, add_zero → aZ
open List renaming length_cons → lC, length_nil → lN, take_succ_cons → tS, length_append → lA, nil_append → nA, cons_append → cA, append_assoc → aA, take_nil → tN, take_zero → tZ, length_map → lM
open Bool renaming not_false → nF, not_true → nT
namespace Go.Proofs.YtfgccihafnjalaaGreatDoor
open Go Go.Am Go.Re
set_option maxRecDepth 100000
variable {P:Program} {G:Nat→Option V}
theorem QgO {α:Type} (o:List α) (x y:α):(o++[x]).set o.length y=o++[y]:=by simp
theorem QgN {α:Type} (o:List α) (x y z:α):(o++[x,y]).set o.length z=o++[z,y]:=by simp
theorem Qhb {α:Type} (o:List α) (x y:α):(o++[x,y])[o.length]?=some x:=by simp
theorem QeO {α:Type} (o:List α) (x y:α):(o++[x,y])[o.length+1]?=some y:=by
 rw [List.getElem?_append_right (by omega),show o.length+1 - o.length=1 by omega]; rfl
theorem QgM {α:Type} (o:List α) (x y z:α):(o++[x,y]).set (o.length+1) z=o++[x,z]:=by
 rw [List.set_append_right _ _ (by omega),show o.length+1 - o.length=1 by omega]; rfl
theorem Qrd {q:Pr→Bool}:∀ {c:List Pr},¬ (∀ n∈c,q n=false)→∃ k n,c[k]?=some n∧q n=true∧∀ m∈c.take k,q m=false
 | [],h=>absurd (by simp) h
 | a::c,h=>by
   cases ha:q a with
   | true=>exact ⟨0,a,rfl,ha,by simp⟩
   | false =>
     obtain ⟨k,n,h1,h2,h3⟩:=Qrd (c:=c) fun hh=>h fun n hn=>by
      simp only [List.mem_cons] at hn
      rcases hn with rfl | hn
      ·exact ha
      ·exact hh n hn
     exact ⟨k+1,n,by simpa using h1,h2,fun m hm=>by
      simp only [tS,List.mem_cons] at hm
      rcases hm with rfl | hm
      ·exact ha
      ·exact h3 m hm⟩
theorem filter_all {q:Pr→Bool} {c:List Pr} (h:∀ m∈c,q m=false):c.filter (fun n=>!q n)=c:=List.filter_eq_self.2 fun n hn=>by simp [h n hn]
theorem QqQ {L:List Pr} {i:Nat} (h:i<L.length) (y:Pr) (rest:List V):(fl prC L++rest).take (i * 3)++V.int .i64 y.v::V.int .u8 y.k::V.int .i64 y.n::(fl prC L++rest).drop (i * 3+3)=fl prC (L.set i y)++rest:=by
 have:=fl_put prC 3 Qki h y rest
 simpa [prC] using this
theorem Qis:∀ {a b:List V},Qc (a++b)=(Qc a&&Qc b)
 | [],b=>by simp [Qc]
 | x::a,b=>by simp [Qc,Qis (a:=a) (b:=b),Bool.and_assoc]
theorem QpL:∀ (n:Nat) {a:List V},Qc a=true→Qc (a.drop n)=true
 | 0,a,h=>h
 | n+1,[],h=>rfl
 | n+1,x::a,h=>by simp only [Qc,Bool.and_eq_true] at h; exact QpL n h.2
theorem Qt9 (k:Nat):Qc (List.replicate k [V.int .i64 0,V.int .u8 0,V.int .i64 0]).flatten=true:=by
 induction k with
 | zero=>rfl
 | succ k ih=>rw [List.replicate_succ,List.flatten_cons]; simpa [Qc,Qe] using ih
theorem Qf1 (o:List (Option Ob)) (x y:Option Ob):Xr (o++[x]) (o++[x,y]):=by
 have:=ZQ (o.length+1) (o++[x,y])
 rwa [List.take_append,List.take_of_length_le (by omega),show o.length+1 - o.length=1 by omega] at this
theorem QoY (hT:Qw P tab) {base t g w:Nat} {o:List (Option Ob)} {cap cs:List V} (hcs:Qc cs=true) {p:Pr→Bool} {c:List Pr} (hb:base≤o.length) (hp:∀ ex,QmB P G base (.fn (.func g) [] cap) (o++ex) p c) (hl:c.length≤1000000) :
 C P G base Q0 [.sl o.length w 0 3 c.length none, .fn (.func g) [] cap] ⟨t, o ++ [some (.arr w 64 (fl prC c ++ cs))]⟩ fun v σ => ∃ t' cells, t ≤ t' ∧ Qc cells = true ∧ v = .sl o.length w 0 3 (c.filter fun n => !p n).length none ∧ σ = ⟨t', o ++ [some (.arr w 64 (fl prC (c.filter fun n => !p n) ++ cells))]⟩ := by
 refine Xk hT Qz (by simp [Qh]) (Qu 1000 ?_)
 simp -implicitDefEqProofs (disch:=omega) only [go_sem,↓reduceIte,reduceCtorEq,rq,zA,Qh,Qvy,Qvx,Qvw,Qvv,Qvu,Qvt,Qvs,Qvr,Qvq,Qvp,Qqw,Qqv,Qqu]
 refine call hT Qs (QwE hT (hp _) (by omega) (k:=o.length) (w:=w) (T:=64) (lim:=none) (cs:=cs) (by simp)) 1000 fun v σ hv=>?_
 obtain ⟨rfl,t1,ht1,rfl⟩:=hv
 by_cases hn:∀ n∈c,p n=false
 ·rw [QjN hn,filter_all hn]
  refine ya ?_
  exact ⟨t1,cs,ht1,hcs,rfl,by simp⟩
 ·obtain ⟨k,n,hk,hpn,hno⟩:∃ k n,c[k]?=some n∧p n=true∧∀ m∈c.take k,p m=false:=Qrd hn
  have hkl:=(List.getElem?_eq_some_iff.1 hk).1
  rw [Qnc hno hk hpn,zA]
  have e1:=QcJ hkl (by omega)
  have hk1:((k:Int)==-1)=false:=by rw [beq_eq_false_iff_ne]; omega
  simp -implicitDefEqProofs (disch:=omega) only [go_sem,↓reduceIte,reduceCtorEq,rq,hk1,e1]
  refine Qfc (fun m fr σ => ∃ j t' L q, q = (c.take j).filter (fun n => !p n) ∧ j ≤ c.length ∧ m = c.length - j ∧ q.length < j ∧ L.length = c.length ∧ L.take q.length = q ∧ L.drop j = c.drop j ∧ t ≤ t' ∧ Qx fr 0 = .sl o.length w 0 3 c.length none ∧ Qx fr 1 = .fn (.func g) [] cap ∧ Qx fr 5 = .int .i64 q.length ∧ Qx fr 6 = .int .i64 ((j : Nat) : Int) ∧ σ = ⟨t', o ++ [some (.arr w 64 (fl prC L ++ cs))]⟩)
   (fun e fr σ => ∃ t' L q, q = c.filter (fun n => !p n) ∧ t ≤ t' ∧ e = .ex 0 ∧ q.length < c.length ∧ L.length = c.length ∧ L.take q.length = q ∧ Qx fr 0 = .sl o.length w 0 3 c.length none ∧ Qx fr 1 = .fn (.func g) [] cap ∧ Qx fr 5 = .int .i64 q.length ∧ σ = ⟨t', o ++ [some (.arr w 64 (fl prC L ++ cs))]⟩)
   (m0:=c.length - (k+1)) ⟨k+1,t1,c,c.take k,?_,by omega,rfl,?_,rfl,?_,rfl,ht1,?_⟩ (fun m fr σ hJ=>?_) (fun e fr σ hE=>?_)
  ·rw [QJ hk,List.filter_append,filter_all hno]
   simp [hpn]
  ·simp; omega
  ·rw [List.length_take,Nat.min_eq_left (by omega)]
  ·simp -implicitDefEqProofs (disch:=omega) only [go_sem,↓reduceIte,reduceCtorEq,rq,List.length_take,Nat.min_eq_left (Nat.le_of_lt hkl)]
   try simp
  ·obtain ⟨j, t', L, q, hq, hj, rfl, hij, hL, hL1, hL2, ht, f0, f1, f5, f6, rfl⟩ := hJ
   rcases Nat.lt_or_ge j c.length with hlt | hge
   ·obtain ⟨n,hnj⟩:∃ n,c[j]?=some n:=⟨_,List.getElem?_eq_getElem hlt⟩
    have hnL:L[j]?=some n:=by
     have:=congrArg (fun l=>l[0]?) hL2
     simpa only [List.getElem?_drop,aZ,hnj] using this
    have hD:=QaC hnL cs
    have hdn:L.drop (j+1)=c.drop (j+1):=by
     rw [← List.drop_drop,hL2,List.drop_drop]
    have e2:=QcJ hlt (by omega)
    have e3:=QcJ (i:=q.length) (n:=c.length) (by omega) (by omega)
    have hjL:j<L.length:=by omega
    have hqL:q.length<L.length:=by omega
    have hP:=QqQ hqL n cs
    have hs1:j * 3+3≤c.length * 3+cs.length:=by omega
    have hs2:q.length * 3+3≤c.length * 3+cs.length:=by omega
    have hql:q.length<c.length:=by omega
    refine QU [(0,.sl o.length w 0 3 c.length none),(1,.fn (.func g) [] cap),(5,.int .i64 q.length),(6,.int .i64 ((j:Nat):Int))] ⟨f0,f1,f5,f6,trivial⟩  12 ?_
    simp -implicitDefEqProofs (disch:=omega) only [go_sem,↓reduceIte,reduceCtorEq,rq,decide_true,hlt]
    iterate 20 (try (refine Qb 2 ?_; simp -implicitDefEqProofs (disch:=omega) only [go_sem,Qf,↓reduceIte,reduceCtorEq,rA,rq,zA,nF,lR,QN,lA,List.getElem?_concat_length,QeO,QgM,aA,cA,nA,lC,lN,hlt,hD,hL,hs1]))
    have hh:=hp [some (.arr w 64 (fl prC L++cs)),some (.arr t' 64 [.int .i64 n.v,.int .u8 n.k,.int .i64 n.n])] (t'+1) n (List.mem_of_getElem? hnj)
    simp only [prV,prC] at hh
    refine CV.use 12 hh fun v σ hv=>?_
    obtain ⟨rfl,t2,ht2,rfl⟩:=hv
    cases hpn:p n with
    | true =>
      refine yv ?_
      iterate 6 (try (refine Qb 2 ?_; simp -implicitDefEqProofs (disch:=omega) only [go_sem,Qf,↓reduceIte,reduceCtorEq,rA,rq,rL,rT,Nat.reduceSub,Nat.reduceMul,Int.reduceToNat,Int.reduceLE,Int.reduceLT,Int.reduceEq,Int.reduceNe,Nat.succ_ne_zero,zA,aZ,Nat.mul_one,Nat.one_mul,Nat.zero_mul,decide_true,decide_false,nT,nF,lR,zL,ge_iff_le,gt_iff_lt,Nat.reduceBEq,Nat.reduceBNe,beq_self_eq_true,bne_self_eq_false,Option.isSome_some,Option.isSome_none,Option.getD_some,Option.getD_none,Qh,Qvy,Qvx,Qvw,Qvv,Qvu,Qvt,Qvs,Qvr,Qvq,Qvp,Qqw,Qqv,Qqu,Qk,QN,lA,List.getElem?_concat_length,QgO,QgN,Qhb,QeO,QgM,aA,cA,nA,lC,lN,List.length_replicate,Nat.add_assoc,e2]))
      refine ⟨c.length - (j+1),_,_,by omega,Shift.drop (o':=o++[some (.arr w 64 (fl prC L++cs))]) (t':=t2) (Qf1 _ _ _) (lR _) (by simp; omega),j+1,t2,L,q,?_,by omega,rfl,by omega,hL,hL1,hdn,by omega,?_⟩
      ·rw [QJ hnj,List.filter_append,← hq]; simp [hpn]
      ·exact yl
    | false =>
      simp -implicitDefEqProofs (disch:=omega) only [go_sem,Qf,↓reduceIte,reduceCtorEq,rA,rq,zA,nF,lR,QN,lA,QgN,Qhb,QeO,aA,cA,nA,lC,lN]
      iterate 8 (try (refine Qb 2 ?_; simp -implicitDefEqProofs (disch:=omega) only [go_sem,↓reduceIte,reduceCtorEq,rq,hP,e3]))
      iterate 6 (try (refine Qb 2 ?_; simp -implicitDefEqProofs (disch:=omega) only [go_sem,Qf,↓reduceIte,reduceCtorEq,rA,rq,rL,rT,Nat.reduceSub,Nat.reduceMul,Int.reduceToNat,Int.reduceLE,Int.reduceLT,Int.reduceEq,Int.reduceNe,Nat.succ_ne_zero,zA,aZ,Nat.mul_one,Nat.one_mul,Nat.zero_mul,decide_true,decide_false,nT,nF,lR,zL,ge_iff_le,gt_iff_lt,Nat.reduceBEq,Nat.reduceBNe,beq_self_eq_true,bne_self_eq_false,Option.isSome_some,Option.isSome_none,Option.getD_some,Option.getD_none,Qh,Qvy,Qvx,Qvw,Qvv,Qvu,Qvt,Qvs,Qvr,Qvq,Qvp,Qqw,Qqv,Qqu,Qk,QN,lA,List.getElem?_concat_length,QgO,QgN,Qhb,QeO,QgM,aA,cA,nA,lC,lN,List.length_replicate,Nat.add_assoc,e2,e3]))
      refine ⟨c.length - (j+1),_,_,by omega,Shift.drop (o':=o++[some (.arr w 64 (fl prC (L.set q.length n)++cs))]) (t':=t2) (Qf1 _ _ _) (lR _) (by simp; omega),j+1,t2,L.set q.length n,q++[n],?_,by omega,rfl,?_,?_,?_,?_,by omega,?_⟩
      ·rw [QJ hnj,List.filter_append,← hq]; simp [hpn]
      ·simp; omega
      ·simpa using hL
      ·rw [lA,List.length_singleton,QJ (x:=n) (by simp [hqL]),List.take_set_of_le (lR _),hL1]
      ·rw [List.drop_set_of_lt (by omega)]; exact hdn
      ·simp -implicitDefEqProofs (disch:=omega) only [go_sem,↓reduceIte,reduceCtorEq,rq,zA,lA,lC,lN,lA,e2]
   ·have hi:j=c.length:=by omega
    refine QU [(0,.sl o.length w 0 3 c.length none),(1,.fn (.func g) [] cap),(5,.int .i64 q.length),(6,.int .i64 ((j:Nat):Int))] ⟨f0,f1,f5,f6,trivial⟩  12 ?_
    refine yj ?_
    rw [hi,List.take_length] at hq
    rw [hi] at hij
    refine ⟨t', L, q, hq, ht, hij, hL, hL1, ?_⟩
    repeat' (first | exact rfl | refine ⟨rfl,?_⟩)
  ·obtain ⟨t', L, q, hq, ht, rfl, hlt, hL, hL1, f0, f1, f5, rfl⟩ := hE
   have htk:(fl prC L++cs).take (q.length * 3)=fl prC q:=by rw [Qnf prC 3 Qki L q.length cs (by omega),hL1]
   have hqm:q.length * 3+(c.length - q.length) * 3≤c.length * 3+cs.length:=by omega
   refine QbX [(0,.sl o.length w 0 3 c.length none),(1,.fn (.func g) [] cap),(5,.int .i64 q.length)] ⟨f0,f1,f5,trivial⟩ 5 ?_
   simp -implicitDefEqProofs (disch:=omega) only [go_sem,Qf,↓reduceIte,reduceCtorEq,rq,zA]
   refine Qb 12 ?_
   refine ya ?_
   simp only [evW]
   simp -implicitDefEqProofs (disch:=omega) only [go_sem,Qf,↓reduceIte,reduceCtorEq,rq,aZ,Nat.zero_mul,QN,lA,List.getElem?_concat_length,QgO,aA,hL,hqm,htk]
   rw [Nat.sub_zero,← hq]
   refine ⟨t', _, ht, ?_, rfl, rfl, rfl⟩
   rw [Qis,Bool.and_eq_true]
   exact ⟨Qt9 _,QpL _ (by rw [Qis,Z4 prC Qn1,hcs]; rfl)⟩
theorem Qnh (x y:Pr):(x.v==y.v&&(x.k==y.k&&x.n==y.n))=decide (x=y):=by
 obtain ⟨a,b,c⟩:=x
 obtain ⟨d,e,f⟩:=y
 rw [Bool.eq_iff_iff]
 simp only [Bool.and_eq_true,beq_iff_eq,decide_eq_true_eq,Pr.mk.injEq]
theorem wpred {i:Nat} (h:0<i) (hn:i≤9223372036854775807):IntKind.i64.wrap ((i:Int) - 1)=((i - 1:Nat):Int):=by
 rw [ZN]
 ·omega
 ·simp [IntKind.min,IntKind.signed,IntKind.bits]; omega
 ·simp [IntKind.max,IntKind.signed,IntKind.bits]; omega
abbrev cpJ (l:List Pr) (k w d t:Nat) (o:List (Option Ob)) (cs:List V):Nat→Fr→H→Prop:=fun m fr σ=>∃ j L q,q=Qib (l.take (d+j))∧1≤j∧d+j≤l.length∧m=l.length - (d+j)∧q.length<d+j∧L.length=l.length∧L.take q.length=q∧L.drop (d+j - 1)=l.drop (d+j - 1)∧Qx fr 0=.sl k w 0 3 l.length none∧Qx fr 3=.int .i64 q.length∧Qx fr 4=.sl k w (d * 3) 3 (l.length - d) none∧Qx fr 5=.int .i64 ((j:Nat):Int)∧σ=⟨t,o.set k (some (.arr w 64 (fl prC L++cs)))⟩
abbrev cpE (l:List Pr) (k w t:Nat) (o:List (Option Ob)) (cs:List V):AE→Fr→H→Prop:=fun e fr σ=>∃ L q,e=.ex 2∧q=Qib l∧q.length<l.length∧L.length=l.length∧L.take q.length=q∧Qx fr 0=.sl k w 0 3 l.length none∧Qx fr 3=.int .i64 q.length∧σ=⟨t,o.set k (some (.arr w 64 (fl prC L++cs)))⟩
theorem Qwy {l:List Pr} {base k w d t:Nat} {o:List (Option Ob)} {cs:List V} (hk:base≤k) (hko:k<o.length) (hl:l.length≤1000000) {m:Nat} {fr:Fr} {σ:H} (hJ:cpJ l k w d t o cs m fr σ) :
 W P G 61 base (AC.seq (AC.seq (AC.reg Qpm [29, 30, 31])   (AC.cond (Arg.t 32)   AC.skip   (AC.exit 2)))   (AC.seq (AC.block 3 (AC.seq (AC.reg Qpl [35, 36, 37, 38, 39, 40, 41, 42, 43])   (AC.cond (Arg.t 44)   (AC.seq (AC.reg QjS [45, 46, 47, 48, 49, 50, 51])   (AC.reg QjR [52, 53]))   AC.skip)))   (AC.reg QjQ [33, 34]))) fr σ (Qhz (fun fr σ => ∃ m' fr' σ', m' < m ∧ Shift G 61 base fr σ fr' σ' ∧ cpJ l k w d t o cs m' fr' σ') (cpE l k w t o cs)) := by
 obtain ⟨j,L,q,hq,hj1,hj,rfl,hql,hL,hL1,hL2,f0,f3,f4,f5,rfl⟩:=hJ
 have hget:∀ X:Option Ob,(o.set k X)[k]?=some X:=fun X=>by simp [hko]
 have hset:∀ X Y:Option Ob,(o.set k X).set k Y=o.set k Y:=fun X Y=>by simp
 rcases Nat.lt_or_ge (d+j) l.length with hlt | hge
 ·obtain ⟨x,hx⟩:∃ x,l[d+j]?=some x:=⟨_,List.getElem?_eq_getElem hlt⟩
  obtain ⟨y,hy⟩:∃ y,l[d+j - 1]?=some y:=⟨_,List.getElem?_eq_getElem (by omega)⟩
  have hxL:L[d+j]?=some x:=by
   have:=congrArg (fun l=>l[1]?) hL2
   simpa only [List.getElem?_drop,show d+j - 1+1=d+j by omega,hx] using this
  have hyL:L[d+j - 1]?=some y:=by
   have:=congrArg (fun l=>l[0]?) hL2
   simpa only [List.getElem?_drop,aZ,hy] using this
  have hDx:=QaC hxL cs
  have hDy:=QaC hyL cs
  have e2:=QcJ (i:=j) (n:=l.length) (by omega) (by omega)
  have e3:=QcJ (i:=q.length) (n:=l.length) (by omega) (by omega)
  have e4:=wpred (i:=j) (by omega) (by omega)
  have a1:d * 3+j * 3=(d+j) * 3:=by omega
  have a2:d * 3+(j - 1) * 3=(d+j - 1) * 3:=by omega
  have b1:j<l.length - d:=by omega
  have b2:j - 1<l.length - d:=by omega
  have b3:(d+j) * 3+3≤l.length * 3+cs.length:=by omega
  have b4:(d+j - 1) * 3+3≤l.length * 3+cs.length:=by omega
  have b5:q.length * 3+3≤l.length * 3+cs.length:=by omega
  have b6:q.length<l.length:=by omega
  have hb1:((j:Int)<((l.length - d:Nat):Int))=True:=eq_true (by omega)
  have hP:=QqQ (L:=L) (i:=q.length) (by omega) x cs
  have hsn:Qib (l.take (d+j+1))=Qib (l.take (d+j))++if (l.take (d+j)).getLast?=some x then [] else [x]:=by
   rw [QJ hx,Qk6]
  have hla:(l.take (d+j)).getLast?=some y:=by
   rw [List.getLast?_eq_getElem?,List.length_take,Nat.min_eq_left (by omega),List.getElem?_take,if_pos (by omega),hy]
  rw [hla,← hq] at hsn
  have hdn:L.drop (d+j)=l.drop (d+j):=by
   have:=congrArg (List.drop 1) hL2
   simpa only [List.drop_drop,show d+j - 1+1=d+j by omega] using this
  by_cases he:x=y
  ·have hE:(x.v==y.v&&(x.k==y.k&&x.n==y.n))=true:=by rw [Qnh]; exact decide_eq_true he
   refine QU [(0,.sl k w 0 3 l.length none),(3,.int .i64 q.length),(4,.sl k w (d * 3) 3 (l.length - d) none),(5,.int .i64 ((j:Nat):Int))] ⟨f0,f3,f4,f5,trivial⟩  12 ?_
   refine ym ?_
   iterate 8 (try (refine Qb 4 ?_; simp -implicitDefEqProofs (disch:=omega) only [go_sem,Qf,↓reduceIte,reduceCtorEq,rq,nT,QN,lA,false_implies,and_true,hget,a1,a2,b1,b2,b3,b4,hL,hDx,hDy,e4,hE,e2]))
   refine ⟨l.length - (d+(j+1)),_,_,by omega,Shift.refl _ _ _ _,j+1,L,q,?_,by omega,by omega,rfl,by omega,hL,hL1,?_,?_⟩
   ·rw [← Nat.add_assoc,hsn,if_pos (by rw [he]),List.append_nil]
   ·rw [show d+(j+1) - 1=d+j by omega]; exact hdn
   ·exact yw
  ·have hE:(x.v==y.v&&(x.k==y.k&&x.n==y.n))=false:=by rw [Qnh]; exact decide_eq_false he
   refine QU [(0,.sl k w 0 3 l.length none),(3,.int .i64 q.length),(4,.sl k w (d * 3) 3 (l.length - d) none),(5,.int .i64 ((j:Nat):Int))] ⟨f0,f3,f4,f5,trivial⟩  12 ?_
   refine ym ?_
   iterate 12 (try (refine Qb 4 ?_; simp -implicitDefEqProofs (disch:=omega) only [go_sem,Qf,↓reduceIte,reduceCtorEq,rA,rq,zA,nF,QN,lA,lC,lN,false_implies,true_and,and_true,hget,hset,a1,a2,b1,b2,b3,b4,b5,b6,hL,hDx,hDy,e4,hE,e2,e3,hP,aA,cA,nA]))
   refine ⟨l.length - (d+(j+1)),_,_,by omega,Shift.refl _ _ _ _,j+1,L.set q.length x,q++[x],?_,by omega,by omega,rfl,?_,?_,?_,?_,?_⟩
   ·rw [← Nat.add_assoc,hsn,if_neg (fun h=>he (by injection h with h; exact h.symm))]
   ·simp; omega
   ·simpa using hL
   ·rw [lA,List.length_singleton,QJ (x:=x) (by rw [List.getElem?_set_self (by omega)]),List.take_set_of_le (lR _),hL1]
   ·rw [show d+(j+1) - 1=d+j by omega,List.drop_set_of_lt (by omega)]; exact hdn
   ·simp -implicitDefEqProofs (disch:=omega) only [go_sem,↓reduceIte,reduceCtorEq,rq,zA,lA,lC,lN,and_true]
    try simp
 ·have hje:d+j=l.length:=by omega
  have hb1:((j:Int)<((l.length - d:Nat):Int))=False:=eq_false (by omega)
  refine QU [(0,.sl k w 0 3 l.length none),(3,.int .i64 q.length),(4,.sl k w (d * 3) 3 (l.length - d) none),(5,.int .i64 ((j:Nat):Int))] ⟨f0,f3,f4,f5,trivial⟩  12 ?_
  refine ym ?_
  rw [hje,List.take_length] at hq
  refine ⟨L,q,rfl,hq,by omega,hL,hL1,?_⟩
  repeat' (first | exact rfl | refine ⟨rfl,?_⟩)
theorem Qsm (hT:Qw P tab) {base k w t:Nat} {o:List (Option Ob)} {l:List Pr} {cs:List V} (hcs:Qc cs=true) (hk:base≤k) (ho:o[k]?=some (some (.arr w 64 (fl prC l++cs)))) (hl:l.length≤1000000) :
 C P G base Q9 [.sl k w 0 3 l.length none] ⟨t,o⟩ fun v σ=>v=.sl k w 0 3 (Qib l).length none∧∃ cells,Qc cells=true∧σ=⟨t,o.set k (some (.arr w 64 (fl prC (Qib l)++cells)))⟩:=by
 have hko:=(List.getElem?_eq_some_iff.1 ho).1
 have hos:o.set k (some (.arr w 64 (fl prC l++cs)))=o:=by
  obtain ⟨h1,h2⟩:=List.getElem?_eq_some_iff.1 ho
  rw [← h2,List.set_getElem_self]
 have hget:∀ X:Option Ob,(o.set k X)[k]?=some X:=fun X=>by simp [hko]
 have hset:∀ X Y:Option Ob,(o.set k X).set k Y=o.set k Y:=fun X Y=>by simp
 by_cases h2:l.length<2
 ·have h2':((l.length:Nat):Int)<2:=by omega
  have hc:Qib l=l:=by
   match l,h2 with
   | [],_=>rfl
   | [a],_=>rfl
   | a::b::l,h=>exact absurd h (by simp)
  refine Xk hT QG (by simp [Ql]) (Qu 30 ?_)
  simp -implicitDefEqProofs (disch:=omega) only [go_sem,↓reduceIte,reduceCtorEq,rq,decide_true,Ql,QzS,QzR,QzQ,QzP,QzO,QzN,QzM,QzL,Qpm,Qpl,QjS,QjR,QjQ,QsN,QsM,QsL,QsK,true_and,h2']
  rw [hc]
  exact ⟨rfl,cs,hcs,by rw [hos]⟩
 have h2':¬ ((l.length:Nat):Int)<2:=by omega
 refine Xk hT QG (by simp [Ql]) (Qu 30 ?_)
 simp -implicitDefEqProofs (disch:=omega) only [go_sem,↓reduceIte,reduceCtorEq,rq,decide_false,Ql,QzS,QzR,QzQ,QzP,QzO,QzN,QzM,QzL,Qpm,Qpl,QjS,QjR,QjQ,QsN,QsM,QsL,QsK,h2']
 refine Qfc (fun m fr σ=>∃ i,1≤i∧i≤l.length∧m=l.length - i∧Qib (l.take i)=l.take i∧Qx fr 0=.sl k w 0 3 l.length none∧Qx fr 3=.int .i64 ((i:Nat):Int)∧σ=⟨t,o⟩)
  (fun e fr σ=>(e=.ex 0∧Qib l=l∧Qx fr 0=.sl k w 0 3 l.length none∧σ=⟨t,o⟩)∨(e=.ret∧∃ cells,Qc cells=true∧Qx fr 2=.sl k w 0 3 (Qib l).length none∧σ=⟨t,o.set k (some (.arr w 64 (fl prC (Qib l)++cells)))⟩))
  (m0:=l.length - 1) ⟨1,by omega,by omega,rfl,?_,?_⟩ (fun m fr σ hJ=>?_) (fun e fr σ hE=>?_)
 ·match l,h2 with
  | [],h=>simp at h
  | a::l,_=>rfl
 ·simp -implicitDefEqProofs (disch:=omega) only [go_sem,↓reduceIte,reduceCtorEq,rq,true_and,and_true]
  simp
 ·obtain ⟨i,hi1,hi,rfl,hok,f0,f3,rfl⟩:=hJ
  rcases Nat.lt_or_ge i l.length with hlt | hge
  ·obtain ⟨x,hx⟩:∃ x,l[i]?=some x:=⟨_,List.getElem?_eq_getElem hlt⟩
   obtain ⟨y,hy⟩:∃ y,l[i - 1]?=some y:=⟨_,List.getElem?_eq_getElem (by omega)⟩
   have hDx:=QaC hx cs
   have hDy:=QaC hy cs
   have e2:=QcJ hlt (by omega)
   have e4:=wpred (i:=i) (by omega) (by omega)
   have b1:i - 1<l.length:=by omega
   have b3:i * 3+3≤l.length * 3+cs.length:=by omega
   have b4:(i - 1) * 3+3≤l.length * 3+cs.length:=by omega
   have hb1:((i:Int)<((l.length:Nat):Int))=True:=eq_true (by omega)
   have hsn:Qib (l.take (i+1))=Qib (l.take i)++if (l.take i).getLast?=some x then [] else [x]:=by rw [QJ hx,Qk6]
   have hla:(l.take i).getLast?=some y:=by
    rw [List.getLast?_eq_getElem?,List.length_take,Nat.min_eq_left (by omega),List.getElem?_take,if_pos (by omega),hy]
   rw [hla,hok] at hsn
   by_cases he:x=y
   ·have hE:(x.v==y.v&&(x.k==y.k&&x.n==y.n))=true:=by rw [Qnh]; exact decide_eq_true he
    refine QU [(0,.sl k w 0 3 l.length none),(3,.int .i64 ((i:Nat):Int))] ⟨f0,f3,trivial⟩  12 ?_
    simp -implicitDefEqProofs (disch:=omega) only [go_sem,↓reduceIte,reduceCtorEq,rq,decide_true,hb1]
    iterate 8 (try (refine Qb 4 ?_; simp -implicitDefEqProofs (disch:=omega) only [go_sem,Qf,↓reduceIte,reduceCtorEq,rq,zA,QN,lA,false_implies,and_true,ho,b1,b3,b4,hDx,hDy,e4,hE,hlt]))
    refine Qfc (cpJ l k w i t o cs) (cpE l k w t o cs) (m0:=l.length - (i+1)) ⟨1,l,l.take i,?_,by omega,by omega,rfl,?_,rfl,?_,rfl,?_⟩ (fun m fr σ hJ=>Qwy hk hko hl hJ) (fun e fr σ hE=>?_)
    ·rw [hsn,if_pos (by rw [he]),List.append_nil]
    ·simp; omega
    ·rw [List.length_take,Nat.min_eq_left (by omega)]
    ·simp -implicitDefEqProofs (disch:=omega) only [go_sem,↓reduceIte,reduceCtorEq,rq,true_and,and_true,hos,List.length_take,Nat.min_eq_left (Nat.le_of_lt hlt)]
     try simp
    ·obtain ⟨L,q,rfl,hq,hql,hL,hL1,f0,f3,rfl⟩:=hE
     have htk:(fl prC L++cs).take (q.length * 3)=fl prC q:=by rw [Qnf prC 3 Qki L q.length cs (by omega),hL1]
     have hqm:q.length * 3+(l.length - q.length) * 3≤l.length * 3+cs.length:=by omega
     refine QbX [(0,.sl k w 0 3 l.length none),(3,.int .i64 q.length)] ⟨f0,f3,trivial⟩ 5 ?_
     simp -implicitDefEqProofs (disch:=omega) only [go_sem,Qf,↓reduceIte,reduceCtorEq,rq,zA,true_and]
     refine Qb 12 ?_
     refine ya ?_
     simp only [evW]
     simp -implicitDefEqProofs (disch:=omega) only [go_sem,Qf,↓reduceIte,reduceCtorEq,rq,aZ,Nat.zero_mul,QN,lA,true_and,and_true,hL,hget,hset,hqm,htk]
     refine Qb 4 ?_
     refine yf ?_
     refine ⟨_,?_,by rw [Nat.sub_zero,← hq],by rw [← hq,aA]⟩
     rw [Qis,Bool.and_eq_true]
     exact ⟨Qt9 _,QpL _ (by rw [Qis,Z4 prC Qn1,hcs]; rfl)⟩
   ·have hE:(x.v==y.v&&(x.k==y.k&&x.n==y.n))=false:=by rw [Qnh]; exact decide_eq_false he
    refine QU [(0,.sl k w 0 3 l.length none),(3,.int .i64 ((i:Nat):Int))] ⟨f0,f3,trivial⟩  12 ?_
    simp -implicitDefEqProofs (disch:=omega) only [go_sem,↓reduceIte,reduceCtorEq,rq,decide_true,hb1]
    iterate 8 (try (refine Qb 4 ?_; simp -implicitDefEqProofs (disch:=omega) only [go_sem,Qf,↓reduceIte,reduceCtorEq,rq,zA,QN,lA,false_implies,and_true,ho,b1,b3,b4,hDx,hDy,e4,hE,hlt,e2]))
    refine ⟨l.length - (i+1),_,_,by omega,Shift.refl _ _ _ _,i+1,by omega,by omega,rfl,?_,?_⟩
    ·rw [hsn,if_neg (fun h=>he (by injection h with h; exact h.symm)),QJ hx]
    ·exact yw
  ·have hie:i=l.length:=by omega
   have hb1:((i:Int)<((l.length:Nat):Int))=False:=eq_false (by omega)
   refine QU [(0,.sl k w 0 3 l.length none),(3,.int .i64 ((i:Nat):Int))] ⟨f0,f3,trivial⟩  12 ?_
   simp -implicitDefEqProofs (disch:=omega) only [go_sem,↓reduceIte,reduceCtorEq,rq,decide_false,true_and,and_true,hb1]
   rw [hie,List.take_length] at hok
   exact hok
 ·rcases hE with ⟨rfl,hc,f0,rfl⟩ | ⟨rfl,cells,hcn,f2,rfl⟩
  ·refine QbX [(0,.sl k w 0 3 l.length none)] ⟨f0,trivial⟩ 12 ?_
   refine yf ?_
   rw [hc]
   first | exact ⟨rfl,cs,hcs,by rw [hos]⟩ | exact ⟨cs,hcs,by rw [hos]⟩
  ·refine Qb 12 ?_
   simp -implicitDefEqProofs (disch:=omega) only [go_sem,true_and,f2]
   first | exact ⟨rfl,cells,hcn,rfl⟩ | exact ⟨cells,hcn,rfl⟩
end Go.Proofs.YtfgccihafnjalaaGreatDoor
namespace Go.Am
open Go
variable {α:Type} [DecidableEq α]
def km (key:α→V) (f:α→V) (S:List α):List (V × V):=S.map fun a=>(key a,f a)
def QDs (f:α→V) (a:α) (v:V):α→V:=fun b=>if b=a then v else f b
def Qul (S:List α) (a:α):List α:=if a∈S then S else S++[a]
omit [DecidableEq α] in
theorem km_length (key:α→V) (f:α→V) (S:List α):(km key f S).length=S.length:=by simp [km]
theorem Qud {ks:List Kd} {key:α→V} (hk:∀ a b,QeL ks (key a) (key b)=decide (a=b)) (f:α→V) (a:α):∀ S:List α,Qlu ks (key a) (km key f S)=if a∈S then some (f a) else none
 | []=>rfl
 | b::S=>by
   have ih:=Qud hk f a S
   unfold Qlu km at ih ⊢
   simp only [List.map_cons,List.find?_cons,hk]
   by_cases h:a=b
   ·subst h; simp
   ·simp only [h,decide_false]
    rw [ih]
    simp [h]
theorem Quc {ks:List Kd} {key:α→V} (hk:∀ a b,QeL ks (key a) (key b)=decide (a=b)) (f:α→V) (a:α) (v:V):∀ S:List α,S.Nodup→Qm5 ks (key a) v (km key f S)=km key (QDs f a v) (Qul S a)
 | [],_=>by simp [Qm5,km,QDs,Qul]
 | b::S,hn=>by
   have ih:=Quc hk f a v S (List.nodup_cons.1 hn).2
   have hb:=(List.nodup_cons.1 hn).1
   simp only [km,List.map_cons,Qm5,hk]
   by_cases h:a=b
   ·subst h
    simp only [decide_true,if_true,Qul,List.mem_cons,true_or,if_true,List.map_cons,QDs]
    congr 1
    refine List.map_congr_left fun c hc=>?_
    have:c≠a:=fun e=>hb (e▸hc)
    simp [this]
   ·have h':b≠a:=fun e=>h e.symm
    simp only [h,decide_false,Bool.false_eq_true,if_false]
    unfold km at ih
    rw [ih]
    unfold Qul
    by_cases hm:a∈S
    ·simp [hm,QDs,h']
    ·simp [hm,h,QDs,h']
theorem Qr2 {S:List α} {a:α} (h:S.Nodup):(Qul S a).Nodup:=by
 unfold Qul
 split
 ·exact h
 ·rename_i hm
  rw [List.nodup_append]
  exact ⟨h,by simp,fun x hx y hy=>by simp at hy; subst hy; exact fun e=>hm (e▸hx)⟩
theorem Qwb {S:List α} {a x:α}:x∈Qul S a↔x∈S∨x=a:=by
 unfold Qul
 split
 ·rename_i hm
  exact ⟨.inl,fun h=>h.elim id fun e=>e▸hm⟩
 ·simp
end Go.Am
namespace Go.Proofs.YtfgccihafnjalaaGreatDoor
open Go Go.Am Go.Re
set_option maxRecDepth 100000
variable {P:Program} {G:Nat→Option V}
def Qly (l:List Pr):List Pr:=l.mergeSort fun x y=>!decide (lt y x)
theorem Qka (l:List Pr):(Qly l).length=l.length:=(List.mergeSort_perm l _).length_eq
theorem Qsh (l:List Pr):Qib (Qly l)=srt l:=QtR l
def Qhr (P:Program) (G:Nat→Option V):Prop:=∀ {base k v t:Nat} {o:List (Option Ob)} {l:List Pr} {n:Nat},n=l.length→base≤k→o[k]?=some (some (.arr v 64 (fl prC l)))→l.length≤1000000 →
 C P G base Q6 [.sl k v 0 3 n none,.fn (.func 31) [] []] ⟨t,o⟩ fun r σ'=>r=.tup []∧σ'=⟨t,o.set k (some (.arr v 64 (fl prC (Qly l))))⟩
theorem Qla (hT:Qw P tab) (hS:Qhr P G) (l:List Pr) (tg:Bool) (hl:l.length≤1000000) {base t:Nat} {o:List (Option Ob)} (hb:base≤o.length) :
 C P G base Qbj [.lst 3 (prs l) tg] ⟨t, o⟩ fun u σ => ∃ t' w cells, t ≤ t' ∧ Qc cells = true ∧ u = .sl o.length w 0 3 (srt l).length none ∧ σ = ⟨t', o ++ [some (.arr w 64 (fl prC (srt l) ++ cells))]⟩ := by
 refine Xk hT Xc (by simp [Zw]) (Qu 1000 ?_)
 simp -implicitDefEqProofs (disch:=omega) only [go_sem,↓reduceIte,reduceCtorEq,rq,Zw,zq9_0,zq9_1,zq9_2,zq9_3]
 refine call hT Xe (QwK hT l tg hl) 12 fun u σ hu=>?_
 obtain ⟨t1,w,ht1,rfl,rfl⟩:=hu
 refine ya ?_
 refine call hT X3 (hS (o:=o++[some (.arr w 64 (fl prC l))]) (l:=l) rfl hb (by simp) hl) 12 fun u σ hu=>?_
 obtain ⟨rfl,rfl⟩:=hu
 simp -implicitDefEqProofs (disch:=omega) only [go_sem,↓reduceIte,reduceCtorEq,rq,QgO]
 rw [← Qka l]
 refine call hT QG (Qsm hT (o:=o++[some (.arr w 64 (fl prC (Qly l)))]) (w:=w) (l:=Qly l) (cs:=[]) rfl hb (by simp) (by rw [Qka]; exact hl)) 12 fun u σ hu=>?_
 obtain ⟨rfl,cells,hcn,rfl⟩:=hu
 simp -implicitDefEqProofs (disch:=omega) only [go_sem,↓reduceIte,reduceCtorEq,rq,QgO]
 rw [Qsh]
 exact ⟨t1,w,cells,ht1,hcn,rfl,rfl,rfl⟩
theorem QnZ:∀ (l:List Pr) (cs:List V),Zl 3 l.length (fl prC l++cs)=prs l
 | [],cs=>rfl
 | p::l,cs=>by
   have ih:=QnZ l cs
   rw [lC,QeP]
   simp only [Zl,prC,cA,nA,tS,tZ,List.drop_succ_cons,List.drop_zero]
   rw [ih]; rfl
theorem QkF {k w:Nat} (l:List Pr) (cs:List V):Qan k w (fl prC l++cs) (.sl k w 0 3 l.length none)=.lst 3 (prs l) false:=by
 simp [Qan,QiJ,QnZ]
 rw [QN]; omega
theorem Qhm (hT:Qw P tab) (hS:Qhr P G) (l:List Pr) (tg:Bool) (hl:l.length≤1000000):Am.Pure P G Qbj [.lst 3 (prs l) tg] fun u=>u=.lst 3 (prs (srt l)) false:=by
 refine QnB (fun t=>(Qla hT hS l tg hl (zL _)).conseq fun u σ hu=>?_) (by simp [Qe])
 obtain ⟨t1,w,cells,ht1,hcn,rfl,rfl⟩:=hu
 refine .inr ⟨0,w,64,_,rfl,by rw [Qis,Z4 prC Qn1,hcn]; rfl,?_,?_⟩
 ·rw [show ([]:List (Option Ob)).length=0 from rfl,QkF]; simp [Qe]
 ·rw [show ([]:List (Option Ob)).length=0 from rfl,QkF]; exact .refl _
theorem Qmm (a b:Pr):QeL [.i,.i,.i] (prV a) (prV b)=decide (a=b):=by
 have:=Qnh a b
 simp only [QeL,prV,prC,V.cells,Qcw,QwQ]
 rw [← this]
 rw [Bool.eq_iff_iff]; simp
theorem Qwh (a:Pr) (f:Pr→V) (S:List Pr):Qb7 true [.i,.i,.i] (prV a) (km prV f S):=by
 refine ⟨⟨rfl,rfl⟩,fun p hp=>?_⟩
 simp only [km,List.mem_map] at hp
 obtain ⟨b,_,rfl⟩:=hp
 exact ⟨rfl,rfl⟩
def QqM (S:List Pr):List (V × V):=km prV (fun _=>.int .i64 1) S
theorem Qv0 {S:List Pr} (p:Pr) (hn:S.Nodup):Qm5 [Kd.i,Kd.i,Kd.i] (V.agg [.int .i64 p.v,.int .u8 p.k,.int .i64 p.n]) (.int .i64 1) (QqM S)=QqM (Qul S p):=by
 have:=Quc (ks:=[Kd.i,Kd.i,Kd.i]) (key:=prV) Qmm (fun _=>.int .i64 1) p (.int .i64 1) S hn
 unfold QqM
 rw [show V.agg [.int .i64 p.v,.int .u8 p.k,.int .i64 p.n]=prV p from rfl,this]
 congr 1
 funext b
 unfold QDs; split <;> rfl
theorem QqL (S:List Pr) (p:Pr):(Qlu [Kd.i,Kd.i,Kd.i] (V.agg [.int .i64 p.v,.int .u8 p.k,.int .i64 p.n]) (QqM S)).getD (.int .i64 0)=.int .i64 (if p∈S then 1 else 0):=by
 have:=Qud (ks:=[Kd.i,Kd.i,Kd.i]) (key:=prV) Qmm (fun _=>.int .i64 1) p S
 unfold QqM
 rw [show V.agg [.int .i64 p.v,.int .u8 p.k,.int .i64 p.n]=prV p from rfl,this]
 split <;> rfl
theorem QpC (S:List Pr) (p:Pr):Qb7 true [Kd.i,Kd.i,Kd.i] (V.agg [.int .i64 p.v,.int .u8 p.k,.int .i64 p.n]) (QqM S)=True:=eq_true (Qwh p _ S)
theorem k_set (hT:Qw P tab) (l:List Pr) (tg:Bool) (hl:l.length≤1000000) {base t:Nat} {o:List (Option Ob)} (hb:base≤o.length) :
 C P G base Qix [.lst 3 (prs l) tg] ⟨t, o⟩ fun u σ => ∃ t' w S, t ≤ t' ∧ S.Nodup ∧ (∀ p, p ∈ S ↔ p ∈ l) ∧ u = .mp o.length w ∧ σ = ⟨t', o ++ [some (.map w (QqM S))]⟩ := by
 refine Xk hT Qer (by simp [QcR]) (Qu 1000 ?_)
 simp -implicitDefEqProofs (disch:=omega) only [go_sem,↓reduceIte,reduceCtorEq,rq,QcR,zqv_0,zqv_1,zqv_2,zqv_3,zqv_4,zqv_5,zqv_6,zqv_7,Qk]
 generalize hw:t=w
 have htw:t≤w+1:=by omega
 refine Qcd l (fun i fr σ => ∃ t' S, w + 1 ≤ t' ∧ S.Nodup ∧ (∀ p, p ∈ S ↔ p ∈ l.take i) ∧ Qx fr 3 = .mp o.length w ∧ Qx fr 7 = .lst 3 (prs l) tg ∧ Qx fr 8 = .int .i64 l.length ∧ Qx fr 9 = .int .i64 ((i : Nat) : Int) ∧ σ = ⟨t', o ++ [some (.map w (QqM S))]⟩)
  (fun e fr σ => ∃ t' S, e = .ex 0 ∧ w + 1 ≤ t' ∧ S.Nodup ∧ (∀ p, p ∈ S ↔ p ∈ l) ∧ Qx fr 3 = .mp o.length w ∧ σ = ⟨t', o ++ [some (.map w (QqM S))]⟩) ⟨w + 1, [], by omega, by simp, by simp, ?_⟩ (fun i p hp fr σ hJ => ?_) (fun i hi fr σ hJ => ?_) (fun e fr σ hE => ?_)
 ·refine ya ?_
  try simp [QqM,km]
 ·obtain ⟨t', S, ht, hn, hS, f3, f7, f8, f9, rfl⟩ := hJ
  have hlt:=(List.getElem?_eq_some_iff.1 hp).1
  have hD:=Qkh hp
  have e2:=QcJ hlt (by omega)
  have hnl:Qe (V.agg [.int .i64 p.v,.int .u8 p.k,.int .i64 p.n])=true:=rfl
  simp only [prV,prC] at hD
  refine QU [(3,.mp o.length w),(7,.lst 3 (prs l) tg),(8,.int .i64 l.length),(9,.int .i64 ((i:Nat):Int))] ⟨f3,f7,f8,f9,trivial⟩  12 ?_
  simp -implicitDefEqProofs (disch:=omega) only [go_sem,Qf,↓reduceIte,rq,decide_true,Qk,hlt,hD]
  iterate 8 (try (refine Qb 4 ?_; simp -implicitDefEqProofs (disch:=omega) only [go_sem,Qf,↓reduceIte,reduceCtorEq,rA,rq,zA,nF,lR,QgN,Qhb,QeO,QgM,aA,cA,nA,lA,lC,lN,Qv0 p hn,QpC,hnl,e2]))
  refine ⟨_,_,Shift.drop (o':=o++[some (.map w (QqM (Qul S p)))]) (t':=t'+1) (Qf1 _ _ _) (lR _) (by simp; omega),t'+1,Qul S p,by omega,Qr2 hn,fun q=>?_,?_⟩
  ·rw [Qwb,QJ hp,List.mem_append,hS]; simp
  ·exact yl
 ·obtain ⟨t', S, ht, hn, hS, f3, f7, f8, f9, rfl⟩ := hJ
  refine QU [(3,.mp o.length w),(7,.lst 3 (prs l) tg),(8,.int .i64 l.length),(9,.int .i64 ((i:Nat):Int))] ⟨f3,f7,f8,f9,trivial⟩  12 ?_
  refine yj ?_
  rw [hi,List.take_length] at hS
  refine ⟨t', S, ht, hn, hS, ?_⟩
  repeat' (first | exact rfl | refine ⟨rfl,?_⟩)
 ·obtain ⟨t', S, rfl, ht, hn, hS, f3, rfl⟩ := hE
  refine QbX [(3,.mp o.length w)] ⟨f3,trivial⟩ 12 ?_
  refine ya ?_
  exact ⟨t', w, S, by omega, hn, hS, rfl, rfl, rfl⟩
theorem X9:(Value.map none).oneCell'=true:=rfl
theorem QnQ (hT:Qw P tab) {S l:List Pr} {base w1 w2:Nat} {ex:List (Option Ob)} (hb:base≤2+ex.length) (f:Nat) (hf:f=QdP∨f=Qb0) :
 QmB P G base (.fn (.func f) [] [.ptr 1 w2 0]) ([some (.map w1 (QqM S)),some (.arr w2 71 [.mp 0 w1])]++ex) (fun p=>!decide (p∈S)) l:=fun t p hp=>by
 have hbb:((if p∈S then (1:Int) else 0)==0) = !decide (p∈S):=by split <;> simp [*]
 have htk:∀ x y z:Option Ob,List.take (2+ex.length) (x::y::(ex++[z]))=x::y::ex:=fun x y z=>by
  rw [Nat.add_comm,tS,tS,List.take_append,List.take_of_length_le (lR _),Nat.sub_self,tZ,List.append_nil]
 rcases hf with rfl | rfl
 ·refine CV.of hT QdJ (Ym (2+ex.length) hb (Xk hT QdJ (by simp [YY]) (Qu 1000 ?_)))
  simp only [prV,prC]
  simp -implicitDefEqProofs (disch:=omega) only [go_sem,↓reduceIte,reduceCtorEq,rA,rq,zA,lR,YY,zqx_0,zqx_1,List.getElem?_concat_length,cA,nA,lA,lC,lN,List.getElem?_cons_zero,List.getElem?_cons_succ,Nat.add_assoc,QpC,QqL,hbb,htk]
  try simp
  try omega
 ·refine CV.of hT QbU (Ym (2+ex.length) hb (Xk hT QbU (by simp [XV]) (Qu 1000 ?_)))
  simp only [prV,prC]
  simp -implicitDefEqProofs (disch:=omega) only [go_sem,↓reduceIte,reduceCtorEq,rA,rq,zA,lR,XV,zqz_0,zqz_1,List.getElem?_concat_length,cA,nA,lA,lC,lN,List.getElem?_cons_zero,List.getElem?_cons_succ,Nat.add_assoc,QpC,QqL,hbb,htk]
  try simp
  try omega
theorem Qlb (hT:Qw P tab) (hS:Qhr P G) (a b:List Pr) (ta tb:Bool) (ha:a.length≤1000000) (hb:b.length≤1000000):Am.Pure P G Qg0 [.lst 3 (prs a) ta,.lst 3 (prs b) tb] fun u=>u=.lst 3 (prs (meet a b)) false:=by
 refine QnB (fun t=>?_) (by simp [Qe])
 refine Xk hT Xq (by simp [Qbe]) (Qu 1000 ?_)
 simp -implicitDefEqProofs (disch:=omega) only [go_sem,↓reduceIte,reduceCtorEq,rq,zA,Qbe,zqb_0,zqb_1,zqb_2]
 refine call hT Qer (k_set hT b tb hb (o:=[]) (zL _)) 12 fun u σ hu=>?_
 obtain ⟨t1,w,S,ht1,hn,hSm,rfl,rfl⟩:=hu
 refine yk ?_
 refine call hT Xc (Qla hT hS a ta ha (zL _)) 12 fun u σ hu=>?_
 obtain ⟨t2,w2,cells,ht2,hcn,rfl,rfl⟩:=hu
 simp -implicitDefEqProofs (disch:=omega) only [go_sem,↓reduceIte,reduceCtorEq,rA,rq,zA,cA,nA,lC,lN]
 have hsl:=Qj9 a
 refine call hT Qz (QoY hT (o:=[some (.map w (QqM S)),some (.arr t1 71 [.mp 0 w])]) hcn (zL _) (fun ex=>QnQ hT (zL _) _ (.inl rfl)) (by omega)) 12 fun u σ hu=>?_
 obtain ⟨t3,cells3,ht3,hcn3,rfl,rfl⟩:=hu
 have hm:(srt a).filter (fun p=>!(!decide (p∈S)))=meet a b:=by
  unfold meet
  refine List.filter_congr fun p _=>?_
  rw [Bool.not_not]; exact decide_eq_decide.2 (hSm p)
 rw [hm]
 simp -implicitDefEqProofs (disch:=omega) only [go_sem,↓reduceIte,reduceCtorEq,rA,rq,zA,cA,nA,lC,lN]
 refine ⟨2,w2,64,_,rfl,by rw [Qis,Z4 prC Qn1,hcn3]; rfl,?_,?_⟩
 ·rw [QkF]; simp [Qe]
 ·rw [QkF]; exact .refl _
theorem Qfn (hT:Qw P tab) (a b:List Pr) (ta tb:Bool) (ha:a.length≤1000000) (hb:b.length≤1000000):Am.Pure P G QeF [.lst 3 (prs a) ta,.lst 3 (prs b) tb] fun u=>u=.bool (within a b):=by
 refine fun t=>Ym 0 (zL _) (Xk hT QY (by simp [Zv]) (Qu 1000 ?_))
 simp -implicitDefEqProofs (disch:=omega) only [go_sem,↓reduceIte,reduceCtorEq,rq,zA,Zv,zqd_0,zqd_1,zqd_2]
 refine call hT Qer (k_set hT b tb hb (o:=[]) (zL _)) 12 fun u σ hu=>?_
 obtain ⟨t1,w,S,ht1,hn,hSm,rfl,rfl⟩:=hu
 refine yk ?_
 refine call hT QV (Qqi hT (o:=[some (.map w (QqM S)),some (.arr t1 71 [.mp 0 w])]) (QnQ hT (ex:=[]) (zL _) _ (.inr rfl)) ha ta) 12 fun u σ hu=>?_
 obtain ⟨rfl,t2,ht2,rfl⟩:=hu
 have hm:(!a.any fun p=>!decide (p∈S))=within a b:=by
  unfold within
  rw [List.not_any_eq_all_not]
  congr 1
  funext p
  rw [Bool.not_not]; exact decide_eq_decide.2 (hSm p)
 simp -implicitDefEqProofs (disch:=omega) only [go_sem,↓reduceIte,reduceCtorEq,rA,rq,zA,zL,lC,lN,hm]
 try simp
end Go.Proofs.YtfgccihafnjalaaGreatDoor
