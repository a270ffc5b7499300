/- Contracts: a formula's clauses are put there. -/
import Derived.Test.YtingdebioipemaaJ13
import Derived.Test.YtingdebioipemaaAmE
import Derived.Test.YtingdebioipemaaJ1
import Derived.Test.YtingdebioipemaaJ8
open Nat renaming reduceEqDiff → rq, reduceAdd → rA, reduceLeDiff → rL, reduceLT → rTq, zero_add → zA, le_refl → lR, zero_le → zL, add_zero → aZ
open List renaming length_cons → lC, length_nil → lN, take_succ_cons → tS, length_append → lA, nil_append → nA, cons_append → cA, append_assoc → aA, take_nil → tN, take_zero → tZ, length_map → lM
open Bool renaming not_false → nF, not_true → nT
namespace Go.Proofs.Ytingdebioipemaa
open Go Go.Am Go.Cl Go.Sat
set_option maxRecDepth 100000
variable {G:Nat→Option V}
section
attribute [local go_sem] nF nT aZ lR Nat.mul_one zA zL beq_self_eq_true decide_false decide_true gt_iff_lt Qt X8 Quk Quj Qk0 QkZ QkY QkX QkW QoO QoN QoM QoL QoK QoJ QoI QoH QoG
variable {t N fu:Nat}
theorem Qsy (hT:Qj Try.prog tab) (c:List Int) (hb:∀ n∈c,-9223372036854775808≤n∧n≤9223372036854775807) (hl:c.length≤1000000) {base:Nat} {o:List (Option Ob)} (hbase:base≤o.length) :
 C Try.prog G base YM [row c] ⟨t,o⟩ fun u σ=>∃ t' w x,t≤t'∧σ=⟨t',o++[some (.arr w 3 x)]⟩∧((u=.tup [.lst 0 [] true,.bool false]∧Qs c=([],false))∨∃ q,Qs c=(q,true)∧x=ints q∧u=.tup [.sl o.length w 0 1 q.length none,.bool true]):=by
 refine Qm3 (Qjl hT c hb hl hbase fun b=>QfQ hT c hl) fun u σ ⟨t',w,x,ht,hσ,hn,hu⟩=>?_
 subst hσ
 rcases hu with hu | ⟨q,cells,hcl,rfl,rfl⟩
 ·exact ⟨_,HShift.refl _ _,t',w,x,ht,rfl,.inl hu⟩
 ·refine ⟨_,HShift.trim (k:=o.length) (v:=w) (T:=3) (cs:=ints q++cells) hbase (by simp) q.length,t',w,ints q,ht,?_,.inr ⟨q,hcl,rfl,rfl⟩⟩
  rw [Yp,List.take_append_of_le_length (by rw [Qb]; exact lR _),List.take_of_length_le (by rw [Qb]; exact lR _)]
variable {s:S} {F:List (List Int)} {c:List Int}
theorem Qky (h:(Qs c).2=false):S.begin (c::F) s=S.begin F s:=by
 rw [S.begin,if_pos h]
theorem Qkx (h:Qs c=([],true)):S.begin (c::F) s=some ({ s with pf:=s.pf++[[]] },some false):=by
 rw [S.begin,h]; rfl
theorem Qkw {l:Int} (h:Qs c=([l],true)):S.begin (c::F) s=if s.is l=-1 then some ({ s with pf:=s.pf++[[]] },some false) else
 if s.is l=0 then (match s.set l (-1) with | none=>none | some s=>S.begin F s) else S.begin F s:=by
 rw [S.begin,h]; rfl
theorem Qiu {q:List Int} (h:Qs c=(q,true)) (hq:1<q.length):S.begin (c::F) s=S.begin F (s.add q):=by
 rw [S.begin,h]
 match q,hq with
 | a::b::r,_=>rfl
def BegQ (K:Vs) (fu N t:Nat):Option (S × Option Bool)→V→H→Prop
 | none,v,σ=>v=.tup [.int .u8 0,.bool true]∧∃ s',Cap K fu t s' σ
 | some (s',none),v,σ=>v=.tup [.int .u8 0,.bool false]∧Cap K fu t s' σ∧Bd fu N s'
 | some (s',some _),v,σ=>v=.tup [.int .u8 2,.bool true]∧Cap K fu t s' σ
abbrev beJ (K:Vs) (N fu t:Nat) (F:List (List Int)) (R:Option (S × Option Bool)):Nat→Fr→H→Prop:=fun i fr σ =>
 ∃ s K' es cs ps rest ow t',t≤t'∧K'.s=K.s∧S.begin (F.drop i) s=R∧Inv N s∧s.ms=[]∧Bd fu N s∧s.cl.length+(F.length - i)+s.lf≤8388608∧PfOk ps s.pf∧s.pf.length+1+s.lf≤8388608∧RW s es cs rest ow ∧
   Qg fr 0=.ptr 0 K.s 0∧Qg fr 11=.lst 1 (F.map row) false∧Qg fr 12=.int .i64 (F.length:Int)∧Qg fr 13=.int .i64 (i:Int)∧σ=hp K' s fu t' es cs ps rest
abbrev beE (K:Vs) (N fu t:Nat) (R:Option (S × Option Bool)):AE→Fr→H→Prop:=fun e fr σ =>
 (e=.ret∧BegQ K fu N t R (.tup [Qg fr 4,Qg fr 5]) σ)∨(e=.ex 0∧∃ s,R=some (s,none)∧Cap K fu t s σ∧Bd fu N s)
variable {K:Vs}
theorem QsD (hT:Qj Try.prog tab) {R:Option (S × Option Bool)} (hN:N≤1000) (hF:∀ c∈F,∀ l∈c,l≠0∧l.natAbs<N) (hFl:F.length≤1000) (hFc:∀ c∈F,c.length≤1000) {i:Nat} (hc:F[i]?=some c) {fr:Fr} {σ:H} (hJ:beJ K N fu t F R i fr σ) :
 W Try.prog G 67 0 (zg QoN [] (.seq (zw 14 .skip (.exit 0)) (.seq (.block 1 (zg QoM [15,16] (zg QoL [18,19,17,20,21] (.block 2 (zg QoK [23,24] (zw 22 .skip (zg QoJ [26,27,28] (zw 25 (.reg QoI [29,30,31]) (zg QoH [33,34,35,36,37,38,39,40,41,42,43] (zw 32 (zg QoG [44,45,46,47,48,49,50,51,52] (zg Qk0 [] .ret)) (zg QkZ [54,55,56,57,58,59] (zw 53 (zg QkY [60,61,62,63,64] (zw 65 (zg QkX [] .ret) .skip)) .skip)))))))))))) (.reg QkW [66])))) fr σ (Y9 (fun fr σ=>∃ fr' σ',Shift G 67 0 fr σ fr' σ'∧beJ K N fu t F R (i+1) fr' σ') (beE K N fu t R)):=by
 obtain ⟨s,K',es,cs,ps,rest,ow,t',ht,hK,hR,hi,hms,hb,hclb,hpf,hpfb,hw,f0,f11,f12,f13,rfl⟩:=hJ
 have hil:=(List.getElem?_eq_some_iff.1 hc).1
 have hcm:=List.mem_of_getElem? hc
 have hcb:∀ n∈c,-9223372036854775808≤n∧n≤9223372036854775807:=fun n hn=>by have:=(hF c hcm n hn).2; omega
 have hcl:=hFc c hcm
 rw [← hK] at f0
 rw [show F.drop i=c::F.drop (i+1) by
  obtain ⟨h1,h2⟩:=List.getElem?_eq_some_iff.1 hc
  rw [List.drop_eq_getElem_cons h1,h2]] at hR
 have hlt:(i:Int)<(F.length:Int):=by omega
 have hD:=XD hc
 have e2:=XP hil (by omega)
 have hps:ps.length≤8388608:=by rw [hpf.1]; have:=hb.pf; omega
 refine Qf [(0,.ptr 0 K'.s 0),(11,.lst 1 (F.map row) false),(12,.int .i64 (F.length:Int)),(13,.int .i64 (i:Int))] ⟨f0,f11,f12,f13,trivial⟩  1000 ?_
 simp -implicitDefEqProofs (disch:=omega) only [go_sem,↓reduceIte,reduceCtorEq,rq,hp,sc,Int.toNat_natCast,hlt,hil,hD,lM]
 have hclean:=Qsy (G:=G) hT c hcb (by omega) (base:=0) (t:=t') (o:=(hp K' s fu t' es cs ps rest).o) (zL _)
 refine call hT YI hclean 1000 fun v σ hv=>?_
 obtain ⟨t1,w,x,ht1,rfl,hu⟩:=hv
 have hw1:=hw.newno (some (.arr w 3 x))
 have hol:(hp K' s fu t' es cs ps rest).o.length=rest.length+10:=by simp [hp]
 have hown:(fun i=>if i=rest.length then Own.no else ow i) rest.length=.no:=if_pos rfl
 have hheap:(⟨t1,(hp K' s fu t' es cs ps rest).o++[some (.arr w 3 x)]⟩:H)=hp K' s fu t1 es cs ps (rest++[some (.arr w 3 x)]):=by simp [hp]
 rcases hu with ⟨rfl,hcl0⟩ | ⟨q,hq,rfl,rfl⟩
 ·rw [Qky (by rw [hcl0])] at hR
  rw [hheap]
  simp -implicitDefEqProofs (disch:=omega) only [go_sem,↓reduceIte,reduceCtorEq,rA,rq,rTq]
  refine ⟨_,_,Shift.refl _ _ _ _,s,K',es,cs,ps,_,_,t1,by omega,hK,hR,hi,hms,hb,by omega,hpf,hpfb,hw1,?_⟩
  simp -implicitDefEqProofs (disch:=omega) only [go_sem,↓reduceIte,reduceCtorEq,rq,e2,hK]
 ·have hok:=(QmR (hF c hcm) hq).1
  have hql:=YT hok
  rw [hheap,hol]
  have hj:(rest++[some (Ob.arr w 3 (ints q))])[rest.length]?=some (some (.arr w 3 (ints q))):=List.getElem?_concat_length
  have hjl:=(List.getElem?_eq_some_iff.1 hj).1
  rcases Nat.lt_or_ge 1 q.length with g1 | g1
  ·rw [Qiu hq g1] at hR
   have g1':decide ((1:Int)<(q.length:Int))=true:=decide_eq_true (by omega)
   have g1p:((1:Int)<(q.length:Int))=True:=eq_true (by omega)
   simp -implicitDefEqProofs (disch:=omega) only [go_sem,↓reduceIte,reduceCtorEq,rA,rq,rTq,g1p]
   have hadd:=c_add (P:=Try.prog) (G:=G) (fu:=fu) (t:=t1) (K:=K') (ps:=ps) (es:=es) (cs:=cs) hT hi hb hw1 ⟨g1,hok⟩ hj hown
   refine call hT YQ hadd 1000 fun v σ hv=>?_
   obtain ⟨rfl,w3,es3,cs3,r3,ow3,t3,ht3,hw3,hr3,rfl⟩:=hv
   simp -implicitDefEqProofs (disch:=omega) only [go_sem,↓reduceIte,reduceCtorEq,rq]
   refine ⟨_,_,Shift.refl _ _ _ _,s.add q,{ K' with c:=w3 },es3,cs3,ps,r3,ow3,t3,by omega,hK,hR,QlY hi ⟨g1,hok⟩,hms,?_,?_,hpf,hpfb,hw3,?_⟩
   ·exact ⟨hb.bn,hb.bf,hb.lf,by show (s.cl++[q]).length+s.lf≤_; rw [lA,List.length_singleton]; omega,hb.pf,hb.he⟩
   ·show (s.cl++[q]).length+_+s.lf≤_
    rw [lA,List.length_singleton]; omega
   ·simp -implicitDefEqProofs (disch:=omega) only [go_sem,↓reduceIte,reduceCtorEq,rq,e2,hK]
  ·have g1':decide ((1:Int)<(q.length:Int))=false:=decide_eq_false (by omega)
   have g1p:((1:Int)<(q.length:Int))=False:=eq_false (by omega)
   have hcase:q=[]∨∃ l,q=[l]:=by
    match q,g1 with
    | [],_=>exact .inl rfl
    | [l],_=>exact .inr ⟨l,rfl⟩
   rcases hcase with hq0 | ⟨l,hq0⟩
   ·rw [Qkx (by rw [hq,hq0])] at hR
    subst hR
    have g0:((q.length:Int)==0)=true:=by rw [hq0]; rfl
    simp -implicitDefEqProofs (disch:=omega) only [go_sem,↓reduceIte,reduceCtorEq,rA,rq,rL,rTq,hp,sc,g1p,g0,true_implies,true_and,and_true]
    exact .inl ⟨rfl,rfl,ps++[.lst 0 [] true],hpf.snoc (p:=[]) (.inl rfl),{ K' with p:=t1 },es,cs,_,_,t1+1,by omega,hK,⟨hw1.len,hw1.cl,hw1.wt⟩,by simp [hp,sc]⟩
   ·rw [Qkw (by rw [hq,hq0])] at hR
    have hlN:=hok.1 l (by rw [hq0]; simp)
    have hD0:(ints q).getD 0 V.any=.int .i64 l:=by rw [hq0]; rfl
    have g0:((q.length:Int)==0)=false:=by rw [hq0]; rfl
    have g0p:0<q.length:=by rw [hq0]; simp
    have h3:=Tri.of hi l.natAbs
    have htl:=YT hi.tro
    have his:=c_is (P:=Try.prog) (G:=G) (base:=0) (fu:=fu) (t:=t1) (K:=K') (es:=es) (cs:=cs) (ps:=ps) (rest:=rest++[some (Ob.arr w 3 (ints q))]) (s:=s) (l:=l) hT (by rw [hi.nva]; exact hlN.2) (by rw [hi.nva]; omega) h3
    simp -implicitDefEqProofs (disch:=omega) only [go_sem,↓reduceIte,reduceCtorEq,rA,rq,rTq,Int.reduceToNat,Int.reduceLE,hp,sc,Qb,g1p,g0,g0p,hj,hD0,true_implies,true_and,and_true]
    refine call hT Xs his 1000 fun v σ hv=>?_
    obtain ⟨rfl,rfl⟩:=hv
    by_cases g2:s.is l=-1
    ·rw [if_pos g2] at hR
     subst hR
     simp -implicitDefEqProofs (disch:=omega) only [go_sem,↓reduceIte,reduceCtorEq,rA,rq,rL,hp,sc,g2,true_implies,true_and,and_true]
     exact .inl ⟨rfl,rfl,ps++[.lst 0 [] true],hpf.snoc (p:=[]) (.inl rfl),{ K' with p:=t1 },es,cs,_,_,t1+1,by omega,hK,⟨hw1.len,hw1.cl,hw1.wt⟩,by simp [hp,sc]⟩
    ·rw [if_neg g2] at hR
     have g2':(s.is l==-1)=false:=beq_eq_false_iff_ne.2 g2
     have g2p:(s.is l=-1)=False:=eq_false g2
     simp -implicitDefEqProofs (disch:=omega) only [go_sem,↓reduceIte,reduceCtorEq,rA,rq,Int.reduceToNat,Int.reduceLE,hp,sc,Qb,g0p,hj,hD0,g2',true_implies,true_and,and_true]
     refine call hT Xs his 1000 fun v σ hv=>?_
     obtain ⟨rfl,rfl⟩:=hv
     by_cases g3:s.is l=0
     ·rw [if_pos g3] at hR
      obtain ⟨z1,z2⟩:=hi.is_zero.1 g3
      simp -implicitDefEqProofs (disch:=omega) only [go_sem,↓reduceIte,reduceCtorEq,rq,Int.reduceToNat,Int.reduceLE,hp,sc,Qb,g0p,hj,hD0,g3,true_implies,true_and,and_true]
      cases hse:s.set l (-1) with
      | none =>
        rw [hse] at hR
        simp only at hR
        subst hR
        have h0:s.lf=0:=by
         unfold S.set at hse
         by_cases q:s.lf=0
         ·exact q
         ·rw [if_neg q] at hse; cases hse
        refine call hT Qp (Qkq (s:=s) (K:=K') (fu:=fu) (t:=t1) (es:=es) (cs:=cs) (ps:=ps) hT h0 _ _) 1000 fun v σ hv=>?_
        obtain ⟨rfl,rfl⟩:=hv
        simp -implicitDefEqProofs (disch:=omega) only [go_sem,↓reduceIte,reduceCtorEq,rq]
        exact .inl ⟨rfl,rfl,s,ps,hpf,K',es,cs,_,_,t1,by omega,hK,hw1,rfl⟩
      | some s1 =>
        rw [hse] at hR
        simp only at hR
        refine call hT Qp (QqI (N:=N) (s:=s) (s':=s1) (K:=K') (fu:=fu) (t:=t1) (es:=es) (cs:=cs) (ps:=ps) hT hb hse (by rw [hi.nva]; exact hlN.2) (by rw [hi.nlv]; exact hlN.2) (by rw [hi.nre]; exact hlN.2) (by rw [hi.nva]; omega) (by omega)) 1000 fun v σ hv=>?_
        obtain ⟨rfl,w2,t2,ht2,rfl⟩:=hv
        have hi2:=hi.set hse hlN.1 hlN.2 z1 z2 (.inl (by rw [hms]; rfl))
        obtain ⟨hl0,hs2⟩:=S.set_some hse
        have hb2:Bd fu N s1:=by
         rw [hs2]
         exact ⟨hb.bn,hb.bf,by show s.lf - 1≤fu; have:=hb.lf; omega,by show s.cl.length+(s.lf - 1)≤_; have:=hb.cl; omega,by show s.pf.length+(s.lf - 1)≤_; have:=hb.pf; omega,fun v=>by show s.he.getD v 0+(s.lf - 1)≤_; have:=hb.he v; omega⟩
        simp -implicitDefEqProofs (disch:=omega) only [go_sem,↓reduceIte,reduceCtorEq,rq]
        refine ⟨_,_,Shift.refl _ _ _ _,s1,{ K' with t:=w2 },es,cs,ps,_,_,t2,by omega,hK,hR,hi2,by rw [hs2]; exact hms,hb2,by rw [hs2]; show s.cl.length+_+(s.lf - 1)≤_; omega,by rw [hs2]; exact hpf,by rw [hs2]; show s.pf.length+1+(s.lf - 1)≤_; omega,by rw [hs2]; exact ⟨hw1.len,hw1.cl,hw1.wt⟩,?_⟩
        simp -implicitDefEqProofs (disch:=omega) only [go_sem,↓reduceIte,reduceCtorEq,rq,e2,hK]
     ·rw [if_neg g3] at hR
      have g3':(s.is l==0)=false:=beq_eq_false_iff_ne.2 g3
      have g3p:(s.is l=0)=False:=eq_false g3
      simp -implicitDefEqProofs (disch:=omega) only [go_sem,↓reduceIte,reduceCtorEq,rq,hp,sc,g3']
      refine ⟨_,_,Shift.refl _ _ _ _,s,K',es,cs,ps,_,_,t1,by omega,hK,hR,hi,hms,hb,by omega,hpf,hpfb,hw1,?_⟩
      simp -implicitDefEqProofs (disch:=omega) only [go_sem,↓reduceIte,reduceCtorEq,rq,hp,sc,e2,hK]
theorem Qxt (hT:Qj Try.prog tab) {es:List (Int × V)} {cs ps:List V} {rest:List (Option Ob)} {ow:Nat→Own} (v:Int) (hN:N≤1000) (hF:∀ c∈F,∀ l∈c,l≠0∧l.natAbs<N) (hFl:F.length≤1000) (hFc:∀ c∈F,c.length≤1000)
 (hi:Inv N s) (hms:s.ms=[]) (hb:Bd fu N s) (hcl:s.cl.length+F.length+s.lf≤8388608) (hpf:PfOk ps s.pf) (hpfb:s.pf.length+1+s.lf≤8388608) (hw:RW s es cs rest ow) :
 C Try.prog G 0 Yq [.ptr 0 K.s 0,fml v F] (hp K s fu t es cs ps rest) fun v σ=>BegQ K fu N t (S.begin F s) v σ:=by
 refine QF hT QaJ (by simp [X8]) (Qx 1000 ?_)
 simp only [fml,rows]
 simp -implicitDefEqProofs (disch:=omega) only [go_sem,↓reduceIte,reduceCtorEq,rA,rq,hp,sc,lM,List.getElem?_concat_length]
 have hw1:=hw.newno (some (.arr t 24 [.int .i64 v,.lst 1 (F.map row) false]))
 refine XZ F (beJ K N fu t F (S.begin F s)) (beE K N fu t (S.begin F s)) ?_ (fun i c hc fr σ hJ=>QsD hT hN hF hFl hFc hc hJ) (fun i hi2 fr σ hJ=>?_) (fun e fr σ hE=>?_)
 ·exact ⟨s,K,es,cs,ps,_,_,t+1,by omega,rfl,rfl,hi,hms,hb,by omega,hpf,hpfb,hw1,rfl,rfl,rfl,rfl,by simp [hp,sc]⟩
 ·obtain ⟨s',K',es',cs',ps',r',ow',t',ht,hK,hR,hi',hms',hb',hcl',hpf',hpfb',hw',f0,f11,f12,f13,rfl⟩:=hJ
  rw [hi2,List.drop_length] at hR
  refine Qf [(0,.ptr 0 K.s 0),(11,.lst 1 (F.map row) false),(12,.int .i64 (F.length:Int)),(13,.int .i64 (i:Int))] ⟨f0,f11,f12,f13,trivial⟩  1000 ?_
  simp -implicitDefEqProofs (disch:=omega) only [go_sem,↓reduceIte,reduceCtorEq,rq,hi2,Nat.lt_irrefl]
  exact .inr ⟨rfl,s',hR.symm,⟨ps',hpf',K',es',cs',r',ow',t',ht,hK,hw',rfl⟩,hb'⟩
 ·rcases hE with ⟨rfl,hq⟩ | ⟨rfl,s',hR,hc,hb'⟩
  ·refine Qc 1000 ?_
   simp -implicitDefEqProofs (disch:=omega) only [go_sem]
   exact hq
  ·refine Qc 1000 ?_
   simp -implicitDefEqProofs (disch:=omega) only [go_sem,↓reduceIte,rq]
   rw [hR]
   exact ⟨rfl,hc,hb'⟩
end
end Go.Proofs.Ytingdebioipemaa
namespace Go.Proofs.Ytingdebioipemaa
open Go Go.Am Go.Cl Go.Sat
set_option maxRecDepth 100000
variable {P:Program} {G:Nat→Option V}
section
attribute [local go_sem] lR zA Qt Qmn
variable {o:List (Option Ob)} {t vs vars fu vf va:Nat}
theorem own4 {T:Nat} {c1 c2 c3 c4 c5 c7 c10 c11:V} (hl:o.length=8) (o7:o[7]?=some (some (.arr vs T [.lst 0 [] true,c1,c2,c3,c4,c5,.lst 0 [] true,c7,.lst 0 [] true,.lst 0 [] true,c10,c11]))) :
 HShift G 0 ⟨t,o⟩ ⟨t+4,o.set 7 (some (.arr vs T [.sl 10 (t+2) 0 1 0 none,c1,c2,c3,c4,c5,.sl 8 t 0 1 0 none,c7,.sl 9 (t+1) 0 1 0 none,.sl 11 (t+3) 0 1 0 none,c10,c11]))++[some (.arr t 3 []),some (.arr (t+1) 3 []),some (.arr (t+2) 25 []),some (.arr (t+3) 25 [])]⟩:=by
 have h1:=HShift.ownAt (G:=G) (base:=0) (t:=t) 1 3 (p:=6) (zL 7) o7 rfl
 simp only [List.set_cons_succ,List.set_cons_zero,hl] at h1
 have h2:=HShift.ownAt (G:=G) (base:=0) (t:=t+1) (k:=7) (o:=o.set 7 (some (.arr vs T [.lst 0 [] true,c1,c2,c3,c4,c5,.sl 8 t 0 1 0 none,c7,.lst 0 [] true,.lst 0 [] true,c10,c11]))++[some (.arr t 3 [])]) 1 3 (p:=8) (zL 7) (by rw [List.getElem?_append_left (by simp [hl])]; exact List.getElem?_set_self (by omega)) rfl
 simp only [List.set_cons_succ,List.set_cons_zero,hl,lA,List.length_set,List.set_append,List.set_set,List.length_singleton,if_pos (show 7<8 by decide)] at h2
 have h3:=HShift.ownAt (G:=G) (base:=0) (t:=t+2) (k:=7) (o:=o.set 7 (some (.arr vs T [.lst 0 [] true,c1,c2,c3,c4,c5,.sl 8 t 0 1 0 none,c7,.sl 9 (t+1) 0 1 0 none,.lst 0 [] true,c10,c11]))++[some (.arr t 3 [])]++[some (.arr (t+1) 3 [])]) 1 25 (p:=0) (zL 7) (by rw [aA,List.getElem?_append_left (by simp [hl])]; exact List.getElem?_set_self (by omega)) rfl
 simp only [List.set_cons_zero,hl,lA,List.length_set,List.set_append,List.set_set,List.length_singleton,if_pos (show 7<8 by decide),if_pos (show 7<8+1 by decide)] at h3
 have h4:=HShift.ownAt (G:=G) (base:=0) (t:=t+3) (k:=7) (o:=o.set 7 (some (.arr vs T [.sl 10 (t+2) 0 1 0 none,c1,c2,c3,c4,c5,.sl 8 t 0 1 0 none,c7,.sl 9 (t+1) 0 1 0 none,.lst 0 [] true,c10,c11]))++[some (.arr t 3 [])]++[some (.arr (t+1) 3 [])]++[some (.arr (t+2) 25 [])]) 1 25 (p:=9) (zL 7) (by rw [aA,aA,List.getElem?_append_left (by simp [hl])]; exact List.getElem?_set_self (by omega)) rfl
 simp only [List.set_cons_succ,List.set_cons_zero,hl,lA,List.length_set,List.set_append,List.set_set,List.length_singleton,if_pos (show 7<8 by decide),if_pos (show 7<8+1 by decide),if_pos (show 7<8+1+1 by decide)] at h4
 have:=h1.trans (h2.trans (h3.trans h4))
 simpa only [aA,List.singleton_append,cA,nA] using this
def qT (im iv il ir ih n:Nat):Nat:=if n=7 then 2 else if n=im then 3 else if n=iv then 4 else if n=il then 5 else if n=ir then 6 else if n=ih then 7 else n
def rT (im iv il ir ih m:Nat):Nat:=[0,1,7,im,iv,il,ir,ih].getD m m
def Qq3 (vars fu t0:Nat) (F:List (List Int)) (fr:Fr) (σ:H):Prop:=∃ K wf wa t',t0≤t'∧Qg fr 1=.int .i64 (fu:Int)∧Qg fr 2=.ptr 0 wf 0∧Qg fr 4=.ptr 1 wa 0∧Qg fr 7=.ptr 2 K.s 0 ∧
 σ=⟨t',behind [some (.arr wf 24 [.int .i64 (vars:Int),.lst 1 (F.map row) false]),some (.arr wa 67 [.int .u8 0,.lst 0 [] true,.lst 0 [] true,.int .i64 0])] (hp K (S.new vars fu) fu t' [] [] [] []).o⟩
theorem Qjb (x:V):∀ n:Nat,(List.replicate n [x]).flatten=List.replicate n x
 | 0=>rfl
 | n+1=>by rw [List.replicate_succ,List.replicate_succ,List.flatten_cons,Qjb x n]; rfl
variable {fr:Fr} {F:List (List Int)}
theorem QnP {t0 vm vv vl vr vh:Nat} (im iv il ir ih:Nat) (hl:o.length=8)
 (o7:o[7]?=some (some (.arr vs 82 [.lst 0 [] true,.mp im vm,.sl iv vv 0 1 (vars+1) none,.sl il vl 0 1 (vars+1) none,.sl ir vr 0 1 (vars+1) none,.sl ih vh 0 1 (vars+1) none,.lst 0 [] true,.int .i64 0,.lst 0 [] true,.lst 0 [] true,.int .i64 (fu:Int),.int .i64 0])))
 (o0:o[0]?=some (some (.arr vf 24 [.int .i64 (vars:Int),.lst 1 (F.map row) false]))) (o1:o[1]?=some (some (.arr va 67 [.int .u8 0,.lst 0 [] true,.lst 0 [] true,.int .i64 0])))
 (om:o[im]?=some (some (.map vm []))) (ov:o[iv]?=some (some (.arr vv 86 (.int .i8 0::(List.replicate vars [V.int .i8 0]).flatten)))) (ol:o[il]?=some (some (.arr vl 3 (.int .i64 0::(List.replicate vars [V.int .i64 0]).flatten))))
 (or:o[ir]?=some (some (.arr vr 3 (.int .i64 0::(List.replicate vars [V.int .i64 0]).flatten)))) (oh:o[ih]?=some (some (.arr vh 3 (.int .i64 0::(List.replicate vars [V.int .i64 0]).flatten))))
 (hqr:∀ m<8,qT im iv il ir ih (rT im iv il ir ih m)=m) (hrq:∀ n<8,rT im iv il ir ih (qT im iv il ir ih n)=n)
 (f1:Qg fr 1=.int .i64 (fu:Int)) (f2:Qg fr 2=.ptr 0 vf 0) (f4:Qg fr 4=.ptr 1 va 0) (f7:Qg fr 7=.ptr 7 vs 0) (ht:t0≤t) :
 ∃ fr' σ',Shift G 90 0 fr ⟨t,o⟩ fr' σ'∧Qq3 vars fu t0 F fr' σ':=by
 have fl:∀ x:V,x::(List.replicate vars [x]).flatten=List.replicate (vars+1) x:=fun x=>by
  rw [List.replicate_succ,Qjb]
 rw [fl] at ov ol or oh
 have hlt:∀ {k x},o[k]?=some (some x)→k<8:=fun {k x} h=>by rw [← hl]; exact (List.getElem?_eq_some_iff.1 h).1
 have lm:=hlt om
 have lv:=hlt ov
 have ll:=hlt ol
 have lr:=hlt or
 have lh:=hlt oh
 have h4:=own4 (G:=G) (t:=t) hl o7
 generalize hq:qT im iv il ir ih=q at hqr hrq
 have q0:q 0=0:=hqr 0 (by decide)
 have q1:q 1=1:=hqr 1 (by decide)
 have q7:q 7=2:=hqr 2 (by decide)
 have qm:q im=3:=hqr 3 (by decide)
 have qv:q iv=4:=hqr 4 (by decide)
 have ql:q il=5:=hqr 5 (by decide)
 have qr:q ir=6:=hqr 6 (by decide)
 have qh:q ih=7:=hqr 7 (by decide)
 have q8:∀ n,8≤n→q n=n:=fun n h=>by
  rw [← hq]; unfold qT
  rw [if_neg (by omega),if_neg (by omega),if_neg (by omega),if_neg (by omega),if_neg (by omega),if_neg (by omega)]
 have r8:∀ n,8≤n→rT im iv il ir ih n=n:=fun n h=>by
  unfold rT
  rw [List.getD_eq_getElem?_getD,List.getElem?_eq_none (by simpa using h)]; rfl
 have hrq':∀ n,rT im iv il ir ih (q n)=n:=fun n=>by
  rcases Nat.lt_or_ge n 8 with h | h
  ·exact hrq n h
  ·rw [q8 n h,r8 n h]
 generalize hS:(some (Ob.arr vs 82 [.sl 10 (t+2) 0 1 0 none,.mp im vm,.sl iv vv 0 1 (vars+1) none,.sl il vl 0 1 (vars+1) none,.sl ir vr 0 1 (vars+1) none,.sl ih vh 0 1 (vars+1) none,.sl 8 t 0 1 0 none,.int .i64 0,.sl 9 (t+1) 0 1 0 none,.sl 11 (t+3) 0 1 0 none,.int .i64 (fu:Int),.int .i64 0]))=sv at h4
 have old:∀ {k x} e,k≠7→o[k]?=some x→(o.set 7 sv++e)[k]?=some x:=fun {k x} e hk h=>by
  have:=(List.getElem?_eq_some_iff.1 h).1
  rw [List.getElem?_append_left (by simpa using this),List.getElem?_set_ne (Ne.symm hk)]; exact h
 have new:∀ {k} e,(o.set 7 sv++e)[k+8]?=e[k]?:=fun {k} e=>by
  rw [List.getElem?_append_right (by simp [hl]),List.length_set,hl,Nat.add_sub_cancel]
 have nm:im≠7:=fun e=>by rw [e,q7] at qm; omega
 have nv:iv≠7:=fun e=>by rw [e,q7] at qv; omega
 have nl:il≠7:=fun e=>by rw [e,q7] at ql; omega
 have nr:ir≠7:=fun e=>by rw [e,q7] at qr; omega
 have nh:ih≠7:=fun e=>by rw [e,q7] at qh; omega
 refine ⟨[(1,.int .i64 (fu:Int)),(2,.ptr 0 (vf+(t+4)) 0),(4,.ptr 1 (va+(t+4)) 0),(7,.ptr 2 (vs+(t+4)) 0)],_,(h4.shift).trans (Shift.ren hrq' (t':=2 * (t+4)) (o':=behind [some (.arr (vf+(t+4)) 24 [.int .i64 (vars:Int),.lst 1 (F.map row) false]),some (.arr (va+(t+4)) 67 [.int .u8 0,.lst 0 [] true,.lst 0 [] true,.int .i64 0])]
  (hp ⟨vs+(t+4),vm+(t+4),vv+(t+4),vl+(t+4),vr+(t+4),vh+(t+4),t+(t+4),t+1+(t+4),t+2+(t+4),t+3+(t+4)⟩ (S.new vars fu) fu (2 * (t+4)) [] [] [] []).o) (lR _) (fun m ob' hm=>?_) fun s=>?_),_,_,_,2 * (t+4),by omega,rfl,rfl,rfl,rfl,rfl⟩
 ·simp only [behind,hp,sc,S.new,List.map_cons,List.map_nil,Option.map_some,Ob.ren,Qei,V.ren,cA,nA,lC,lN] at hm
  match m,hm with
  | 0,hm=>cases hm; exact ⟨0,_,q0,old _ (by omega) o0,rfl⟩
  | 1,hm=>cases hm; exact ⟨1,_,q1,old _ (by omega) o1,rfl⟩
  | 2,hm=>cases hm; exact ⟨7,_,q7,by rw [List.getElem?_append_left (by simp [hl]),List.getElem?_set_self (by omega),← hS],by simp [Ob.mv,mvL,V.mv,qm,qv,ql,qr,qh,q8]⟩
  | 3,hm=>cases hm; exact ⟨im,_,qm,old _ nm om,rfl⟩
  | 4,hm=>cases hm; exact ⟨iv,_,qv,old _ nv ov,by simp [Ob.mv,Qb3,QO,V.mv,V.ren,i8s]⟩
  | 5,hm=>cases hm; exact ⟨il,_,ql,old _ nl ol,by simp [Ob.mv,Qb3,QO,V.mv,V.ren,nts]⟩
  | 6,hm=>cases hm; exact ⟨ir,_,qr,old _ nr or,by simp [Ob.mv,Qb3,QO,V.mv,V.ren,ints]⟩
  | 7,hm=>cases hm; exact ⟨ih,_,qh,old _ nh oh,by simp [Ob.mv,Qb3,QO,V.mv,V.ren,nts]⟩
  | 8,hm=>cases hm; exact ⟨8,_,q8 8 (by omega),new (k:=0) _,rfl⟩
  | 9,hm=>cases hm; exact ⟨9,_,q8 9 (by omega),new (k:=1) _,rfl⟩
  | 10,hm=>cases hm; exact ⟨10,_,q8 10 (by omega),new (k:=2) _,rfl⟩
  | 11,hm=>cases hm; exact ⟨11,_,q8 11 (by omega),new (k:=3) _,rfl⟩
  | m+12,hm=>simp at hm
 ·by_cases h1:s=1
  ·subst h1; exact .inr (by rw [f1]; rfl)
  by_cases h2:s=2
  ·subst h2; exact .inr (by rw [f2,V.mv,q0]; rfl)
  by_cases h3:s=4
  ·subst h3; exact .inr (by rw [f4,V.mv,q1]; rfl)
  by_cases h5:s=7
  ·subst h5; exact .inr (by rw [f7,V.mv,q7]; rfl)
  exact .inl (by simp [Qg,Ne.symm h1,Ne.symm h2,Ne.symm h3,Ne.symm h5])
set_option maxHeartbeats 4000000 in
theorem QrB (hT:Qj Try.prog tab) (hv:vars≤1000) (f1:Qg fr 1=.int .i64 (fu:Int)) (f2:Qg fr 2=.ptr 0 vf 0) (f4:Qg fr 4=.ptr 1 va 0) (f6:Qg fr 6=.int .i64 ((vars+1:Nat):Int)) :
 W Try.prog G 90 0 (.reg Qmn [23,24,25,26,27,28,29,30,31,32,33,34]) fr ⟨t,[some (.arr vf 24 [.int .i64 (vars:Int),.lst 1 (F.map row) false]),some (.arr va 67 [.int .u8 0,.lst 0 [] true,.lst 0 [] true,.int .i64 0])]⟩ fun e fr' σ'=>e=.nrm∧Qq3 vars fu t F fr' σ':=by
 have n0:¬ ((vars+1:Nat):Int)<0:=by omega
 have n1:(vars+1) * 8≤140737488355328:=by omega
 have n2:vars+1≤9223372036854775807:=by omega
 have n3:vars+1≤140737488355328:=by omega
 refine Qvo ?_
 refine Qf [(1,.int .i64 (fu:Int)),(2,.ptr 0 vf 0),(4,.ptr 1 va 0),(6,.int .i64 ((vars+1:Nat):Int))] ⟨f1,f2,f4,f6,trivial⟩  6 ?_
 simp -implicitDefEqProofs (disch:=omega) only [go_sem,↓reduceIte,rq]
 refine Qc 1 ?_
 simp -implicitDefEqProofs (disch:=omega) only [go_sem]
 repeat' first
  | refine And.intro ?_ ?_
  | exact QnP _ _ _ _ _ rfl rfl rfl rfl rfl rfl rfl rfl rfl (by decide) (by decide) rfl rfl rfl rfl (by omega)
  | (refine Qc 2 ?_
     simp -implicitDefEqProofs (disch:=omega) only [go_sem,↓reduceIte,rA,rq,rL,Int.toNat_natCast])
end
section
attribute [local go_sem] nF Int.toNat_natCast aZ lR Nat.mul_one zA zL beq_self_eq_true decide_false decide_true Qt QiL QiK QiJ QgT QgS QgR QgQ QiI QiH QiG QiF QiE Qmm Qml
def hp2 (K:Vs) (s:S) (fu t:Nat) (x y:Option Ob) (es:List (V × V)) (cs ps:List V) (r:List (Option Ob)):H :=
 ⟨t,x::y::some (.arr K.s 82 [.sl 10 K.c 0 1 cs.length none,.mp 3 K.m,.sl 4 K.v 0 1 s.va.length none,.sl 5 K.l 0 1 s.lv.length none,.sl 6 K.r 0 1 s.re.length none,.sl 7 K.h 0 1 s.he.length none,.sl 8 K.t 0 1 s.tr.length none,.int .i64 (s.dn:Int),.sl 9 K.k 0 1 s.ms.length none,.sl 11 K.p 0 1 ps.length none,.int .i64 (fu:Int),.int .i64 (fu - s.lf:Nat)]) ::
  some (.map K.m es)::some (.arr K.v 86 (i8s s.va))::some (.arr K.l 3 (nts s.lv))::some (.arr K.r 3 (ints s.re))::some (.arr K.h 3 (nts s.he)) ::
  some (.arr K.t 3 (ints s.tr))::some (.arr K.k 3 (nts s.ms))::some (.arr K.c 25 cs)::some (.arr K.p 25 ps)::r⟩
theorem QuZ:∀ {l m:List V},l.length=m.length→(∀ (j:Nat) (v':V),m[j]?=some v'→∃ v,l[j]?=some v∧Wk v v')→WkL l m
 | [],[],_,_=>.nil
 | a::l,b::m,h,k=>.cons _ _ _ _ (by obtain ⟨v,e,w⟩:=k 0 b rfl; cases e; exact w) (QuZ (by simpa using h) fun j v' e=>by
    obtain ⟨v,e1,w⟩:=k (j+1) v' (by simpa using e)
    exact ⟨v,by simpa using e1,w⟩)
variable {pf:List (List Int)} {ps cs:List V}
theorem PfOk.nameless (h:PfOk ps pf):Qd ps=true:=by
 refine QaQ fun u hu=>?_
 obtain ⟨i,hi⟩:=List.getElem?_of_mem hu
 have hlt:=(List.getElem?_eq_some_iff.1 hi).1
 obtain ⟨p,hp⟩:∃ p,pf[i]?=some p:=⟨_,List.getElem?_eq_getElem (by rw [← h.1]; exact hlt)⟩
 obtain ⟨z,b,e,_⟩:=h.2 i p hp
 rw [hi] at e
 cases e
 rfl
theorem PfOk.wk (h:PfOk ps pf):Wk (.lst 1 ps false) (rows pf):=by
 refine .lst 1 1 _ _ false (QuZ (by simpa using h.1) fun j v hv=>?_) (.inr rfl)
 simp only [List.getElem?_map,Option.map_eq_some_iff] at hv
 obtain ⟨p,hp,rfl⟩:=hv
 obtain ⟨z,b,e,hz⟩:=h.2 j p hp
 refine ⟨_,e,.lst z 1 _ _ b (WkL.refl _) ?_⟩
 rcases hz with rfl | rfl
 ·exact .inl rfl
 ·exact .inr rfl
variable {r:Nat→Nat}
theorem QrQ (l:List Int):Qei r (i8s l)=i8s l:=by simp [QO,i8s,V.ren]
theorem QrP (l:List Nat):Qei r (nts l)=nts l:=by simp [QO,nts,V.ren]
theorem QpJ (l:List Int):Qei r (ints l)=ints l:=by simp [QO,ints,V.ren]
variable {fu t i vars wa:Nat} {s:S} {K:Vs}
theorem QqS {es:List (Int × V)} {rest x y} (hn:Qd ps=true) :
 (⟨t,behind [x,y] (hp K s fu t es cs ps rest).o⟩:H)=hp2 K s fu t x y ((kv es).map fun p=>(p.1,V.ren (·+2) p.2)) (Qei (·+2) cs) ps (rest.map (Option.map (Ob.ren (·+2)))):=by
 have h:Qei (·+2) ps=ps:=YD ps hn
 have h2:(Qei (·+2) cs).length=cs.length:=by rw [QO,lM]
 simp only [behind,hp,hp2,sc,List.map_cons,Option.map_some,Ob.ren,Qei,V.ren,QrQ,QrP,QpJ,lC,lN,cA,nA,rA,zA,h,h2]
variable {x y:Option Ob} {σ:H}
theorem Cap.two (h:Cap K fu t s σ):∃ ps K' es2 cs2 r2 t',PfOk ps s.pf∧t≤t'∧K'.s=K.s∧(⟨σ.t,behind [x,y] σ.o⟩:H)=hp2 K' s fu t' x y es2 cs2 ps r2:=by
 obtain ⟨ps,hp0,K',es,cs,rest,ow,t',ht,hK,hw,rfl⟩:=h
 exact ⟨ps,K',_,_,_,t',hp0,ht,hK,QqS hp0.nameless⟩
def bls (l:List Bool):List V:=l.map V.bool
theorem QnI (l:List Bool):(bls l).length=l.length:=by simp [bls]
theorem QxB {l:List Bool} {b:Bool} (h:i<l.length):(bls l).take i++[.bool b]++(bls l).drop (i+1)=bls (l.set i b):=by
 simp only [bls,List.set_eq_take_append_cons_drop,if_pos h,List.map_append,List.map_cons,List.map_take,List.map_drop,aA,List.singleton_append]
theorem Qkt (l:List Bool):Qd (bls l)=true:=by
 refine QaQ fun u hu=>?_
 obtain ⟨b,_,rfl⟩:=List.mem_map.1 hu
 rfl
def Qgc (vars:Nat) (s:S):List Bool:=(List.range vars).map fun k=>decide (s.va.getD (k+1) 0=1)
def QxG (vars fu:Nat):Option (S × Bool)→V
 | none=>.agg [.int .u8 0,.lst 0 [] true,.lst 0 [] true,.int .i64 (fu:Int)]
 | some (s,true)=>.agg [.int .u8 1,.lst 1 (bls (Qgc vars s)) false,.lst 0 [] true,.int .i64 (fu - s.lf:Nat)]
 | some (s,false)=>.agg [.int .u8 2,.lst 0 [] true,rows s.pf,.int .i64 (fu - s.lf:Nat)]
def kindOf:Option (S × Bool)→Int
 | none=>0
 | some (_,true)=>1
 | some (_,false)=>2
def SolQ (X:V) (u:V) (σ:H):Prop:=(nameless u=true∧Wk u X)∨∃ k v' T cs,σ.o[k]?=some (some (.arr v' T cs))∧Qd cs=true∧nameless (YU k v' cs u)=true∧Wk (YU k v' cs u) X
theorem Qse {k w:Nat} {l:List V}:YU k w l (.sl k w 0 1 l.length none)=.lst 1 l false:=by
 simp [YU,Qac]
abbrev mdJ (K:Vs) (vars fu t wa wb wm:Nat) (s:S) (x y:Option Ob) (es:List (V × V)) (cs ps:List V) (j:Nat):Nat→Fr→H→Prop:=fun i fr σ =>
 ∃ R l,l.length=vars∧(∀ k,k<i→l.getD k false=decide (s.va.getD (k+1) 0=1))∧R[j]?=some (some (.arr wb 67 [.int .u8 1,.sl (j+13) wm 0 1 vars none,.lst 0 [] true,.int .i64 (fu - s.lf:Nat)]))∧R[j+1]?=some (some (.arr wm 4 (bls l))) ∧
   Qg fr 4=.ptr 1 wa 0∧Qg fr 7=.ptr 2 K.s 0∧Qg fr 10=.ptr (j+12) wb 0∧Qg fr 60=.int .i64 (vars:Int)∧Qg fr 61=.int .i64 (i:Int)∧σ=hp2 K s fu t x y es cs ps R
abbrev mdE (K:Vs) (vars fu t wa wb wm:Nat) (s:S) (x y:Option Ob) (es:List (V × V)) (cs ps:List V) (j:Nat):AE→Fr→H→Prop:=fun e fr σ=>e=.ex 1 ∧
 ∃ R,R[j]?=some (some (.arr wb 67 [.int .u8 1,.sl (j+13) wm 0 1 vars none,.lst 0 [] true,.int .i64 (fu - s.lf:Nat)]))∧R[j+1]?=some (some (.arr wm 4 (bls (Qgc vars s))))∧Qg fr 4=.ptr 1 wa 0∧Qg fr 10=.ptr (j+12) wb 0∧σ=hp2 K s fu t x y es cs ps R
variable {fr:Fr} {es:List (V × V)}
theorem Qr0 (hT:Qj P tab) {wb wm:Nat} {j:Nat} (hv:vars≤1000) (hva:s.va.length=vars+1) (hi:i<vars) (hJ:mdJ K vars fu t wa wb wm s x y es cs ps j i fr σ) :
 W P G 90 0 (zg QgT [] (.seq (zw 62 .skip (.exit 1)) (.seq (.block 2 (zg QgS [63] (.reg QgR [64,65,66,67,68,69,70,71,72,73,74,75,76]))) (.reg QgQ [77])))) fr σ (Y9 (fun fr σ=>∃ fr' σ',Shift G 90 0 fr σ fr' σ'∧mdJ K vars fu t wa wb wm s x y es cs ps j (i+1) fr' σ') (mdE K vars fu t wa wb wm s x y es cs ps j)):=by
 obtain ⟨R,l,hl,hm,hj,hj1,f4,f7,f10,f60,f61,rfl⟩:=hJ
 have hlt:(i:Int)<(vars:Int):=by omega
 have e2:=XP hi (by omega)
 have hil:i<l.length:=by omega
 have hiv:i+1<s.va.length:=by omega
 have hD:=Qi9 hiv
 have hb:(V.int .i8 (s.va.getD (i+1) 0):V)=.int .i8 (s.va.getD (i+1) 0):=rfl
 generalize hz:s.va.getD (i+1) 0=z at *
 have hjl:=(List.getElem?_eq_some_iff.1 hj1).1
 have g:(z==1)=decide (z=1):=by rw [Bool.eq_iff_iff]; simp
 refine Qf [(4,.ptr 1 wa 0),(7,.ptr 2 K.s 0),(10,.ptr (j+12) wb 0),(60,.int .i64 (vars:Int)),(61,.int .i64 (i:Int))] ⟨f4,f7,f10,f60,f61,trivial⟩  1000 ?_
 simp -implicitDefEqProofs (disch:=omega) only [go_sem,↓reduceIte,rA,rq,rL,hp2,Yf,QnI,hlt,e2,hj,hj1,hl,hi,hiv,hD,QxB,g]
 refine ⟨_,_,Shift.refl _ _ _ _,R.set (j+1) (some (.arr wm 4 (bls (l.set i (decide (z=1)))))),l.set i (decide (z=1)),by simp [hl],fun k hk=>?_,by rw [List.getElem?_set_ne (by omega)]; exact hj,List.getElem?_set_self hjl,rfl,rfl,rfl,rfl,rfl,rfl⟩
 by_cases hki:k=i
 ·subst hki
  rw [hz]
  simp [List.getD_eq_getElem?_getD,hil]
 ·have:=hm k (by omega)
  rw [← this]
  simp [List.getD_eq_getElem?_getD,List.getElem?_set_ne (Ne.symm hki)]
theorem QjJ {α:Type} (r:List α) (a b:α):(r++[a]++[b])[r.length]?=some a:=by simp
theorem Qnh {α:Type} (r:List α) (a b:α):(r++[a]++[b])[r.length+1]?=some b:=by simp
theorem Qpy {α:Type} (r:List α) (a b c:α):(r++[a]++[b]).set r.length c=r++[c]++[b]:=by simp
abbrev Qpx:AC:=(zg Qmm [45,46,47,48,49,50] (.seq (zg Qml [] (.block 0 (zg QiL [53] (zw 52 (zg QiK [54,55,56,57] (zg QiJ [58,59] (.block 1 (.loop (zg QgT [] (.seq (zw 62 .skip (.exit 1)) (.seq (.block 2 (zg QgS [63] (.reg QgR [64,65,66,67,68,69,70,71,72,73,74,75,76]))) (.reg QgQ [77])))))))) (zg QiI [79] (zw 78 (.reg QiH [80,81,82,83,84]) (zg QiG [86] (zw 85 (.reg QiF [87,88]) .skip)))))))) (zg QiE [89] .ret)))
theorem QjI (hT:Qj P tab) {wf:Nat} {F:List (List Int)} {r2:List (Option Ob)} {r:Option (S × Bool)} (hv:vars≤1000) (hva:∀ b,r=some (s,b)→s.va.length=vars+1) (hps:PfOk ps s.pf) (hr:r=none∨∃ b,r=some (s,b))
 (f1:Qg fr 1=.int .i64 (fu:Int)) (f2:Qg fr 2=.ptr 0 wf 0) (f4:Qg fr 4=.ptr 1 wa 0) (f7:Qg fr 7=.ptr 2 K.s 0) (f8:Qg fr 8=.int .u8 (kindOf r)) :
 W P G 90 0 Qpx fr (hp2 K s fu t (some (.arr wf 24 [.int .i64 (vars:Int),.lst 1 (F.map row) false])) (some (.arr wa 67 [.int .u8 0,.lst 0 [] true,.lst 0 [] true,.int .i64 0])) es cs ps r2)
   (endK G [RV.cell 4 true 4,RV.tmp 5] (SolQ (.tup [QxG vars fu r,.int .i64 0]))):=by
 rcases hr with rfl | ⟨b,rfl⟩
 ·replace f8:Qg fr 8=.int .u8 0:=f8
  refine Qf [(1,.int .i64 (fu:Int)),(2,.ptr 0 wf 0),(4,.ptr 1 wa 0),(7,.ptr 2 K.s 0),(8,.int .u8 0)] ⟨f1,f2,f4,f7,f8,trivial⟩  1000 ?_
  simp -implicitDefEqProofs (disch:=omega) only [go_sem,↓reduceIte,reduceCtorEq,rA,rq,rL,hp2,Yp,List.getElem?_concat_length,List.length_singleton,false_implies,true_implies,and_true,Int.reduceBEq]
  exact .inl ⟨rfl,.refl _⟩
 ·cases b with
  | false =>
    have hn:=hps.nameless
    have hw:=hps.wk
    replace f8:Qg fr 8=.int .u8 2:=f8
    refine Qf [(1,.int .i64 (fu:Int)),(2,.ptr 0 wf 0),(4,.ptr 1 wa 0),(7,.ptr 2 K.s 0),(8,.int .u8 2)] ⟨f1,f2,f4,f7,f8,trivial⟩  1000 ?_
    simp -implicitDefEqProofs (disch:=omega) only [go_sem,↓reduceIte,reduceCtorEq,rA,rq,rL,hp2,Yp,List.getElem?_concat_length,List.length_singleton,false_implies,true_implies,and_true,Int.reduceBEq]
    refine .inr ⟨11,K.p,25,ps,rfl,hn,?_,?_⟩
    ·simp [YU,Qgd,Qac,nameless,Qd]
    ·have e:YU 11 K.p ps (.tup [.agg [.int .u8 2,.lst 0 [] true,.sl 11 K.p 0 1 ps.length none,.int .i64 (fu - s.lf:Nat)],.int .i64 0])=.tup [.agg [.int .u8 2,.lst 0 [] true,.lst 1 ps false,.int .i64 (fu - s.lf:Nat)],.int .i64 0]:=by simp [YU,Qgd,Qac]
     rw [e]
     exact .tup _ _ (.cons _ _ _ _ (.agg _ _ (.cons _ _ _ _ (.refl _) (.cons _ _ _ _ (.refl _) (.cons _ _ _ _ hw (.cons _ _ _ _ (.refl _) .nil))))) (.cons _ _ _ _ (.refl _) .nil))
  | true =>
    have hva':=hva true rfl
    have n0:¬ (vars:Int)<0:=by omega
    have n1:vars≤140737488355328:=by omega
    have n2:vars≤9223372036854775807:=by omega
    have hbl:List.replicate vars (V.bool false)=bls (List.replicate vars false):=by simp [bls]
    replace f8:Qg fr 8=.int .u8 1:=f8
    refine Qf [(1,.int .i64 (fu:Int)),(2,.ptr 0 wf 0),(4,.ptr 1 wa 0),(7,.ptr 2 K.s 0),(8,.int .u8 1)] ⟨f1,f2,f4,f7,f8,trivial⟩  1000 ?_
    simp -implicitDefEqProofs (disch:=omega) only [go_sem,↓reduceIte,rA,rq,rL,hp2,Yp,List.getElem?_concat_length,QjJ,Qpy,lA,List.length_singleton,true_implies,true_and,and_true,Qjb,hbl]
    refine ZF vars (mdJ K vars fu (t+1+1) wa t (t+1) s (some (.arr wf 24 [.int .i64 (vars:Int),.lst 1 (F.map row) false])) (some (.arr wa 67 [.int .u8 0,.lst 0 [] true,.lst 0 [] true,.int .i64 0])) es cs ps r2.length) (mdE K vars fu (t+1+1) wa t (t+1) s (some (.arr wf 24 [.int .i64 (vars:Int),.lst 1 (F.map row) false])) (some (.arr wa 67 [.int .u8 0,.lst 0 [] true,.lst 0 [] true,.int .i64 0])) es cs ps r2.length)
     ⟨_,List.replicate vars false,List.length_replicate ..,fun k hk=>absurd hk (Nat.not_lt_zero _),QjJ _ _ _,Qnh _ _ _,rfl,rfl,rfl,rfl,rfl,rfl⟩ (fun i hi fr σ hJ=>Qr0 hT hv hva' hi hJ) (fun i hi fr σ hJ=>?_) (fun e fr σ hE=>?_)
    ·obtain ⟨R,l,hl,hm,hj,hj1,f4,f7,f10,f60,f61,rfl⟩:=hJ
     have hge:¬ (i:Int)<(vars:Int):=by omega
     have hmod:l=Qgc vars s:=by
      refine List.ext_getElem (by simp [Qgc,hl]) fun k h1 h2=>?_
      have:=hm k (by omega)
      simp only [List.getD_eq_getElem?_getD,List.getElem?_eq_getElem h1,Option.getD_some] at this
      simp [Qgc,this]
     rw [hmod] at hj1
     refine Qf [(4,.ptr 1 wa 0),(7,.ptr 2 K.s 0),(10,.ptr (r2.length+12) t 0),(60,.int .i64 (vars:Int)),(61,.int .i64 (i:Int))] ⟨f4,f7,f10,f60,f61,trivial⟩  1000 ?_
     simp -implicitDefEqProofs (disch:=omega) only [go_sem,↓reduceIte,rq,hp2,hge]
     exact ⟨rfl,R,hj,hj1,rfl,rfl,rfl⟩
    ·obtain ⟨rfl,R,hj,hj1,f4,f10,rfl⟩:=hE
     refine QQ [(4,.ptr 1 wa 0),(10,.ptr (r2.length+12) t 0)] ⟨f4,f10,trivial⟩  1000 ?_
     simp -implicitDefEqProofs (disch:=omega) only [go_sem,↓reduceIte,reduceCtorEq,rA,rq,hp2,List.length_singleton,false_implies,and_true,hj]
     have hml:(bls (Qgc vars s)).length=vars:=by simp [bls,Qgc]
     have hn:=Qkt (Qgc vars s)
     refine .inr ⟨r2.length+13,t+1,4,bls (Qgc vars s),?_,hn,?_,?_⟩
     ·simpa using hj1
     ·simp [YU,Qgd,Qac,nameless,Qd,hml]
     ·have e:YU (r2.length+13) (t+1) (bls (Qgc vars s)) (.tup [.agg [.int .u8 1,.sl (r2.length+13) (t+1) 0 1 vars none,.lst 0 [] true,.int .i64 (fu - s.lf:Nat)],.int .i64 0])=.tup [.agg [.int .u8 1,.lst 1 (bls (Qgc vars s)) false,.lst 0 [] true,.int .i64 (fu - s.lf:Nat)],.int .i64 0]:=by
       have:=Qse (k:=r2.length+13) (w:=t+1) (l:=bls (Qgc vars s))
       rw [hml] at this
       simp only [YU,Qgd] at this ⊢
       rw [this]
      rw [e]
      exact .refl _
end
end Go.Proofs.Ytingdebioipemaa
namespace Go.Proofs.Ytingdebioipemaa
open Go Go.Am Go.Cl Go.Sat
set_option maxRecDepth 100000
variable {G:Nat→Option V}
section
attribute [local go_sem] nF nT aZ lR zA decide_false Qc9 QuK QuJ QiL QiK QiJ QgT QgS QgR QgQ QiI QiH QiG QuI QiF QiE QuH Qmn QuG QuF QuE Qmm Qml
theorem Qay:∀ {F:List (List Int)} {s s':S} {b:Bool},S.begin F s=some (s',some b)→b=false
 | [],s,s',b,h=>by cases h
 | c::F,s,s',b,h=>by
   by_cases g:(Qs c).2=false
   ·rw [Qky g] at h; exact Qay h
   ·obtain ⟨q,e⟩:∃ q,Qs c=(q,true):=⟨(Qs c).1,Prod.ext rfl (by simpa using g)⟩
    match q,e with
    | [],e=>rw [Qkx e] at h; cases h; rfl
    | [l],e =>
      rw [Qkw e] at h
      split at h
      ·cases h; rfl
      ·split at h
       ·split at h
        ·cases h
        ·exact Qay h
       ·exact Qay h
    | x::y::r,e=>rw [Qiu e (by simp)] at h; exact Qay h
theorem Qjn (vars fu:Nat) (r:Option (S × Bool)):nameless (.tup [QxG vars fu r,.int .i64 0])=true:=by
 match r with
 | none=>rfl
 | some (s,true)=>simp [QxG,nameless,Qd]
 | some (s,false) =>
   have:Qd (s.pf.map row)=true:=QaQ fun u hu=>by
    obtain ⟨p,_,rfl⟩:=List.mem_map.1 hu
    rfl
   simp [QxG,nameless,Qd,rows]
theorem new_bd {vars fu:Nat} (hv:vars≤900) (hfu:fu≤2097152):Bd fu (vars+1) (S.new vars fu) :=
 ⟨by omega,by omega,lR _,by show 0+fu≤_; omega,by show 0+fu≤_; omega,fun v=>by
  have:(S.new vars fu).he.getD v 0=0:=by
   simp only [S.new,List.getD_eq_getElem?_getD,List.getElem?_replicate]
   split <;> rfl
  rw [this]; show 0+fu≤_; omega⟩
theorem new_rw (vars fu:Nat):RW (S.new vars fu) [] [] [] fun _=>.no:=⟨rfl,fun m c h=>by simp [S.new] at h,fun l=>.inl ⟨rfl,rfl⟩⟩
theorem Qxw (hT:Qj Try.prog tab) (vars:Nat) (F:List (List Int)) (fu:Nat) (hR:right vars F=true) (hv:vars≤900) (hFl:F.length≤1000) (hFc:∀ c∈F,c.length≤1000) (hfu:fu≤2097152) :
 Pure Try.prog G Qea [fml vars F,.int .i64 (fu:Int)] fun u=>u=.tup [QxG vars fu (Qng vars F fu),.int .i64 0]:=by
 refine QdC (fun t=>show C Try.prog G 0 Qea [fml vars F,.int .i64 (fu:Int)] ⟨t,[]⟩ (SolQ (.tup [QxG vars fu (Qng vars F fu),.int .i64 0])) from ?_) (Qjn _ _ _)
 have hRt:=Qaw (P:=Try.prog) (G:=G) hT vars F (by omega) (fun c h=>by have:=hFc c h; omega)
 rw [hR] at hRt
 simp only [fml,rows] at hRt ⊢
 have n0:¬ (fu:Int)<0:=by omega
 have n0':decide ((fu:Int)<0)=false:=decide_eq_false n0
 have e1:IntKind.i64.wrap ((vars:Int)+1)=((vars+1:Nat):Int):=XP (n:=1000000) (by omega) (by omega)
 refine QF hT QgV (by simp [Qc9]) (Qx 1000 ?_)
 simp -implicitDefEqProofs (disch:=omega) only [go_sem,↓reduceIte,reduceCtorEq,rA,rq]
 refine Qi hT Ql hRt (by simp [Qd,nameless]) 16 ?_
 simp -implicitDefEqProofs (disch:=omega) only [go_sem,↓reduceIte,reduceCtorEq,rA,rq,rL,n0,e1]
 refine cut (Qq3 vars fu _ F) (QrB hT (by omega) rfl rfl rfl rfl) fun fr σ hJ=>?_
 obtain ⟨K,wf,wa,t',ht,f1,f2,f4,f7,rfl⟩:=hJ
 generalize hX:some (Ob.arr wf 24 [.int .i64 (vars:Int),.lst 1 (F.map row) false])=X
 generalize hY:some (Ob.arr wa 67 [.int .u8 0,.lst 0 [] true,.lst 0 [] true,.int .i64 0])=Y
 have hF:∀ c∈F,∀ l∈c,l≠0∧l.natAbs<vars+1:=fun c hc l hl=>by
  have:=(Xe.1 hR).2 c hc l hl
  exact ⟨this.1,by omega⟩
 have hb:=new_bd hv hfu
 have hinv:=Qdm F (S.new vars fu) hF (QpU vars fu) rfl
 have hbeg:C Try.prog G 0 Yq [.ptr 2 K.s 0,.agg [.int .i64 (vars:Int),.lst 1 (F.map row) false]] ⟨t',behind [X,Y] (hp K (S.new vars fu) fu t' [] [] [] []).o⟩ fun v σ=>∃ vS σS,BegQ K fu (vars+1) t' (S.begin F (S.new vars fu)) vS σS∧v=V.ren (·+2) vS∧σ=⟨σS.t,behind [X,Y] σS.o⟩:=by
  have h0:C Try.prog G 0 Yq [.ptr 0 K.s 0,fml vars F] ⟨t',(hp K (S.new vars fu) fu t' [] [] [] []).o⟩ fun v σ=>BegQ K fu (vars+1) t' (S.begin F (S.new vars fu)) v σ:=(Qxt (G:=G) hT (N:=vars+1) (fu:=fu) (t:=t') (K:=K) vars (F:=F) (by omega) hF (by omega) hFc (QpU vars fu) rfl hb (by show 0+F.length+fu≤_; omega) (ps:=[]) ⟨rfl,fun i p h=>by simp [S.new] at h⟩ (by show 0+1+fu≤_; omega) (new_rw vars fu))
  have:=Qm5 [X,Y] h0
  simpa only [Qei,V.ren,fml,rows,lC,lN,zA,rA] using this
 refine Qf [(1,.int .i64 (fu:Int)),(2,.ptr 0 wf 0),(4,.ptr 1 wa 0),(7,.ptr 2 K.s 0)] ⟨f1,f2,f4,f7,trivial⟩  1000 ?_
 simp -implicitDefEqProofs (disch:=omega) only [go_sem,↓reduceIte,reduceCtorEq,rA,rq,behind,← hX]
 refine Ql2 (σ':=⟨t',behind [X,Y] (hp K (S.new vars fu) fu t' [] [] [] []).o⟩) (by simp only [behind,hX,cA,nA,lC,lN,zA,rA]) ?_
 refine call hT QaJ hbeg 14 fun v σ hv=>?_
 obtain ⟨vS,σS,hq,rfl,rfl⟩:=hv
 unfold Qng
 cases hbg:S.begin F (S.new vars fu) with
 | none =>
   rw [hbg] at hq
   obtain ⟨rfl,s',hcap⟩:=hq
   obtain ⟨ps,K',es2,cs2,r2,t2,hps,ht2,hK,hσ⟩:=hcap.two (x:=X) (y:=Y)
   rw [hσ]
   simp -implicitDefEqProofs (disch:=omega) only [go_sem,↓reduceIte,rA,rq,rTq,V.ren,Qei]
   rw [← hX,← hY]
   exact QjI hT (r:=none) (s:=s') (by omega) (fun b h=>by cases h) hps (.inl rfl) rfl rfl rfl (by rw [hK]; rfl) rfl
 | some p =>
   rw [hbg] at hq hinv
   obtain ⟨s',k⟩:=p
   cases k with
   | some b =>
     obtain rfl:=Qay hbg
     obtain ⟨rfl,hcap⟩:=hq
     obtain ⟨ps,K',es2,cs2,r2,t2,hps,ht2,hK,hσ⟩:=hcap.two (x:=X) (y:=Y)
     rw [hσ]
     simp -implicitDefEqProofs (disch:=omega) only [go_sem,↓reduceIte,rA,rq,rTq,V.ren,Qei]
     rw [← hX,← hY]
     exact QjI hT (r:=some (s',false)) (s:=s') (by omega) (fun b h=>hinv.1.nva) hps (.inr ⟨_,rfl⟩) rfl rfl rfl (by rw [hK]; rfl) rfl
   | none =>
     obtain ⟨rfl,hcap,hb'⟩:=hq
     obtain ⟨ps,hps,K2,es,cs,rest,ow,t2,ht2,hK2,hw2,rfl⟩:=hcap
     obtain ⟨hi2,hms2,hlf2⟩:=hinv
     have h1:C Try.prog G 0 YS [.ptr 0 K2.s 0] ⟨t2,(hp K2 s' fu t2 es cs ps rest).o⟩ fun v σ=>RunQ K2 fu t2 s'.run v σ:=c_run (G:=G) hT hi2 hb' (by rw [hms2]; have:=hb'.lf; simp; omega) hps hw2
     have hrun:C Try.prog G 0 YS [.ptr 2 K.s 0] ⟨t2,behind [X,Y] (hp K2 s' fu t2 es cs ps rest).o⟩ fun v σ=>∃ vS σS,RunQ K2 fu t2 s'.run vS σS∧v=V.ren (·+2) vS∧σ=⟨σS.t,behind [X,Y] σS.o⟩:=by
      have:=Qm5 [X,Y] h1
      rw [← hK2]
      simpa only [Qei,V.ren,lC,lN,zA,rA] using this
     have hrin:∀ r,s'.run=some r→Inv (vars+1) r.1:=fun r h=>Qmv _ _ hi2 r h
     simp -implicitDefEqProofs (disch:=omega) only [go_sem,↓reduceIte,rA,rq,rTq,V.ren,Qei]
     refine Qc 6 ?_
     simp -implicitDefEqProofs (disch:=omega) only [go_sem,↓reduceIte,rq]
     refine call hT Qcp hrun 2 fun v σ hv=>?_
     obtain ⟨vS,σS,hq,rfl,rfl⟩:=hv
     cases hru:s'.run with
     | none =>
       rw [hru] at hq
       obtain ⟨rfl,s2,hcap⟩:=hq
       obtain ⟨ps,K',es2,cs2,r2,t3,hps,ht3,hK,hσ⟩:=hcap.two (x:=X) (y:=Y)
       rw [hσ]
       simp -implicitDefEqProofs (disch:=omega) only [go_sem,↓reduceIte,rq,V.ren]
       rw [← hX,← hY]
       exact QjI hT (r:=none) (s:=s2) (by omega) (fun b h=>by cases h) hps (.inl rfl) rfl rfl rfl (by rw [hK,hK2]; rfl) rfl
     | some p =>
       obtain ⟨s2,b⟩:=p
       rw [hru] at hq
       have hva:=(hrin _ hru).nva
       cases b with
       | true =>
         obtain ⟨rfl,hcap⟩:=hq
         obtain ⟨ps,K',es2,cs2,r2,t3,hps,ht3,hK,hσ⟩:=hcap.two (x:=X) (y:=Y)
         rw [hσ]
         simp -implicitDefEqProofs (disch:=omega) only [go_sem,↓reduceIte,rq,V.ren]
         rw [← hX,← hY]
         exact QjI hT (r:=some (s2,true)) (s:=s2) (by omega) (fun b h=>hva) hps (.inr ⟨_,rfl⟩) rfl rfl rfl (by rw [hK,hK2]; rfl) rfl
       | false =>
         obtain ⟨rfl,hcap⟩:=hq
         obtain ⟨ps,K',es2,cs2,r2,t3,hps,ht3,hK,hσ⟩:=hcap.two (x:=X) (y:=Y)
         rw [hσ]
         simp -implicitDefEqProofs (disch:=omega) only [go_sem,↓reduceIte,rq,V.ren]
         rw [← hX,← hY]
         exact QjI hT (r:=some (s2,false)) (s:=s2) (by omega) (fun b h=>hva) hps (.inr ⟨_,rfl⟩) rfl rfl rfl (by rw [hK,hK2]; rfl) rfl
end
end Go.Proofs.Ytingdebioipemaa
namespace Go.Proofs.Ytingdebioipemaa
open Go Go.Am Go.Cl Go.Sat
set_option maxRecDepth 100000
end Go.Proofs.Ytingdebioipemaa
