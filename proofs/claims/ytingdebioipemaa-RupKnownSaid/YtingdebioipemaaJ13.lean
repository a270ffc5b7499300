/- Contracts: what was learned is added: the literal of a greatest level. -/
import Derived.Test.YtingdebioipemaaJ12
open Nat renaming reduceEqDiff → rq, reduceAdd → rA, reduceLeDiff → rL, reduceLT → rTq, zero_add → zA, le_refl → lR, zero_le → zL, add_zero → aZ
open List renaming length_cons → lC, length_nil → lN, take_succ_cons → tS, length_append → lA, nil_append → nA, cons_append → cA, append_assoc → aA, take_nil → tN, take_zero → tZ, length_map → lM
open Bool renaming not_false → nF, not_true → nT
namespace Go.Proofs.Ytingdebioipemaa
open Go Go.Am Go.Cl Go.Sat
set_option maxRecDepth 100000
variable {P:Program} {G:Nat→Option V}
section
attribute [local go_sem] nF nT aZ lR Nat.mul_one zA zL decide_false decide_true gt_iff_lt Qt X6 QtK QtJ QkP QkO QkN Qor Qoq QtI QtH QtG QtF QtE QtD Qop Qoo
def QnR (s:S) (c:List Int) (n:Nat):Nat:=((List.range n).map (·+1)).foldl (fun b k=>if s.lev (c.getD b 0)<s.lev (c.getD k 0) then k else b) 1
theorem Qj9 (s:S) (c:List Int) (n:Nat):QnR s c (n+1)=if s.lev (c.getD (QnR s c n) 0)<s.lev (c.getD (n+1) 0) then n+1 else QnR s c n:=by
 unfold QnR
 rw [List.range_succ,List.map_append,List.foldl_append]; rfl
theorem Qqk (s:S) (c:List Int):∀ n,1≤QnR s c n∧QnR s c n≤n+1
 | 0=>⟨lR _,lR _⟩
 | n+1=>by rw [Qj9]; have:=Qqk s c n; split <;> omega
abbrev faJ (K:Vs) (s:S) (fu t:Nat) (es:List (Int × V)) (cs ps:List V) (r:List (Option Ob)) (c:List Int) (k wo:Nat):Nat→Fr→H→Prop:=fun i fr σ =>
 Qg fr 0=.ptr 0 K.s 0∧Qg fr 1=.sl (k+10) wo 0 1 c.length none∧Qg fr 9=.int .i64 (QnR s c (i - 1):Int)∧Qg fr 38=.int .i64 (c.length:Int)∧Qg fr 39=.int .i64 (i:Int)∧σ=hp K s fu t es cs ps r
abbrev faE (K:Vs) (s:S) (fu t:Nat) (es:List (Int × V)) (cs ps:List V) (r:List (Option Ob)) (c:List Int) (k wo:Nat):AE→Fr→H→Prop:=fun e fr σ=>e=.ex 0 ∧
 Qg fr 0=.ptr 0 K.s 0∧Qg fr 1=.sl (k+10) wo 0 1 c.length none∧Qg fr 9=.int .i64 (s.far c:Int)∧σ=hp K s fu t es cs ps r
variable {σ:H} {c:List Int} {r:List (Option Ob)} {cs ps:List V} {es:List (Int × V)} {s:S} {K:Vs} {N fu t k wo:Nat}
theorem Qsk (hT:Qj P tab) (hlv:s.lv.length=N) (hc:∀ x∈c,x.natAbs<N) (hN:N≤1000) (hr:r[k]?=some (some (.arr wo 3 (ints c)))) (hcl:c.length≤1000) (h2:2≤c.length)
 {i:Nat} (hi:i<c.length) {fr:Fr} (hJ:faJ K s fu t es cs ps r c k wo i fr σ) :
 W P G 91 0 (zg Qop [] (.seq (zw 40 .skip (.exit 0)) (.seq (.block 1 (zg Qoo [41] (zg QkP [42,43,44,45,46,47,48,49,50,51,52,53,54,55,56,57,58,59,60,61,62,63,64,65,66,67] (zw 68 (.reg QkO [69]) .skip)))) (.reg QkN [70])))) fr σ (Y9 (fun fr σ=>∃ fr' σ',Shift G 91 0 fr σ fr' σ'∧faJ K s fu t es cs ps r c k wo (i+1) fr' σ') (faE K s fu t es cs ps r c k wo)):=by
 unfold faJ at hJ
 obtain ⟨f0,f1,f9,f38,f39,rfl⟩:=hJ
 have hfl:=Qqk s c (i - 1)
 have hlt:(i:Int)<(c.length:Int):=by omega
 have e2:=XP hi (by omega)
 rcases Nat.eq_zero_or_pos i with h0 | h0
 ·have hnext:QnR s c (i+1 - 1)=QnR s c (i - 1):=by rw [h0]
  generalize QnR s c (i - 1)=f at *
  have g':decide (0<(i:Int))=false:=decide_eq_false (by omega)
  have gp:(0<(i:Int))=False:=eq_false (by omega)
  refine Qf [(0,.ptr 0 K.s 0),(1,.sl (k+10) wo 0 1 c.length none),(9,.int .i64 (f:Int)),(38,.int .i64 (c.length:Int)),(39,.int .i64 (i:Int))] ⟨f0,f1,f9,f38,f39,trivial⟩  1000 ?_
  simp -implicitDefEqProofs (disch:=omega) only [go_sem,↓reduceIte,reduceCtorEq,rq,hp,sc,hlt,gp,e2]
  exact ⟨_,_,Shift.refl _ _ _ _,rfl,rfl,by rw [hnext]; rfl,rfl,rfl,rfl⟩
 ·have hnext:=Qj9 s c (i - 1)
  rw [show i - 1+1=i by omega] at hnext
  generalize QnR s c (i - 1)=f at *
  have hfl2:f<c.length:=by omega
  have hD:=Xb hi
  have hDf:=Xb hfl2
  have hxN:=hc (c.getD i 0) (List.mem_of_getElem? (Xt hi))
  have hyN:=hc (c.getD f 0) (List.mem_of_getElem? (Xt hfl2))
  unfold S.lev at hnext
  generalize c.getD i 0=x at *
  generalize c.getD f 0=y at *
  have hLx:=QaO (l:=s.lv) (i:=x.natAbs) (by omega)
  have hLy:=QaO (l:=s.lv) (i:=y.natAbs) (by omega)
  have hLx':x.natAbs<s.lv.length:=by omega
  have hLy':y.natAbs<s.lv.length:=by omega
  generalize s.lv.getD x.natAbs 0=u at *
  generalize s.lv.getD y.natAbs 0=v at *
  have g':decide (0<(i:Int))=true:=decide_eq_true (by omega)
  have gp:(0<(i:Int))=True:=eq_true (by omega)
  have hax:=QlL (P:=P) (G:=G) hT (n:=x) (by omega)
  have hay:=QlL (P:=P) (G:=G) hT (n:=y) (by omega)
  refine Qf [(0,.ptr 0 K.s 0),(1,.sl (k+10) wo 0 1 c.length none),(9,.int .i64 (f:Int)),(38,.int .i64 (c.length:Int)),(39,.int .i64 (i:Int))] ⟨f0,f1,f9,f38,f39,trivial⟩  1000 ?_
  simp -implicitDefEqProofs (disch:=omega) only [go_sem,↓reduceIte,reduceCtorEq,rA,rq,rL,hp,sc,Qb,Int.toNat_natCast,hr,hlt,gp,hi,hfl2,hD,hDf,true_implies,true_and,and_true]
  refine Qi hT X4 hax rfl 1000 ?_
  simp -implicitDefEqProofs (disch:=omega) only [go_sem,↓reduceIte,reduceCtorEq,rA,rq,QN,Int.toNat_natCast,hLx,hLx',true_implies,true_and,and_true]
  refine Qi hT X4 hay rfl 1000 ?_
  by_cases g3:v<u
  ·have g3':decide ((v:Int)<(u:Int))=true:=decide_eq_true (by omega)
   have g3p:((v:Int)<(u:Int))=True:=eq_true (by omega)
   rw [if_pos g3] at hnext
   simp -implicitDefEqProofs (disch:=omega) only [go_sem,↓reduceIte,reduceCtorEq,rA,rq,QN,Int.toNat_natCast,e2,hLy,hLy',g3p,true_implies,true_and,and_true]
   exact ⟨_,_,Shift.refl _ _ _ _,rfl,rfl,by rw [show i+1 - 1=i by omega,hnext]; rfl,rfl,rfl,rfl⟩
  ·have g3':decide ((v:Int)<(u:Int))=false:=decide_eq_false (by omega)
   have g3p:((v:Int)<(u:Int))=False:=eq_false (by omega)
   rw [if_neg g3] at hnext
   simp -implicitDefEqProofs (disch:=omega) only [go_sem,↓reduceIte,reduceCtorEq,rA,rq,QN,Int.toNat_natCast,e2,hLy,hLy',g3p,true_implies,true_and,and_true]
   exact ⟨_,_,Shift.refl _ _ _ _,rfl,rfl,by rw [show i+1 - 1=i by omega,hnext]; rfl,rfl,rfl,rfl⟩
theorem Ql2 {base:Nat} {f:V} {args:List V} {σ':H} {Q:V→H→Prop} (e:σ'=σ) (h:CV P G base f args σ' Q):CV P G base f args σ Q:=e▸h
def Cap (K:Vs) (fu t:Nat) (s:S) (σ:H):Prop:=∃ ps,PfOk ps s.pf∧Can K fu t ps s σ
def TeachQ (K:Vs) (fu t:Nat):Option S→V→H→Prop
 | none,v,σ=>v=.bool false∧∃ s',Cap K fu t s' σ
 | some s',v,σ=>v=.bool true∧Cap K fu t s' σ
theorem Qxq (hT:Qj Try.prog tab) {level:Nat} {ow:Nat→Own} (hi:Inv N s) (hb:Bd fu N s) (hw:RW s es cs r ow) {he:List Nat} (ht:QkE N s c level he) (hp0:PfOk ps s.pf) (hpfB:s.pf.length+1+s.lf≤8388608) (hclB:s.cl.length+1+s.lf≤8388608) (hr:r[k]?=some (some (.arr wo 3 (ints c)))) (ho:ow k=.no) :
 C Try.prog G 0 QaS [.ptr 0 K.s 0,.sl (k+10) wo 0 1 c.length none,.int .i64 (level:Int)] (hp K s fu t es cs ps r) fun v σ=>TeachQ K fu t (s.teach c level) v σ:=by
 obtain ⟨l,out,hc,hl,hll,hout,hlev0,hlevs⟩:=ht.head
 have hok:=ht.ok
 have hbn:=hb.bn
 have hcl:=YT hok
 have hlt:=ht.lt
 obtain ⟨m,hm⟩:∃ m,s.ms[level]?=some m:=⟨_,List.getElem?_eq_getElem hlt⟩
 have hml:m<s.tr.length:=by
  obtain ⟨i,hi'⟩:=List.getElem?_of_mem hl
  have h1:=((hi.mks level m hm).2 i l hi').2 (by omega)
  have:=(List.getElem?_eq_some_iff.1 hi').1
  omega
 have hcne:c≠[]:=by rw [hc]; exact fun e=>by cases e
 have hkl:=(List.getElem?_eq_some_iff.1 hr).1
 have hclb:∀ n∈c,-9223372036854775808≤n∧n≤9223372036854775807:=fun n hn=>by have:=(hok.1 n hn).2; omega
 have hpl:ps.length≤8388608:=by rw [hp0.1]; have:=hb.pf; omega
 refine QF hT QaH (by simp [X6]) (Qx 1000 ?_)
 simp -implicitDefEqProofs (disch:=omega) only [go_sem,↓reduceIte,reduceCtorEq,rA,rq,hp,sc]
 have hclean:=Qsz (G:=G) hT c hcne hclb (by omega) (t:=t) (k:=k+10) (w0:=wo) (T:=3) (o:=(hp K s fu t es cs ps r).o) (by simp only [hp,List.getElem?_cons_succ]; exact hr)
 refine call hT YI (C.wk (zL _) (lR _) hclean) 1000 fun v σ hv=>?_
 obtain ⟨t1,z,b,ht1,rfl,hz,rfl⟩:=hv
 generalize hrow:(Qs c).1=row1 at hz ⊢
 simp -implicitDefEqProofs (disch:=omega) only [go_sem,↓reduceIte,reduceCtorEq,rA,rq,rL,rTq,hp,sc,cA]
 refine Ql2 (σ':=hp { K with p:=t1 } { s with pf:=s.pf++[row1] } fu (t1+1) es cs (ps++[.lst z (ints row1) b]) (r++[none])) (by simp [hp,sc]) ?_
 have hw1:RW { s with pf:=s.pf++[row1] } es cs (r++[none]) fun i=>if i=r.length then .no else ow i:=⟨(hw.newno none).len,(hw.newno none).cl,(hw.newno none).wt⟩
 refine call hT Qbl (Qxr (s:={ s with pf:=s.pf++[row1] }) (K:={ K with p:=t1 }) (N:=N) hT (hi.proof _) hb.bn hw1 hm hml) 1000 fun v σ hv=>?_
 subst hv
 have hinv1:=Qm1 (s:={ s with pf:=s.pf++[row1] }) (hi.proof _) hm
 have hbk:=S.back_of (s:={ s with pf:=s.pf++[row1] }) hm
 have hpf1:(({ s with pf:=s.pf++[row1] }:S).back level).pf=s.pf++[row1]:=by rw [hbk]
 have hcl1:(({ s with pf:=s.pf++[row1] }:S).back level).cl=s.cl:=by rw [hbk]
 have hwt1:(({ s with pf:=s.pf++[row1] }:S).back level).wt=s.wt:=by rw [hbk]
 have hlf1:(({ s with pf:=s.pf++[row1] }:S).back level).lf=s.lf:=by rw [hbk]
 have hhe1:(({ s with pf:=s.pf++[row1] }:S).back level).he=s.he:=by rw [hbk]
 have hteach:s.teach c level=if c.length=1 then (({ s with pf:=s.pf++[row1] }:S).back level).set (c.getD 0 0) (-1) else
  ((({ s with pf:=s.pf++[row1] }:S).back level).add (swap c 1 ((({ s with pf:=s.pf++[row1] }:S).back level).far c))).set ((swap c 1 ((({ s with pf:=s.pf++[row1] }:S).back level).far c)).getD 0 0) (({ s with pf:=s.pf++[row1] }:S).back level).cl.length:=by
  rw [← hrow]; rfl
 generalize ({ s with pf:=s.pf++[row1] }:S).back level=s1 at *
 rw [hteach]
 have hwb:RW s1 es cs (r++[none]) fun i=>if i=r.length then .no else ow i:=⟨by rw [hcl1]; exact hw1.len,by rw [hcl1]; exact hw1.cl,by rw [hwt1]; exact hw1.wt⟩
 have hr2:(r++[none])[k]?=some (some (.arr wo 3 (ints c))):=by rw [List.getElem?_append_left hkl]; exact hr
 have ho2:(fun i=>if i=r.length then Own.no else ow i) k=.no:=(if_neg (by omega)).trans ho
 have hpf2:PfOk (ps++[.lst z (ints row1) b]) s1.pf:=by rw [hpf1]; exact hp0.snoc hz
 generalize ps++[.lst z (ints row1) b]=ps1 at *
 generalize (fun i=>if i=r.length then Own.no else ow i)=ow1 at *
 generalize r++[none]=r1 at *
 have hB:Bd fu N s1:=⟨hb.bn,hb.bf,by rw [hlf1]; exact hb.lf,by rw [hcl1,hlf1]; exact hb.cl,by rw [hpf1,hlf1,lA]; exact hpfB,by rw [hhe1,hlf1]; exact hb.he⟩
 have hlf0:=hb.lf
 have hc0:0<c.length:=List.length_pos_iff.2 hcne
 have hD0:=Xb (l:=c) (i:=0) hc0
 have hx0:c.getD 0 0=-l:=by rw [hc]; rfl
 rw [hx0] at hD0 ⊢
 have hlN:=hok.1 (-l) (by rw [hc]; simp)
 have htr1:=YT hinv1.tro
 by_cases g1:c.length=1
 ·have g1':((c.length:Int)==1)=true:=beq_iff_eq.2 (by omega)
  rw [if_pos g1]
  simp -implicitDefEqProofs (disch:=omega) only [go_sem,↓reduceIte,reduceCtorEq,rq,Int.reduceToNat,Int.reduceLE,hp,sc,Qb,hr2,g1',hc0,hD0]
  cases hs:s1.set (-l) (-1) with
  | none =>
    have h0:s1.lf=0:=by
     unfold S.set at hs
     by_cases q:s1.lf=0
     ·exact q
     ·rw [if_neg q] at hs; cases hs
    refine call hT Qp (Qkq (s:=s1) (K:={ K with p:=t1 }) (fu:=fu) (es:=es) (cs:=cs) (ps:=ps1) (rest:=r1) hT h0 (-l) (-1)) 1000 fun v σ hv=>?_
    obtain ⟨rfl,rfl⟩:=hv
    simp -implicitDefEqProofs (disch:=omega) only [go_sem,↓reduceIte,reduceCtorEq,rq]
    exact ⟨rfl,s1,ps1,hpf2,{ K with p:=t1 },es,cs,r1,ow1,t1+1,by omega,rfl,hwb,rfl⟩
  | some s' =>
    refine call hT Qp (QqI (s:=s1) (s':=s') (K:={ K with p:=t1 }) (fu:=fu) (t:=t1+1) (es:=es) (cs:=cs) (ps:=ps1) (rest:=r1) hT hB hs (by rw [hinv1.nva]; exact hlN.2) (by rw [hinv1.nlv]; exact hlN.2) (by rw [hinv1.nre]; exact hlN.2) (by rw [hinv1.nva]; exact hbn.2) (by omega)) 1000 fun v σ hv=>?_
    obtain ⟨rfl,w2,t2,ht2,rfl⟩:=hv
    simp -implicitDefEqProofs (disch:=omega) only [go_sem,↓reduceIte,reduceCtorEq,rq]
    obtain ⟨_,e'⟩:=S.set_some hs
    refine ⟨rfl,ps1,by rw [e']; exact hpf2,{ K with p:=t1,t:=w2 },es,cs,r1,ow1,t2,by omega,rfl,by rw [e']; exact ⟨hwb.len,hwb.cl,hwb.wt⟩,rfl⟩
 ·have g1':((c.length:Int)==1)=false:=beq_eq_false_iff_ne.2 (by omega)
  have h2:2≤c.length:=by omega
  rw [if_neg g1]
  simp -implicitDefEqProofs (disch:=omega) only [go_sem,↓reduceIte,reduceCtorEq,rq,hp,sc,g1']
  refine ZF c.length (faJ { K with p:=t1 } s1 fu (t1+1) es cs ps1 r1 c k wo) (faE { K with p:=t1 } s1 fu (t1+1) es cs ps1 r1 c k wo) ⟨rfl,rfl,rfl,rfl,rfl,rfl⟩
   (fun i hi2 fr σ hJ=>Qsk hT hinv1.nlv (fun x hx=>(hok.1 x hx).2) hbn.2 hr2 (by omega) h2 hi2 hJ) (fun i hi2 fr σ hJ=>?_) (fun e fr σ hE=>?_)
  ·unfold faJ at hJ
   obtain ⟨f0,f1,f9,f38,f39,rfl⟩:=hJ
   have hge:¬ (i:Int)<(c.length:Int):=by omega
   rw [show QnR s1 c (i - 1)=s1.far c by rw [hi2]; rfl] at f9
   refine Qf [(0,.ptr 0 K.s 0),(1,.sl (k+10) wo 0 1 c.length none),(9,.int .i64 (s1.far c:Int)),(38,.int .i64 (c.length:Int)),(39,.int .i64 (i:Int))] ⟨f0,f1,f9,f38,f39,trivial⟩  1000 ?_
   simp -implicitDefEqProofs (disch:=omega) only [go_sem,↓reduceIte,reduceCtorEq,rq,hge]
   exact ⟨rfl,rfl,rfl,rfl,rfl⟩
  ·obtain ⟨rfl,f0,f1,f9,rfl⟩:=hE
   obtain ⟨ff1,ff2⟩:=Qj8 (s:=s1) h2
   generalize hff:s1.far c=f at *
   have hDf:=Xb ff2
   have h1l:1<c.length:=by omega
   have hD1:=Xb h1l
   have hlt2:f<(c.set 1 (c.getD f 0)).length:=by simpa using ff2
   have hkl1:=(List.getElem?_eq_some_iff.1 hr2).1
   have hsw:swap c 1 f=(c.set 1 (c.getD f 0)).set f (c.getD 1 0):=rfl
   have hper:=Qc7 c (i:=1) (j:=f) (by omega) ff2
   have hs0:(swap c 1 f)[0]?=some (-l):=by rw [ZJ _ (by omega) ff2,if_neg (by omega),if_neg (by omega),Xt (d:=0) hc0,hx0]
   have hs0D:(ints (swap c 1 f)).getD 0 V.any=.int .i64 (-l):=Yx hs0
   have hsl:(swap c 1 f).length=c.length:=Qak _ _ _
   rw [show (swap c 1 f).getD 0 0=-l from getD_some hs0]
   have hset:r1.set k (some (.arr wo 3 (ints (swap c 1 f))))=r1.set k (some (.arr wo 3 (ints ((c.set 1 (c.getD f 0)).set f (c.getD 1 0))))):=rfl
   refine QQ [(0,.ptr 0 K.s 0),(1,.sl (k+10) wo 0 1 c.length none),(9,.int .i64 (f:Int))] ⟨f0,f1,f9,trivial⟩  1000 ?_
   simp -implicitDefEqProofs (disch:=omega) only [go_sem,↓reduceIte,reduceCtorEq,rA,rq,Int.reduceToNat,Int.reduceLE,hp,sc,Qb,Int.toNat_natCast,hr2,ff2,hDf,h1l,hD1,Qdx,List.length_set,List.getElem?_set_self,List.set_set,← hsw,hs0D,hc0,hsl]
   have hwp:=hwb.setno ho2 (some (.arr wo 3 (ints (swap c 1 f))))
   have hadd:=c_add (P:=Try.prog) (G:=G) (fu:=fu) (t:=t1+1) (K:={ K with p:=t1 }) (ps:=ps1) hT hinv1 hB hwp (c:=swap c 1 f) (j:=k) (w:=wo) ⟨by omega,hok.perm hper⟩ (List.getElem?_set_self hkl1) ho2
   rw [hsl] at hadd
   have hB2:Bd fu N (s1.add (swap c 1 f)):=⟨hb.bn,hb.bf,by show s1.lf≤fu; rw [hlf1]; exact hb.lf,by show (s1.cl++[swap c 1 f]).length+s1.lf≤_; rw [lA,hcl1,hlf1]; exact hclB,by show s1.pf.length+s1.lf≤_; rw [hpf1,hlf1,lA]; exact hpfB,by show ∀ v,s1.he.getD v 0+s1.lf≤_; rw [hhe1,hlf1]; exact hb.he⟩
   have hset0:(s1.add (swap c 1 f)).lf=0→∀ (K2:Vs) (es2:List (Int × V)) (cs2:List V) (r2:List (Option Ob)) (t2:Nat),C Try.prog G 0 X9 [.ptr 0 K2.s 0,.int .i64 (-l),.int .i64 (s1.cl.length:Int)] (hp K2 (s1.add (swap c 1 f)) fu t2 es2 cs2 ps1 r2) fun v σ=>v=.bool false∧σ=hp K2 (s1.add (swap c 1 f)) fu t2 es2 cs2 ps1 r2 :=
    fun h0 K2 es2 cs2 r2 t2=>Qkq hT h0 _ _
   have hset1:∀ s',(s1.add (swap c 1 f)).set (-l) (s1.cl.length:Int)=some s'→∀ (K2:Vs) (es2:List (Int × V)) (cs2:List V) (r2:List (Option Ob)) (t2:Nat),C Try.prog G 0 X9 [.ptr 0 K2.s 0,.int .i64 (-l),.int .i64 (s1.cl.length:Int)] (hp K2 (s1.add (swap c 1 f)) fu t2 es2 cs2 ps1 r2) fun v σ=>v=.bool true∧∃ w t',t2≤t'∧σ=hp { K2 with t:=w } s' fu t' es2 cs2 ps1 r2 :=
    fun s' hs K2 es2 cs2 r2 t2=>QqI hT hB2 hs (by show _<s1.va.length; rw [hinv1.nva]; exact hlN.2) (by show _<s1.lv.length; rw [hinv1.nlv]; exact hlN.2) (by show _<s1.re.length; rw [hinv1.nre]; exact hlN.2) (by show s1.va.length≤_; rw [hinv1.nva]; exact hbn.2) (by show s1.tr.length≤_; omega)
   have hpf3:PfOk ps1 (s1.add (swap c 1 f)).pf:=hpf2
   refine And.intro ?_ ?_
   ·refine call hT YQ hadd 1000 fun v σ hv=>?_
    obtain ⟨rfl,w3,es3,cs3,r3,ow3,t3,ht3,hw3,hr3,rfl⟩:=hv
    simp -implicitDefEqProofs (disch:=omega) only [go_sem,↓reduceIte,reduceCtorEq,rq]
    cases hs:(s1.add (swap c 1 f)).set (-l) (s1.cl.length:Int) with
    | none =>
      have h0:(s1.add (swap c 1 f)).lf=0:=by
       unfold S.set at hs
       by_cases q:(s1.add (swap c 1 f)).lf=0
       ·exact q
       ·rw [if_neg q] at hs; cases hs
      refine call hT Qp (hset0 h0 { K with p:=t1,c:=w3 } es3 cs3 r3 t3) 1000 fun v σ hv=>?_
      obtain ⟨rfl,rfl⟩:=hv
      simp -implicitDefEqProofs (disch:=omega) only [go_sem,↓reduceIte,reduceCtorEq,rq]
      exact ⟨rfl,_,ps1,hpf3,{ K with p:=t1,c:=w3 },es3,cs3,r3,ow3,t3,by omega,rfl,hw3,rfl⟩
    | some s' =>
      refine call hT Qp (hset1 s' hs { K with p:=t1,c:=w3 } es3 cs3 r3 t3) 1000 fun v σ hv=>?_
      obtain ⟨rfl,w2,t2,ht2,rfl⟩:=hv
      simp -implicitDefEqProofs (disch:=omega) only [go_sem,↓reduceIte,reduceCtorEq,rq]
      obtain ⟨_,e'⟩:=S.set_some hs
      refine ⟨rfl,ps1,by rw [e']; exact hpf3,{ K with p:=t1,c:=w3,t:=w2 },es3,cs3,r3,ow3,t2,by omega,rfl,by rw [e']; exact ⟨hw3.len,hw3.cl,hw3.wt⟩,rfl⟩
   ·refine call hT YQ hadd 1000 fun v σ hv=>?_
    obtain ⟨rfl,w3,es3,cs3,r3,ow3,t3,ht3,hw3,hr3,rfl⟩:=hv
    simp -implicitDefEqProofs (disch:=omega) only [go_sem,↓reduceIte,reduceCtorEq,rq,hp,sc,hr3,Qb,hsl,hs0D]
    cases hs:(s1.add (swap c 1 f)).set (-l) (s1.cl.length:Int) with
    | none =>
      have h0:(s1.add (swap c 1 f)).lf=0:=by
       unfold S.set at hs
       by_cases q:(s1.add (swap c 1 f)).lf=0
       ·exact q
       ·rw [if_neg q] at hs; cases hs
      refine call hT Qp (hset0 h0 { K with p:=t1,c:=w3 } es3 cs3 r3 t3) 1000 fun v σ hv=>?_
      obtain ⟨rfl,rfl⟩:=hv
      simp -implicitDefEqProofs (disch:=omega) only [go_sem,↓reduceIte,reduceCtorEq,rq]
      exact ⟨rfl,_,ps1,hpf3,{ K with p:=t1,c:=w3 },es3,cs3,r3,ow3,t3,by omega,rfl,hw3,rfl⟩
    | some s' =>
      refine call hT Qp (hset1 s' hs { K with p:=t1,c:=w3 } es3 cs3 r3 t3) 1000 fun v σ hv=>?_
      obtain ⟨rfl,w2,t2,ht2,rfl⟩:=hv
      simp -implicitDefEqProofs (disch:=omega) only [go_sem,↓reduceIte,reduceCtorEq,rq]
      obtain ⟨_,e'⟩:=S.set_some hs
      refine ⟨rfl,ps1,by rw [e']; exact hpf3,{ K with p:=t1,c:=w3,t:=w2 },es3,cs3,r3,ow3,t2,by omega,rfl,by rw [e']; exact ⟨hw3.len,hw3.cl,hw3.wt⟩,rfl⟩
end
end Go.Proofs.Ytingdebioipemaa
namespace Go.Sat
open Go Go.Cl
structure All (N:Nat) (Q:(Nat→Bool)→Prop) (F:List (List Int)) (s:S):Prop where
 inv:Inv N s
 snd:Snd Q s
 cov:Cov F s
theorem Tel.all {N:Nat} {Q:(Nat→Bool)→Prop} {F:List (List Int)} {s s':S} (h:Tel Q s s') (ha:All N Q F s) (hi:Inv N s'):All N Q F s':=⟨hi,h.snd ha.snd,h.cov ha.cov⟩
def Qdr (Q:(Nat→Bool)→Prop) (F:List (List Int)):S × Bool→Prop
 | (_,false)=>∀ M,¬ Q M
 | (s,true)=>∃ M,(∀ v,1≤v→v<s.va.length→M v=decide (s.va.getD v 0=1))∧∀ c∈F,Holds M c
end Go.Sat
namespace Go.Proofs.Ytingdebioipemaa
open Go Go.Am Go.Cl Go.Sat
set_option maxRecDepth 100000
variable {P:Program} {G:Nat→Option V}
section
attribute [local go_sem] nF nT lR Nat.mul_one zA zL decide_false decide_true ge_iff_le Qt YJ Qui QoF QkV QkU QkT QkS QkR QkQ QoE QoD QoC QoB QoA Qoz Qoy Qox
variable {s:S}
theorem Qnd {s':S} {c:List Int} {level:Nat} (h:s.teach c level=some s'):s'.pf.length=s.pf.length+1∧s'.cl.length≤s.cl.length+1∧s'.he=s.he∧s'.lf+1≤s.lf∧s'.ms.length≤s.ms.length:=by
 have hl:=Qrv h
 have hb:∀ (s:S),(s.back level).pf=s.pf∧(s.back level).cl=s.cl∧(s.back level).he=s.he∧(s.back level).ms.length≤s.ms.length:=fun s=>by
  unfold S.back
  cases s.ms[level]? with
  | none=>exact ⟨rfl,rfl,rfl,lR _⟩
  | some m=>exact ⟨rfl,rfl,rfl,by simp; omega⟩
 unfold S.teach at h
 simp only at h
 obtain ⟨b1,b2,b3,b4⟩:=hb { s with pf:=s.pf++[(Qs c).1] }
 split at h
 ·obtain ⟨_,rfl⟩:=S.set_some h
  exact ⟨by show (S.back _ level).pf.length=_; rw [b1]; simp,by show (S.back _ level).cl.length≤_; rw [b2]; simp,b3,by omega,b4⟩
 ·obtain ⟨_,rfl⟩:=S.set_some h
  exact ⟨by show (S.back _ level).pf.length=_; rw [b1]; simp,by show ((S.back _ level).cl++_).length≤_; rw [b2]; simp,b3,by omega,b4⟩
variable {σ:H} {ps:List V} {fu t t' N:Nat} {K K':Vs}
theorem Can.cap {pf:List (List Int)} (h:Can K' fu t' ps s σ) (hp:PfOk ps pf) (hK:K'.s=K.s) (ht:t≤t'):Cap K fu t { s with pf:=pf } σ:=by
 obtain ⟨K2,es,cs,rest,ow,t2,h1,h2,h3,rfl⟩:=h
 exact ⟨ps,hp,K2,es,cs,rest,ow,t2,by omega,h2.trans hK,⟨h3.len,h3.cl,h3.wt⟩,rfl⟩
theorem Cap.mono (h:Cap K' fu t' s σ) (hK:K'.s=K.s) (ht:t≤t'):Cap K fu t s σ:=by
 obtain ⟨ps,hp,K2,es,cs,rest,ow,t2,h1,h2,h3,rfl⟩:=h
 exact ⟨ps,hp,K2,es,cs,rest,ow,t2,by omega,h2.trans hK,h3,rfl⟩
def RunQ (K:Vs) (fu t:Nat):Option (S × Bool)→V→H→Prop
 | none,v,σ=>v=.int .u8 0∧∃ s',Cap K fu t s' σ
 | some (s',true),v,σ=>v=.int .u8 1∧Cap K fu t s' σ
 | some (s',false),v,σ=>v=.int .u8 2∧Cap K fu t s' σ
abbrev ruJ (K:Vs) (N fu t:Nat) (R:Option (S × Bool)):Nat→Fr→H→Prop:=fun m fr σ =>
 ∃ s K' es cs ps rest ow t',s.lf<m∧t≤t'∧K'.s=K.s∧S.runN m s=R∧s.ms.length+s.lf≤8388608∧Inv N s∧Bd fu N s∧PfOk ps s.pf∧RW s es cs rest ow∧Qg fr 0=.ptr 0 K.s 0∧σ=hp K' s fu t' es cs ps rest
abbrev ruE (K:Vs) (fu t:Nat) (R:Option (S × Bool)):AE→Fr→H→Prop:=fun e fr σ=>e=.ret∧RunQ K fu t R (Qg fr 2) σ
theorem QrI (hT:Qj Try.prog tab) {R:Option (S × Bool)} {m:Nat} {fr:Fr} (hJ:ruJ K N fu t R m fr σ) :
 W Try.prog G 72 0 (.block 1 (zg QoF [7,8,6,9,10] (.seq (.block 2 (zg QoE [12] (zw 11 (zg QoD [] .ret) (zg QoC [14,15,16,17,18,19,20,21,22,23] (zw 13 (zg QoB [24,25,26,27,28,29,30,31,32] (zg QoA [] .ret)) (zg Qoz [34,35] (zw 33 (.seq (zg Qoy [36,37,38,39,40,41,42,43,44,45,46,47] (zw 48 (zg Qox [] .ret) .skip)) (.exit 1)) .skip))))))) (zg QkV [49,50] (.seq (zg QkU [51] (zw 52 (zg QkT [] .ret) .skip)) (zg QkS [53,54,55,56,57,58,59,60,61,62,63,64,65,66] (zg QkR [67,68,69,70] (zw 71 (zg QkQ [] .ret) .skip)))))))) fr σ (Y9 (fun fr σ=>∃ m' fr' σ',m'<m∧Shift G 72 0 fr σ fr' σ'∧ruJ K N fu t R m' fr' σ') (ruE K fu t R)):=by
 obtain ⟨s,K',es,cs,ps,rest,ow,t',hlf,ht,hK,hR,hml,hi,hb,hpf,hw,f0,rfl⟩:=hJ
 obtain ⟨m,rfl⟩:∃ k,m=k+1:=⟨m - 1,by omega⟩
 rw [← hK] at f0
 have hsp:=Qff (s.room+1) s hi (Nat.lt_succ_self _)
 have hbn:=hb.bn
 unfold S.runN at hR
 refine Qf [(0,.ptr 0 K'.s 0)] ⟨f0,trivial⟩  1000 ?_
 simp -implicitDefEqProofs (disch:=omega) only [go_sem,↓reduceIte,reduceCtorEq]
 refine call hT Qaj (Qss (K:=K') hT hi hb hw) 1000 fun v σ hv=>?_
 unfold S.round at hR
 unfold S.spread at hv hR
 generalize S.spreadN (s.room+1) s=r0 at hv hR hsp
 match r0,hv,hR,hsp with
 | none,hv,hR,_ =>
   obtain ⟨⟨n,rfl⟩,s',hcan⟩:=hv
   simp -implicitDefEqProofs (disch:=omega) only [go_sem,↓reduceIte,reduceCtorEq,rA,rq,rTq]
   simp only at hR
   subst hR
   exact ⟨rfl,rfl,_,hcan.cap hpf hK ht⟩
 | some (s1,some n),hv,hR,hsp =>
   obtain ⟨rfl,K1,es1,cs1,rest1,ow1,t1,ht1,hK1,hw1,rfl⟩:=hv
   obtain ⟨hi1,hx1,c,hc,hf,y,hy,hyl⟩:=hsp
   have hge:decide (0≤(n:Int))=true:=decide_eq_true (by omega)
   have hgep:(0≤(n:Int))=True:=eq_true (by omega)
   have hpf1:PfOk ps s1.pf:=by rw [hx1.pf]; exact hpf
   have hxl:=hx1.le
   have hxc:=hx1.len
   have hxp:=hx1.pf
   have hb1:Bd fu N s1:=⟨hb.bn,hb.bf,Nat.le_trans hx1.le hb.lf,by have:=hb.cl; omega,by rw [hxp]; have:=hb.pf; omega,fun v=>by rw [hx1.he]; have:=hb.he v; omega⟩
   have hps:ps.length≤8388608:=by rw [hpf.1]; have:=hb.pf; omega
   simp only at hR
   by_cases g1:s1.ms.length=0
   ·rw [if_pos g1] at hR
    have g1':((s1.ms.length:Int)==0)=true:=beq_iff_eq.2 (by omega)
    have g1p:((s1.ms.length:Int)=0)=True:=eq_true (by omega)
    rw [← hK1]
    simp -implicitDefEqProofs (disch:=omega) only [go_sem,↓reduceIte,reduceCtorEq,rA,rq,rL,rTq,hp,sc,hgep,g1',true_implies,true_and,and_true]
    simp only at hR
    subst hR
    exact ⟨rfl,rfl,ps++[.lst 0 [] true],hpf1.snoc (p:=[]) (.inl rfl),{ K1 with p:=t1 },es1,cs1,rest1,ow1,t1+1,by omega,hK1.trans hK,⟨hw1.len,hw1.cl,hw1.wt⟩,by simp [hp,sc]⟩
   ·rw [if_neg g1] at hR
    have g1':((s1.ms.length:Int)==0)=false:=beq_eq_false_iff_ne.2 (by omega)
    have g1p:((s1.ms.length:Int)=0)=False:=eq_false (by omega)
    rw [← hK1]
    simp -implicitDefEqProofs (disch:=omega) only [go_sem,↓reduceIte,reduceCtorEq,rA,rq,rL,rTq,hp,sc,hgep,g1',true_implies,and_true]
    unfold S.burn at hR
    by_cases g2:s1.lf=0
    ·rw [if_pos g2] at hR
     simp only at hR
     subst hR
     refine call hT Xr (QqL (s:=s1) (K:=K1) (fu:=fu) (t:=t1) (es:=es1) (cs:=cs1) (ps:=ps) (rest:=rest1) hT g2) 1000 fun v σ hv=>?_
     obtain ⟨rfl,rfl⟩:=hv
     simp -implicitDefEqProofs (disch:=omega) only [go_sem,↓reduceIte,reduceCtorEq,rq]
     exact ⟨rfl,rfl,s1,ps,hpf1,K1,es1,cs1,rest1,ow1,t1,by omega,hK1.trans hK,hw1,rfl⟩
    ·rw [if_neg g2] at hR
     simp only at hR
     refine call hT Xr (Qvl (s:=s1) (K:=K1) (fu:=fu) (t:=t1) (es:=es1) (cs:=cs1) (ps:=ps) (rest:=rest1) hT hb1 g2) 1000 fun v σ hv=>?_
     obtain ⟨rfl,rfl⟩:=hv
     have hib:=hi1.fuel (s1.lf - 1)
     have hbb:Bd fu N { s1 with lf:=s1.lf - 1 }:=⟨hb1.bn,hb1.bf,by have:=hb1.lf; show s1.lf - 1≤fu; omega,by have:=hb1.cl; show s1.cl.length+(s1.lf - 1)≤_; omega,by have:=hb1.pf; show s1.pf.length+(s1.lf - 1)≤_; omega,fun v=>by have:=hb1.he v; show s1.he.getD v 0+(s1.lf - 1)≤_; omega⟩
     obtain ⟨d,level,he,e,hta⟩:=Qj1 hib (Nat.pos_of_ne_zero g1) hc hf hy hyl
     rw [e] at hR
     simp only at hR
     simp -implicitDefEqProofs (disch:=omega) only [go_sem,↓reduceIte,reduceCtorEq,rA,rq]
     refine call hT QaI (Qxs (s:={ s1 with lf:=s1.lf - 1 }) (K:=K1) (fu:=fu) (t:=t1) (es:=es1) (cs:=cs1) (ps:=ps) (rest:=rest1) (ow:=ow1) hT hib hbb ⟨hw1.len,hw1.cl,hw1.wt⟩ (Nat.pos_of_ne_zero g1) hc hf hy hyl e) 1000 fun v σ hv=>?_
     obtain ⟨k,wo,t2,r2,ow2,ht2,rfl,hw2,hr2,ho2,rfl⟩:=hv
     simp -implicitDefEqProofs (disch:=omega) only [go_sem,↓reduceIte,reduceCtorEq,rA,rq,rTq]
     have hih:=hib.heat hta.hlen
     have hta':QkE N { s1 with lf:=s1.lf - 1,he:=he } d level he:=⟨hta.head,hta.lt,hta.ok,hta.hlen,fun v=>Nat.le_succ _⟩
     have hbh:Bd fu N { s1 with lf:=s1.lf - 1,he:=he }:=⟨hbb.bn,hbb.bf,hbb.lf,hbb.cl,hbb.pf,fun v=>by
      have h1:=hb1.he v
      have h2:=hta.heat v
      show he.getD v 0+(s1.lf - 1)≤_
      replace h2:he.getD v 0≤s1.he.getD v 0+1:=h2
      omega⟩
     refine call hT QaH (Qxq (s:={ s1 with lf:=s1.lf - 1,he:=he }) (K:=K1) (fu:=fu) (t:=t2) (es:=es1) (cs:=cs1) (ps:=ps) (r:=r2) (ow:=ow2) (k:=k) (wo:=wo) hT hih hbh ⟨hw2.len,hw2.cl,hw2.wt⟩ hta' hpf1 (by have:=hb1.pf; show s1.pf.length+1+(s1.lf - 1)≤_; omega) (by have:=hb1.cl; show s1.cl.length+1+(s1.lf - 1)≤_; omega) hr2 ho2) 1000 fun v σ hv=>?_
     cases hte:S.teach { s1 with lf:=s1.lf - 1,he:=he } d level with
     | none =>
       rw [hte] at hv hR
       obtain ⟨rfl,s',hcap⟩:=hv
       simp only [Option.map_none] at hR
       subst hR
       simp -implicitDefEqProofs (disch:=omega) only [go_sem,↓reduceIte,reduceCtorEq,rA,rq]
       exact ⟨rfl,rfl,s',hcap.mono (hK1.trans hK) (by omega)⟩
     | some s2 =>
       rw [hte] at hv hR
       obtain ⟨rfl,ps2,hps2,K2,es2,cs2,r3,ow3,t3,ht3,hK2,hw3,rfl⟩:=hv
       simp only [Option.map_some] at hR
       obtain ⟨hi2,hlf2⟩:=QjE hih hta' hte
       obtain ⟨z1,z2,z3,z4,z5⟩:=Qnd hte
       simp -implicitDefEqProofs (disch:=omega) only [go_sem,↓reduceIte,reduceCtorEq,rA,rq]
       refine ⟨m,_,_,Nat.lt_succ_self _,Shift.refl _ _ _ _,s2,K2,es2,cs2,ps2,r3,ow3,t3,?_,by omega,hK2.trans (hK1.trans hK),hR,?_,hi2,?_,hps2,hw3,?_,rfl⟩
       ·replace hlf2:s2.lf+1=s1.lf - 1:=hlf2
        omega
       ·replace hlf2:s2.lf+1=s1.lf - 1:=hlf2
        replace z5:s2.ms.length≤s1.ms.length:=z5
        rw [hx1.ms] at z5
        omega
       ·replace hlf2:s2.lf+1=s1.lf - 1:=hlf2
        refine ⟨hb1.bn,hb1.bf,by have:=hb1.lf; omega,?_,?_,fun v=>?_⟩
        ·have:=hb1.cl
         replace z2:s2.cl.length≤s1.cl.length+1:=z2
         omega
        ·have:=hb1.pf
         replace z1:s2.pf.length=s1.pf.length+1:=z1
         omega
        ·rw [z3]
         have h1:=hbh.he v
         replace h1:he.getD v 0+(s1.lf - 1)≤8388608:=h1
         show he.getD v 0+s2.lf≤_
         omega
       ·rw [← hK1] at hK; rw [← hK]; rfl
 | some (s1,none),hv,hR,hsp =>
   obtain ⟨rfl,K1,es1,cs1,rest1,ow1,t1,ht1,hK1,hw1,rfl⟩:=hv
   obtain ⟨hi1,hx1,hdn⟩:=hsp
   have hpf1:PfOk ps s1.pf:=by rw [hx1.pf]; exact hpf
   have hxl:=hx1.le
   have hxc:=hx1.len
   have hxp:=hx1.pf
   have hb1:Bd fu N s1:=⟨hb.bn,hb.bf,Nat.le_trans hx1.le hb.lf,by have:=hb.cl; omega,by rw [hxp]; have:=hb.pf; omega,fun v=>by rw [hx1.he]; have:=hb.he v; omega⟩
   have hm1:decide ((0:Int)≤-1)=false:=by decide
   have hm1p:((0:Int)≤-1)=False:=by simp
   simp only at hR
   rw [← hK1]
   simp -implicitDefEqProofs (disch:=omega) only [go_sem,↓reduceIte,reduceCtorEq,rA,rq,rTq,hp,sc,hm1p]
   refine call hT Qbk (c_pick (s:=s1) (K:=K1) (fu:=fu) (t:=t1) (es:=es1) (cs:=cs1) (ps:=ps) (rest:=rest1) hT hi1 hb1) 1000 fun v σ hv=>?_
   obtain ⟨rfl,rfl⟩:=hv
   have htl:=YT hi1.tro
   by_cases g1:s1.pick=0
   ·rw [if_pos g1] at hR
    simp only at hR
    subst hR
    have g1':((s1.pick:Int)==0)=true:=beq_iff_eq.2 (by omega)
    simp -implicitDefEqProofs (disch:=omega) only [go_sem,↓reduceIte,reduceCtorEq,rq,g1']
    exact ⟨rfl,rfl,ps,hpf1,K1,es1,cs1,rest1,ow1,t1,by omega,hK1.trans hK,hw1,rfl⟩
   ·rw [if_neg g1] at hR
    have g1':((s1.pick:Int)==0)=false:=beq_eq_false_iff_ne.2 (by omega)
    obtain ⟨p1,p2,p3⟩:=pick_ok.resolve_left g1
    have hpN:s1.pick<N:=by rw [← hi1.nva]; exact p2
    have hneg:IntKind.i64.wrap (0 - (s1.pick:Int))=-(s1.pick:Int):=by
     rw [QdQ (by omega)]; unfold neg; rw [if_neg (by omega)]
    have hmsl:s1.ms.length≤8388608:=by rw [hx1.ms]; omega
    have hd:=hi1.decide hdn
    have hz:s1.is (s1.pick:Int)=0:=by unfold S.is; rw [if_neg (by omega)]; simpa using p3
    rw [hi1.is_zero] at hz
    simp -implicitDefEqProofs (disch:=omega) only [go_sem,↓reduceIte,reduceCtorEq,rA,rq,rL,hp,sc,QN,g1',hneg,Qgt]
    refine Ql2 (σ':=hp { K1 with k:=t1 } { s1 with ms:=s1.ms++[s1.tr.length] } fu (t1+1) es1 cs1 ps rest1) (by simp [hp,sc]) ?_
    have hbd:Bd fu N { s1 with ms:=s1.ms++[s1.tr.length] }:=⟨hb1.bn,hb1.bf,hb1.lf,hb1.cl,hb1.pf,hb1.he⟩
    cases hse:S.set { s1 with ms:=s1.ms++[s1.tr.length] } (-(s1.pick:Int)) (-1) with
    | none =>
      rw [hse] at hR
      simp only [Option.map_none] at hR
      subst hR
      have h0:s1.lf=0:=by
       unfold S.set at hse
       by_cases q:({ s1 with ms:=s1.ms++[s1.tr.length] }:S).lf=0
       ·exact q
       ·rw [if_neg q] at hse; cases hse
      refine call hT Qp (Qkq (s:={ s1 with ms:=s1.ms++[s1.tr.length] }) (K:={ K1 with k:=t1 }) (fu:=fu) (t:=t1+1) (es:=es1) (cs:=cs1) (ps:=ps) (rest:=rest1) hT h0 _ _) 1000 fun v σ hv=>?_
      obtain ⟨rfl,rfl⟩:=hv
      simp -implicitDefEqProofs (disch:=omega) only [go_sem,↓reduceIte,reduceCtorEq,rq]
      exact ⟨rfl,rfl,{ s1 with ms:=s1.ms++[s1.tr.length] },ps,hpf1,{ K1 with k:=t1 },es1,cs1,rest1,ow1,t1+1,by omega,hK1.trans hK,⟨hw1.len,hw1.cl,hw1.wt⟩,rfl⟩
    | some s2 =>
      rw [hse] at hR
      simp only [Option.map_some] at hR
      have hpn:(-(s1.pick:Int)).natAbs=s1.pick:=by omega
      refine call hT Qp (QqI (N:=N) (s:={ s1 with ms:=s1.ms++[s1.tr.length] }) (s':=s2) (K:={ K1 with k:=t1 }) (fu:=fu) (t:=t1+1) (es:=es1) (cs:=cs1) (ps:=ps) (rest:=rest1) hT hbd hse (by rw [hpn]; exact p2) (by rw [hpn]; show _<s1.lv.length; rw [hi1.nlv]; exact hpN) (by rw [hpn]; show _<s1.re.length; rw [hi1.nre]; exact hpN) (by show s1.va.length≤_; rw [hi1.nva]; exact hbn.2) (by show s1.tr.length≤_; omega)) 1000 fun v σ hv=>?_
      obtain ⟨rfl,w2,t2,ht2,rfl⟩:=hv
      have hi2:=hd.set hse (by omega) (by rw [hpn]; exact hpN) hz.2 (by rw [Int.neg_neg]; exact hz.1) (.inr (.inl (by simp)))
      obtain ⟨hl0,hs2⟩:=S.set_some hse
      replace hl0:s1.lf≠0:=hl0
      simp -implicitDefEqProofs (disch:=omega) only [go_sem,↓reduceIte,reduceCtorEq,rq]
      refine ⟨m,_,_,Nat.lt_succ_self _,Shift.refl _ _ _ _,s2,{ K1 with k:=t1,t:=w2 },es1,cs1,ps,rest1,ow1,t2,?_,by omega,hK1.trans hK,hR,?_,hi2,?_,by rw [hs2]; exact hpf1,by rw [hs2]; exact ⟨hw1.len,hw1.cl,hw1.wt⟩,?_,rfl⟩
      ·rw [hs2]; show s1.lf - 1<m; omega
      ·rw [hs2]; show (s1.ms++[s1.tr.length]).length+(s1.lf - 1)≤_; rw [lA,hx1.ms]; simp only [List.length_singleton]; omega
      ·rw [hs2]
       exact ⟨hb1.bn,hb1.bf,by show s1.lf - 1≤fu; have:=hb1.lf; omega,by show s1.cl.length+(s1.lf - 1)≤_; have:=hb1.cl; omega,by show s1.pf.length+(s1.lf - 1)≤_; have:=hb1.pf; omega,fun v=>by show s1.he.getD v 0+(s1.lf - 1)≤_; have:=hb1.he v; omega⟩
      ·rw [← hK1] at hK; rw [← hK]; rfl
theorem c_run (hT:Qj Try.prog tab) {es:List (Int × V)} {cs:List V} {rest:List (Option Ob)} {ow:Nat→Own} (hi:Inv N s) (hb:Bd fu N s) (hml:s.ms.length+s.lf≤8388608) (hpf:PfOk ps s.pf) (hw:RW s es cs rest ow) :
 C Try.prog G 0 YS [.ptr 0 K.s 0] (hp K s fu t es cs ps rest) fun v σ=>RunQ K fu t s.run v σ:=by
 refine QF hT Qcp (by simp [YJ]) (Qx 1000 ?_)
 simp -implicitDefEqProofs (disch:=omega) only [go_sem,↓reduceIte,reduceCtorEq]
 refine QC (ruJ K N fu t s.run) (ruE K fu t s.run) (m0:=s.lf+1) ⟨s,K,es,cs,ps,rest,ow,t,Nat.lt_succ_self _,lR _,rfl,rfl,hml,hi,hb,hpf,hw,rfl,rfl⟩ (fun m fr σ hJ=>QrI hT hJ) (fun e fr σ hE=>?_)
 obtain ⟨rfl,hq⟩:=hE
 refine Qc 1000 ?_
 simp -implicitDefEqProofs (disch:=omega) only [go_sem]
 exact hq
end
end Go.Proofs.Ytingdebioipemaa
