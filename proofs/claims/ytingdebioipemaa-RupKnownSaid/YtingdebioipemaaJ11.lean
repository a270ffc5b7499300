/- Contracts: a clause is visited. -/
import Derived.Test.YtingdebioipemaaJ10
open Nat renaming reduceEqDiff → rq, reduceAdd → rA, reduceLeDiff → rL, reduceLT → rTq, zero_add → zA, le_refl → lR, zero_le → zL, add_zero → aZ
open List renaming length_cons → lC, length_nil → lN, take_succ_cons → tS, length_append → lA, nil_append → nA, cons_append → cA, append_assoc → aA, take_nil → tN, take_zero → tZ, length_map → lM
open Bool renaming not_false → nF, not_true → nT
namespace Go.Proofs.Ytingdebioipemaa
open Go Go.Am Go.Cl Go.Sat
set_option maxRecDepth 100000
variable {P:Program} {G:Nat→Option V}
section
attribute [local go_sem] nF nT Int.toNat_natCast lR Nat.mul_one Nat.one_mul zA zL decide_false decide_true hp Qb Qt Qix Qiw Qiv Ql6 Ql5 Ql4 sc
variable {σ:H} {fr:Fr} {n fu t j:Nat}
theorem cut {base:Nat} {c:AC} {s:List KI} {Q:AE→Fr→H→Prop} (J:Fr→H→Prop) (h1:W P G n base c fr σ fun e fr σ=>e=.nrm∧J fr σ) (h2:∀ fr σ,J fr σ→sem P G n base Q s .nrm fr σ):sem P G n base Q (.ac c::s) .nrm fr σ :=
 h1.conseq fun e fr σ ⟨he,hJ⟩=>by subst he; exact h2 fr σ hJ
theorem set_self {α:Type} {l:List α} {k:Nat} {x:α} (h:l[k]?=some x):l.set k x=l:=by
 obtain ⟨h1,h2⟩:=List.getElem?_eq_some_iff.1 h
 rw [← h2,List.set_getElem_self]
variable {x l:Int}
theorem Qj3 {c:List Int} (h:0<c.length):.int .i64 x::(ints c).drop 1=ints (c.set 0 x):=by
 cases c with
 | nil=>simp at h
 | cons a c=>simp [ints]
variable {es:List (Int × V)} {ow ow':Nat→Own} {rest r0 r:List (Option Ob)} {ps cs:List V} {K:Vs}
theorem Left.of {rest':List (Option Ob)} {s':S} (h:RW s' es cs rest' ow) (hf:Fm l rest rest' ow ow):Left K fu t ps l rest ow s' (hp K s' fu t es cs ps rest'):=⟨K.t,es,cs,rest',ow,t,lR _,h,hf,rfl⟩
theorem Fm.set (h:Fm l r0 r ow ow') {x:Option Ob} (h1:ow' j≠.wt l) (h2:ow' j≠.no):Fm l r0 (r.set j x) ow ow' :=
 ⟨fun i hi e=>⟨by rw [List.getElem?_set_ne (fun q=>h1 (by rw [q]; exact (h.wt i hi e).2))]; exact (h.wt i hi e).1,(h.wt i hi e).2⟩,fun i hi e=>⟨by rw [List.getElem?_set_ne (fun q=>h2 (by rw [q]; exact (h.no i hi e).2))]; exact (h.no i hi e).1,(h.no i hi e).2⟩⟩
theorem Fm.own (h:Fm l r0 r ow ow') (hx:x≠l) (hj:ow' j=.wt x):Fm l r0 r ow fun i=>if i=j then .wt x else ow' i:=by
 have key:∀ i,ow' i=.wt l∨ow' i=.no→i≠j:=fun i hi q=>by
  subst q; rw [hj] at hi
  rcases hi with e | e
  ·cases e; exact hx rfl
  ·cases e
 exact ⟨fun i hi e=>⟨(h.wt i hi e).1,by show (if i=j then _ else _)=_; rw [if_neg (key i (.inl (h.wt i hi e).2))]; exact (h.wt i hi e).2⟩,fun i hi e=>⟨(h.no i hi e).1,by show (if i=j then _ else _)=_; rw [if_neg (key i (.inr (h.no i hi e).2))]; exact (h.no i hi e).2⟩⟩
theorem Fm.new (h:Fm l r0 r ow ow') (hl:r0.length≤r.length) {y:Option Ob}:Fm l r0 (r++[y]) ow fun i=>if i=r.length then .wt x else ow' i:=by
 exact ⟨fun i hi e=>⟨by rw [List.getElem?_append_left (by omega)]; exact (h.wt i hi e).1,by show (if i=_ then _ else _)=_; rw [if_neg (by omega)]; exact (h.wt i hi e).2⟩,fun i hi e=>⟨by rw [List.getElem?_append_left (by omega)]; exact (h.no i hi e).1,by show (if i=_ then _ else _)=_; rw [if_neg (by omega)]; exact (h.no i hi e).2⟩⟩
structure At (N n:Nat) (l:Int) (s:S) (d:List Int) (cs:List V) (rest:List (Option Ob)) (ow:Nat→Own) (j w:Nat):Prop where
 va:s.va.length=N
 lv:s.lv.length=N
 re:s.re.length=N
 tri:∀ v,Tri (s.va.getD v 0)
 ok:Okc N d
 len:2≤d.length
 bl:d.length≤1000
 one:d[1]?=some l
 lt:n<s.cl.length
 row:cs[n]?=some (.sl (j+10) w 0 1 d.length none)
 cell:rest[j]?=some (some (.arr w 3 (ints d)))
 own:ow j=.cl n
 wl:∀ x,x≠l→(s.wt x).length≤8388608
abbrev viJ (K:Vs) (fu t n j w:Nat) (ps:List V) (s:S) (d:List Int) (es:List (Int × V)) (cs:List V) (rest:List (Option Ob)):Nat→Fr→H→Prop:=fun m fr σ=>∃ k:Nat,2≤k∧k≤d.length∧m=d.length - k∧(∀ i y,2≤i→i<k→d[i]?=some y→s.is y=-1) ∧
 Qg fr 0=.ptr 0 K.s 0∧Qg fr 1=.int .i64 (n:Int)∧Qg fr 9=.sl (j+10) w 0 1 d.length none∧Qg fr 10=.int .i64 (k:Int)∧σ=hp K s fu t es cs ps rest
abbrev viE (K:Vs) (fu t n j w:Nat) (ps:List V) (l:Int) (s:S) (d:List Int) (es:List (Int × V)) (cs:List V) (rest0 rest:List (Option Ob)) (ow:Nat→Own):AE→Fr→H→Prop:=fun e fr σ =>
 (e=.ret∧Qg fr 6=.bool true∧Qg fr 7=.bool false∧Qg fr 8=.bool false∧∃ k,s.find d 2=some k∧Left K fu t ps l rest0 ow ((s.put n (swap d 1 k)).push (d.getD k 0) n) σ) ∨
 (e=.ex 0∧s.find d 2=none∧Qg fr 0=.ptr 0 K.s 0∧Qg fr 1=.int .i64 (n:Int)∧Qg fr 9=.sl (j+10) w 0 1 d.length none∧σ=hp K s fu t es cs ps rest)
theorem Qpn (hT:Qj P tab) {N w:Nat} {s:S} {d:List Int} {rest0:List (Option Ob)} (hN:N≤1000) (ha:At N n l s d cs rest ow j w) (hw:RW s es cs rest ow) (hd:s.cl[n]?=some d) (hf:Fm l rest0 rest ow ow) (hr0:rest0.length=rest.length) (hn:n≤8388608)
 {m:Nat} (hJ:viJ K fu t n j w ps s d es cs rest m fr σ) :
 W P G 95 0 (.seq (zg Ql6 [39,40,41] (zw 42 .skip (.exit 0))) (.seq (.block 1 (zg Ql5 [45,46,47,48,49,50] (zw 51 (zg Ql4 [52,53,54,55,56,57,58,59,60,61,62,63] (zg Qix [64,65,66,67,68,69,70,71,72,73,74,75,76,77,78,79,80,81] (zg Qiw [] .ret))) .skip))) (.reg Qiv [43,44]))) fr σ (Y9 (fun fr σ=>∃ m' fr' σ',m'<m∧Shift G 95 0 fr σ fr' σ'∧viJ K fu t n j w ps s d es cs rest m' fr' σ') (viE K fu t n j w ps l s d es cs rest0 rest ow)):=by
 have hcell:=ha.cell
 obtain ⟨k,hk2,hkl,rfl,hno,f0,f1,f9,f10,rfl⟩:=hJ
 have hdN:=ha.ok
 rcases Nat.lt_or_ge k d.length with hlt | hge
 ·have hdk:d[k]?=some (d.getD k 0):=Xt hlt
  have hD:=Xb hlt
  have hdkN:=(hdN.1 _ (List.mem_of_getElem? hdk)).2
  have hlt':(k:Int)<(d.length:Int):=by omega
  refine Qf [(0,.ptr 0 K.s 0),(1,.int .i64 (n:Int)),(9,.sl (j+10) w 0 1 d.length none),(10,.int .i64 (k:Int))] ⟨f0,f1,f9,f10,trivial⟩  1000 ?_
  simp -implicitDefEqProofs (disch:=omega) only [go_sem,↓reduceIte,reduceCtorEq,rq,hcell,hlt',hlt,hD]
  refine call hT Xs (c_is (s:=s) hT (by rw [ha.va]; exact hdkN) (by rw [ha.va]; omega) (ha.tri _)) 1000 fun v σ hv=>?_
  obtain ⟨rfl,rfl⟩:=hv
  have hk1:d[1]?=some (d.getD 1 0):=Xt (by omega)
  have hbl:=ha.bl
  generalize hdx:d.getD k 0=x at *
  by_cases hx:s.is (x)=-1
  ·have hx':(s.is (x) != -1)=false:=by simp [hx]
   have e2:=XP hlt (by omega)
   simp -implicitDefEqProofs (disch:=omega) only [go_sem,↓reduceIte,reduceCtorEq,rq,hx',e2]
   refine ⟨d.length - (k+1),_,_,by omega,Shift.refl _ _ _ _,k+1,by omega,by omega,rfl,fun i y h1 h2 h3=>?_,rfl,rfl,rfl,rfl,rfl⟩
   rcases Nat.lt_or_ge i k with q | q
   ·exact hno i y h1 q h3
   ·have:i=k:=by omega
    subst this
    rw [hdk] at h3; cases h3; exact hx
  ·have hx':(s.is (x) != -1)=true:=by simp [hx]
   have hfind:s.find d 2=some k:=Qw9 hk2 hdk hx hno
   have hD1:=Xb (l:=d) (i:=1) (by omega)
   have hdne:x≠l:=fun e=>by have:=QbY hdN.nodup (e▸hdk) ha.one; omega
   have hlt2:k<(d.set 1 (x)).length:=by simpa using hlt
   have hjl:=(List.getElem?_eq_some_iff.1 hcell).1
   have hswd:swap d 1 k=(d.set 1 x).set k (d.getD 1 0):=by unfold swap; rw [hdx]
   have hsw:(swap d 1 k).getD 1 0=x:=by
    refine getD_some ?_
    rw [ZJ d (by omega) hlt,if_neg (by omega),if_pos rfl]; exact hdk
   have hD2:(ints ((d.set 1 (x)).set k (d.getD 1 0))).getD 1 V.any=.int .i64 (x):=by
    have:=Xb (l:=swap d 1 k) (i:=1) (by rw [Qak]; omega)
    rw [hsw,hswd] at this; exact this
   have hlen1:1<d.length:=by omega
   have hput:=hw.putc (d:=swap d 1 k) hd (Qak d 1 k) ha.row hcell ha.own
   have hfp:Fm l rest0 (rest.set j (some (.arr w 3 (ints (swap d 1 k))))) ow ow:=hf.set (by rw [ha.own]; exact fun e=>by cases e) (by rw [ha.own]; exact fun e=>by cases e)
   have hwl:=ha.wl (x)
   rcases hput.wt (x) with ⟨hw0,hv⟩ | ⟨j',w',hv,hj',ho'⟩
   ·simp -implicitDefEqProofs (disch:=omega) only [go_sem,↓reduceIte,reduceCtorEq,rA,rq,rL,rTq,Int.reduceToNat,Int.reduceLE,hcell,hx',hlt,hD,hD1,hlen1,Qdx,List.length_set,List.getElem?_set_self,List.set_set,hD2,Qfl,ZA,XJ,hv]
    have hnew:=hput.neww (l:=x) (w:=t) (x:=[n])
    rw [show (s.put n (swap d 1 k)).sub x [n]=(s.put n (swap d 1 k)).push x n by unfold S.push; rw [hw0]; rfl] at hnew
    have hfn:=hfp.new (x:=x) (y:=some (.arr t 3 (nts [n]))) (by rw [List.length_set]; omega)
    rw [List.length_set] at hnew hfn
    rw [hswd] at hnew hfn
    exact .inl ⟨rfl,rfl,rfl,rfl,k,hfind,K.t,_,_,_,_,t+1,by omega,by rw [hdx,hswd]; exact hnew,hfn,rfl⟩
   ·rw [hswd] at hput hfp hj'
    have hjl':=(List.getElem?_eq_some_iff.1 hj').1
    replace hv:vAt es x=.sl (j'+10) w' 0 1 (s.wt x).length none:=hv
    replace hj':(rest.set j (some (.arr w 3 (ints ((d.set 1 x).set k (d.getD 1 0))))))[j']?=some (some (.arr w' 3 (nts (s.wt x)))):=hj'
    simp -implicitDefEqProofs (disch:=omega) only [go_sem,↓reduceIte,reduceCtorEq,rA,rq,rL,Int.reduceToNat,Int.reduceLE,hcell,hx',hlt,hD,hD1,hlen1,Qdx,List.length_set,List.getElem?_set_self,List.set_set,hD2,Qfl,ZA,XJ,hv,hj',QN,Qgt]
    have hnew:=hput.setw (l:=x) (j:=j') (w:=t) (x:=s.wt x++[n]) hjl' (.inl ho')
    have hfn:=(hfp.set (j:=j') (x:=some (.arr t 3 (nts (s.wt x++[n])))) (by rw [ho']; exact fun e=>by cases e; exact hdne rfl) (by rw [ho']; exact fun e=>by cases e)).own hdne ho'
    rw [lA] at hnew
    exact .inl ⟨rfl,rfl,rfl,rfl,k,hfind,K.t,_,_,_,_,t+1,by omega,by rw [hdx,hswd]; exact hnew,hfn,rfl⟩
 ·have hk:k=d.length:=by omega
  have hge':¬ (k:Int)<(d.length:Int):=by omega
  refine Qf [(0,.ptr 0 K.s 0),(1,.int .i64 (n:Int)),(9,.sl (j+10) w 0 1 d.length none),(10,.int .i64 (k:Int))] ⟨f0,f1,f9,f10,trivial⟩  1000 ?_
  simp -implicitDefEqProofs (disch:=omega) only [go_sem,↓reduceIte,reduceCtorEq,rq,hge']
  exact .inr ⟨rfl,Qxa fun j y h2 hj=>hno j y h2 (by have:=(List.getElem?_eq_some_iff.1 hj).1; omega) hj,rfl,rfl,rfl,rfl⟩
end
section
attribute [local go_sem] nF nT aZ Nat.mul_one zA zL Qt X5 Qtm Qtl Qix Qiw Qiv Qol Qok Qoj Qtk Qtj Qti Qth Qtg Ql6 Ql5 Ql4
abbrev vtJ (K:Vs) (N fu t n j w:Nat) (l:Int) (s:S) (d:List Int) (es:List (Int × V)) (cs ps:List V) (rest:List (Option Ob)) (ow:Nat→Own):Fr→H→Prop:=fun fr σ =>
 ∃ rest1,rest1.length=rest.length∧At N n l (s.put n d) d cs rest1 ow j w∧RW (s.put n d) es cs rest1 ow∧Fm l rest rest1 ow ow ∧
   Qg fr 0=.ptr 0 K.s 0∧Qg fr 1=.int .i64 (n:Int)∧Qg fr 9=.sl (j+10) w 0 1 d.length none∧σ=hp K s fu t es cs ps rest1
variable {N:Nat}
theorem YT {c:List Int} (h:Okc N c):c.length≤N:=by
 have:=Qgv (n:=N) h.2 fun x hx=>by
  obtain ⟨y,hy,rfl⟩:=List.mem_map.1 hx
  exact (h.1 y hy).2
 simpa using this
theorem Qxp (hT:Qj P tab) {fu t n:Nat} {K:Vs} {s:S} {es:List (Int × V)} {cs ps:List V} {rest:List (Option Ob)} {ow:Nat→Own} {l:Int} {W0:List Nat} (hi:Inv N (s.sub l W0)) (hnW:n∈W0) (hb:Bd fu N s) (hw:RW s es cs rest ow) (hwl:∀ x,x≠l→(s.wt x).length≤8388608) :
 C P G 0 QaR [.ptr 0 K.s 0,.int .i64 (n:Int),.int .i64 l] (hp K s fu t es cs ps rest) fun v σ=>VisQ K fu t ps l rest ow (s.visit n l) v σ:=by
 obtain ⟨c,hc,htwo⟩:=((hi.wat l).2 n).1 (by rw [Qem,if_pos rfl]; exact hnW)
 replace hc:s.cl[n]?=some c:=hc
 have hcok:=hi.cls c (List.mem_of_getElem? hc)
 have hcD:s.cl.getD n []=c:=getD_some hc
 have hnl:=(List.getElem?_eq_some_iff.1 hc).1
 have hbn:=hb.bn
 have hcl:=hb.cl
 obtain ⟨j,w,hrow,hcell,hown⟩:=hw.cl n c hc
 have hjl:=(List.getElem?_eq_some_iff.1 hcell).1
 unfold S.visit
 rw [hcD]
 generalize hd:turn c l=d
 have hper:d.Perm c:=hd▸QjD hcok.1 l
 have hdok:Okc N d:=hcok.2.perm hper
 have hd1:d[1]?=some l:=hd▸Qmp hcok.1 htwo
 have hdlen:d.length=c.length:=hper.length_eq
 have hclen:=YT hcok.2
 have hrowD:cs.getD n V.any=.sl (j+10) w 0 1 c.length none:=getD_some hrow
 have hncs:n<cs.length:=by rw [hw.len]; exact hnl
 have hC0:=Xb (l:=c) (i:=0) (by omega)
 have hC1:=Xb (l:=c) (i:=1) (by omega)
 have hc1:1<c.length:=by omega
 have hc0:0<c.length:=by omega
 have hlt2:1<(c.set 0 (c.getD 1 0)).length:=by simpa using hc1
 have hat:∀ r,rest.set j (some (.arr w 3 (ints d)))=r→At N n l (s.put n d) d cs r ow j w:=fun r hr =>
  ⟨hi.nva,hi.nlv,hi.nre,fun v=>Tri.of hi v,hdok,by omega,by omega,hd1,by show n<(s.cl.set n d).length; simpa using hnl,by rw [hdlen]; exact hrow,by rw [← hr,List.getElem?_set_self hjl],hown,hwl⟩
 refine QF hT QaG (by simp [X5]) (Qx 18 ?_)
 simp -implicitDefEqProofs (disch:=omega) only [go_sem,↓reduceIte,reduceCtorEq,rA,rq,rL,hp,sc,Int.toNat_natCast,hncs,hrowD]
 refine cut (vtJ K N fu t n j w l s d es cs ps rest ow) (Qx 1000 ?_) fun fr σ hJ=>?_
 ·by_cases g:c.getD 0 0=l
  ·have g':(c.getD 0 0==l)=true:=beq_iff_eq.2 g
   have hdd:d=(c.set 0 (c.getD 1 0)).set 1 (c.getD 0 0):=by rw [← hd]; unfold turn; rw [if_pos g]; rfl
   have hput:=hw.putc (d:=d) hc hdlen hrow hcell hown
   simp -implicitDefEqProofs (disch:=omega) only [go_sem,↓reduceIte,reduceCtorEq,rA,rq,Int.reduceToNat,Int.reduceLE,Qb,hcell,hC0,hC1,hc0,hc1,g',Qj3,Qdx,List.length_set,List.getElem?_set_self,List.set_set]
   rw [hdd] at hput
   exact ⟨_,by simp,hat _ (by rw [hdd]),by rw [hdd]; exact hput,(Fm.refl l rest ow).set (by rw [hown]; exact fun e=>by cases e) (by rw [hown]; exact fun e=>by cases e),rfl,rfl,by rw [hdlen]; rfl,rfl⟩
  ·have g':(c.getD 0 0==l)=false:=beq_eq_false_iff_ne.2 g
   have hdd:d=c:=by rw [← hd]; unfold turn; rw [if_neg g]
   have hput:=hw.putc (d:=d) hc hdlen hrow hcell hown
   have hself:rest.set j (some (.arr w 3 (ints d)))=rest:=set_self (by rw [hdd]; exact hcell)
   rw [hself] at hput
   simp -implicitDefEqProofs (disch:=omega) only [go_sem,↓reduceIte,reduceCtorEq,rq,Int.reduceToNat,Int.reduceLE,Qb,hcell,hC0,hc0,g']
   exact ⟨rest,rfl,hat _ hself,hput,Fm.refl _ _ _,rfl,rfl,by rw [hdlen]; rfl,rfl⟩
 ·obtain ⟨rest1,hrl,ha,hw1,hf1,f0,f1,f9,rfl⟩:=hJ
  have hcell1:=ha.cell
  have hbl:=ha.bl
  have hdl:=ha.len
  have hD0:=Xb (l:=d) (i:=0) (by omega)
  have hd0:d[0]?=some (d.getD 0 0):=Xt (by omega)
  have hd0N:=hdok.1 _ (List.mem_of_getElem? hd0)
  have hdl0:0<d.length:=by omega
  generalize hx:d.getD 0 0=x at *
  have hisC:∀ base,C P G base Qap [.ptr 0 K.s 0,.int .i64 x] (hp K (s.put n d) fu t es cs ps rest1) fun v σ=>v=.int .i8 (s.is x)∧σ=hp K (s.put n d) fu t es cs ps rest1 :=
   fun base=>c_is (s:=s.put n d) hT (by show x.natAbs<s.va.length; rw [show s.va.length=N from hi.nva]; exact hd0N.2) (by show s.va.length≤_; rw [show s.va.length=N from hi.nva]; omega) (Tri.of hi _)
  unfold S.visD
  rw [hx]
  refine Qf [(0,.ptr 0 K.s 0),(1,.int .i64 (n:Int)),(9,.sl (j+10) w 0 1 d.length none)] ⟨f0,f1,f9,trivial⟩  1000 ?_
  simp -implicitDefEqProofs (disch:=omega) only [go_sem,↓reduceIte,reduceCtorEq,rq,Int.reduceToNat,Int.reduceLE,hp,sc,Qb,hcell1,hD0,hdl0]
  refine call hT Xs (hisC _) 1000 fun v σ hv=>?_
  obtain ⟨rfl,rfl⟩:=hv
  by_cases g1:s.is x=1
  ·have g1':(s.is x==1)=true:=beq_iff_eq.2 g1
   rw [if_pos g1]
   simp -implicitDefEqProofs (disch:=omega) only [go_sem,↓reduceIte,reduceCtorEq,rq,hp,sc,g1']
   exact ⟨rfl,Left.of hw1 hf1⟩
  ·have g1':(s.is x==1)=false:=beq_eq_false_iff_ne.2 g1
   rw [if_neg g1]
   simp -implicitDefEqProofs (disch:=omega) only [go_sem,↓reduceIte,reduceCtorEq,rq,hp,sc,g1']
   refine QC (viJ K fu t n j w ps (s.put n d) d es cs rest1) (viE K fu t n j w ps l (s.put n d) d es cs rest rest1 ow) (m0:=d.length - 2)
    ⟨2,lR _,by omega,rfl,fun i y h1 h2 _=>by omega,rfl,rfl,rfl,rfl,rfl⟩ (fun m fr σ hJ=>Qpn hT hbn.2 ha hw1 (by show (s.cl.set n d)[n]?=some d; rw [List.getElem?_set_self hnl]) hf1 hrl.symm (by omega) hJ) (fun e fr σ hE=>?_)
   have hfnd:(s.put n d).find d 2=s.find d 2:=rfl
   rcases hE with ⟨rfl,f6,f7,f8,k,hk,hL⟩ | ⟨rfl,hk,f0,f1,f9,rfl⟩
   ·refine Qc 1000 ?_
    simp -implicitDefEqProofs (disch:=omega) only [go_sem]
    rw [← hfnd,hk]
    exact ⟨by rw [f6,f7,f8]; rfl,hL⟩
   ·rw [← hfnd,hk]
    refine QQ [(0,.ptr 0 K.s 0),(1,.int .i64 (n:Int)),(9,.sl (j+10) w 0 1 d.length none)] ⟨f0,f1,f9,trivial⟩  1000 ?_
    simp -implicitDefEqProofs (disch:=omega) only [go_sem,↓reduceIte,reduceCtorEq,rq,Int.reduceToNat,Int.reduceLE,hp,sc,Qb,hcell1,hD0,hdl0]
    refine call hT Xs (hisC _) 1000 fun v σ hv=>?_
    obtain ⟨rfl,rfl⟩:=hv
    by_cases g2:s.is x=-1
    ·have g2':(s.is x==-1)=true:=beq_iff_eq.2 g2
     simp -implicitDefEqProofs (disch:=omega) only [go_sem,↓reduceIte,reduceCtorEq,rq,hp,sc,g2']
     simp only [if_pos g2]
     exact ⟨rfl,Left.of hw1 hf1⟩
    ·have g2':(s.is x==-1)=false:=beq_eq_false_iff_ne.2 g2
     simp only [if_neg g2]
     simp -implicitDefEqProofs (disch:=omega) only [go_sem,↓reduceIte,reduceCtorEq,rq,Int.reduceToNat,Int.reduceLE,hp,sc,Qb,g2',hcell1,hD0,hdl0]
     have hbp:Bd fu N (s.put n d):=⟨hb.bn,hb.bf,hb.lf,by show (s.cl.set n d).length+s.lf≤_; rw [List.length_set]; exact hb.cl,hb.pf,hb.he⟩
     cases hs:(s.put n d).set x n with
     | none =>
       have h0:(s.put n d).lf=0:=by
        unfold S.set at hs
        by_cases q:(s.put n d).lf=0
        ·exact q
        ·rw [if_neg q] at hs; cases hs
       refine call hT Qp (Qkq (s:=s.put n d) (K:=K) (fu:=fu) (es:=es) (cs:=cs) (ps:=ps) (rest:=rest1) hT h0 x n) 1000 fun v σ hv=>?_
       obtain ⟨rfl,rfl⟩:=hv
       simp -implicitDefEqProofs (disch:=omega) only [go_sem,↓reduceIte,reduceCtorEq,rq]
       exact ⟨rfl,s.put n d,Left.of hw1 hf1⟩
     | some s' =>
       have htr:=YT hi.tro
       have hNN:(s.put n d).va.length≤1000:=by rw [show (s.put n d).va.length=N from hi.nva]; omega
       refine call hT Qp (QqI (s:=s.put n d) (s':=s') (K:=K) (fu:=fu) (es:=es) (cs:=cs) (ps:=ps) (rest:=rest1) hT hbp hs (by rw [show (s.put n d).va.length=N from hi.nva]; exact hd0N.2) (by rw [show (s.put n d).lv.length=N from hi.nlv]; exact hd0N.2) (by rw [show (s.put n d).re.length=N from hi.nre]; exact hd0N.2) hNN (by have:s.tr.length≤N:=htr; show s.tr.length≤_; omega)) 1000 fun v σ hv=>?_
       obtain ⟨rfl,w2,t2,ht2,rfl⟩:=hv
       simp -implicitDefEqProofs (disch:=omega) only [go_sem,↓reduceIte,reduceCtorEq,rq]
       obtain ⟨_,e'⟩:=S.set_some hs
       refine ⟨rfl,w2,es,cs,rest1,ow,t2,ht2,?_,hf1,rfl⟩
       rw [e']
       exact ⟨hw1.len,hw1.cl,hw1.wt⟩
end
end Go.Proofs.Ytingdebioipemaa
namespace Go.Am
open Go
variable {G:Nat→Option V}
variable {n:Nat}
theorem Shift.slot {base:Nat} {fr:Fr} {σ:H} {s:Nat} {u:V} (h:∀ I ρ x,VR I ρ (Qg fr s) x→VR I ρ u x):Shift G n base fr σ (Qdz fr s u) σ:=fun I ρ w a hR hF hb =>
 ⟨I,ρ,hR,⟨hF.defers,hF.size,fun t=>by
  rw [YO]
  split
  ·rename_i e; subst e; exact h I ρ _ (hF.vals s)
  ·exact hF.vals t⟩,Step.refl _ _ _ _ _,hb⟩
theorem VR.tight {I:Imm} {ρ:Names} {v off sz:Nat} {x:Value} (h:VR I ρ (.sl n v off sz 0 (some 0)) x):VR I ρ (.lst 0 [] true) x:=by
 cases h with
 | sl _ _ _ _ _ _ _ b o e cap h1 h2 h3 h4=>exact .lstN _ _ _ _ _ fun _=>(h3 0 rfl).1
 | slN _ _ _ _ _ a h1 h2=>exact .lstN _ _ _ _ _ fun _=>rfl
end Go.Am
namespace Go.Proofs.Ytingdebioipemaa
open Go Go.Am Go.Cl Go.Sat
set_option maxRecDepth 100000
variable {P:Program} {G:Nat→Option V} {ow:Nat→Own} {rest:List (Option Ob)} {cs:List V} {es:List (Int × V)} {s:S}
section
attribute [local go_sem] nF nT Int.toNat_natCast lR Nat.mul_one Nat.one_mul zA zL decide_true hp Qt QN Qd1 Qd0 QdZ QdY QdX QdW QgH QgG QgF sc
theorem RW.newno (h:RW s es cs rest ow) (x:Option Ob):RW s es cs (rest++[x]) fun i=>if i=rest.length then .no else ow i:=by
 have hg:∀ {j:Nat} {y:Option Ob},rest[j]?=some y→(rest++[x])[j]?=some y∧(if j=rest.length then Own.no else ow j)=ow j:=fun {j y} hj=>by
  have:=(List.getElem?_eq_some_iff.1 hj).1
  exact ⟨by rw [List.getElem?_append_left this]; exact hj,if_neg (by omega)⟩
 refine ⟨h.len,fun m c hc=>?_,fun l=>(h.wt l).imp id fun ⟨j,w,h1,h2,h3⟩=>⟨j,w,h1,(hg h2).1,(hg h2).2.trans h3⟩⟩
 obtain ⟨j,w,h1,h2,h3⟩:=h.cl m c hc
 exact ⟨j,w,h1,(hg h2).1,(hg h2).2.trans h3⟩
variable {j fu N i n:Nat}
theorem RW.setno (h:RW s es cs rest ow) (hj:ow j=.no) (x:Option Ob):RW s es cs (rest.set j x) ow:=by
 have hg:∀ {i:Nat} {y:Option Ob},ow i≠.no→rest[i]?=some y→(rest.set j x)[i]?=some y:=fun {i y} hi hy=>by
  rw [List.getElem?_set_ne (fun e=>hi (by rw [← e]; exact hj))]; exact hy
 refine ⟨h.len,fun m c hc=>?_,fun l=>(h.wt l).imp id fun ⟨i,w,h1,h2,h3⟩=>⟨i,w,h1,hg (by rw [h3]; exact fun e=>by cases e) h2,h3⟩⟩
 obtain ⟨i,w,h1,h2,h3⟩:=h.cl m c hc
 exact ⟨i,w,h1,hg (by rw [h3]; exact fun e=>by cases e) h2,h3⟩
theorem Bd.ext {s':S} (h:Bd fu N s) (e:Ext s s'):Bd fu N s' :=
 ⟨h.bn,h.bf,Nat.le_trans e.le h.lf,by have:=h.cl; have:=e.len; have:=e.le; omega,by have:=h.pf; rw [e.pf]; have:=e.le; omega,fun v=>by have:=h.he v; rw [e.he]; have:=e.le; omega⟩
def Can (K:Vs) (fu t:Nat) (ps:List V) (s:S) (σ:H):Prop:=∃ K' es cs rest ow t',t≤t'∧K'.s=K.s∧RW s es cs rest ow∧σ=hp K' s fu t' es cs ps rest
def Row (rest:List (Option Ob)) (ow:Nat→Own) (o:Own) (l:List Nat) (v:V):Prop:=(l=[]∧v=.lst 0 [] true)∨∃ j w,v=.sl (j+10) w 0 1 l.length none∧rest[j]?=some (some (.arr w 3 (nts l)))∧ow j=o
variable {v:V} {l old:List Nat} {o:Own}
theorem Row.fm {l0:Int} {rest':List (Option Ob)} {ow':Nat→Own} (h:Fm l0 rest rest' ow ow') (ho:o=.wt l0∨o=.no) (hr:Row rest ow o l v):Row rest' ow' o l v:=by
 rcases hr with h1 | ⟨j,w,h1,h2,h3⟩
 ·exact .inl h1
 ·have hl:=(List.getElem?_eq_some_iff.1 h2).1
  rcases ho with rfl | rfl
  ·obtain ⟨a,b⟩:=h.wt j hl h3
   exact .inr ⟨j,w,h1,a.trans h2,b⟩
  ·obtain ⟨a,b⟩:=h.no j hl h3
   exact .inr ⟨j,w,h1,a.trans h2,b⟩
abbrev spJ (K:Vs) (N fu t:Nat) (ps:List V) (l:Int) (old:List Nat) (R:Option (S × Option Nat)):Nat→Fr→H→Prop:=fun i fr σ =>
 ∃ s kp K' es cs rest ow t',t≤t'∧K'.s=K.s∧S.pass l kp (old.drop i) s=R∧Inv N (s.sub l (kp++old.drop i))∧-l∈s.tr∧Bd fu N s∧RW s es cs rest ow ∧
   Qg fr 0=.ptr 0 K.s 0∧Qg fr 4=.int .i64 l∧Row rest ow (.wt l) old (Qg fr 5)∧Row rest ow .no kp (Qg fr 6)∧Qg fr 48=Qg fr 5∧Qg fr 49=.int .i64 (old.length:Int)∧Qg fr 50=.int .i64 (i:Int)∧σ=hp K' s fu t' es cs ps rest
abbrev spE (K:Vs) (N fu t:Nat) (ps:List V) (l:Int) (R:Option (S × Option Nat)):AE→Fr→H→Prop:=fun e fr σ =>
 (e=.ret∧((R=none∧(∃ n,Qg fr 2=.int .i64 n)∧Qg fr 3=.bool true∧∃ s,Can K fu t ps s σ)∨∃ (s:S) (n:Nat),R=some (s,some n)∧Qg fr 2=.int .i64 (n:Int)∧Qg fr 3=.bool false∧Can K fu t ps s σ)) ∨
 (e=.ex 2∧∃ s kp K' es cs rest ow t',t≤t'∧K'.s=K.s∧R=some (s.sub l kp,none)∧Inv N (s.sub l kp)∧Bd fu N s∧RW s es cs rest ow∧Qg fr 0=.ptr 0 K.s 0∧Qg fr 4=.int .i64 l∧Row rest ow .no kp (Qg fr 6)∧σ=hp K' s fu t' es cs ps rest)
theorem Row.newno (hr:Row rest ow o l v) (x:Option Ob):Row (rest++[x]) (fun i=>if i=rest.length then .no else ow i) o l v:=by
 rcases hr with h1 | ⟨j,w,h1,h2,h3⟩
 ·exact .inl h1
 ·have hl:=(List.getElem?_eq_some_iff.1 h2).1
  exact .inr ⟨j,w,h1,by rw [List.getElem?_append_left hl]; exact h2,(if_neg (by omega)).trans h3⟩
theorem Row.setno (hr:Row rest ow o l v) (hj:ow j=.no) (ho:o≠.no) (x:Option Ob):Row (rest.set j x) ow o l v:=by
 rcases hr with h1 | ⟨i,w,h1,h2,h3⟩
 ·exact .inl h1
 ·exact .inr ⟨i,w,h1,by rw [List.getElem?_set_ne (fun e=>ho (by rw [← h3,← e,hj]))]; exact h2,h3⟩
theorem Qgu (l:List Nat) (i:Nat):List.take (l.length - i) (List.drop i (nts l))=nts (l.drop i):=by
 rw [List.take_of_length_le (by rw [List.length_drop,QN]; omega)]
 simp [nts]
theorem QpT (l m:List Nat):nts l++nts m=nts (l++m):=by simp [nts]
theorem drop_at (h:old[i]?=some n):old.drop i=n::old.drop (i+1):=by
 obtain ⟨h1,h2⟩:=List.getElem?_eq_some_iff.1 h
 rw [List.drop_eq_getElem_cons h1,h2]
theorem Qms (hT:Qj P tab) {t:Nat} {K:Vs} {ps:List V} {l:Int} {R:Option (S × Option Nat)} (hold:old.length≤8388608) (hn:old[i]?=some n) {fr:Fr} {σ:H} (hJ:spJ K N fu t ps l old R i fr σ) :
 W P G 93 0 wd fr σ (Y9 (fun fr σ=>∃ fr' σ',Shift G 93 0 fr σ fr' σ'∧spJ K N fu t ps l old R (i+1) fr' σ') (spE K N fu t ps l R)):=by
 obtain ⟨s,kp,K',es,cs,rest,ow,t',ht,hK,hR,hi,hl,hb,hw,f0,f4,f5,f6,f48,f49,f50,rfl⟩:=hJ
 have hil:=(List.getElem?_eq_some_iff.1 hn).1
 rw [drop_at hn] at hR hi
 have hlt:(i:Int)<(old.length:Int):=by omega
 rcases f5 with ⟨h0,_⟩ | ⟨jo,wo,f5,hjo,hoo⟩
 ·rw [h0] at hil; simp at hil
 rw [f5] at f48
 have hD:=QaO hil
 have hnD:old.getD i 0=n:=getD_some hn
 rw [hnD] at hD
 have hwl:∀ x,x≠l→(s.wt x).length≤8388608:=fun x hx=>by
  have:=Qmo hi x
  rw [Qem,if_neg hx] at this
  have h2:=hb.cl
  have:(s.wt x).length≤s.cl.length:=this
  omega
 have hvis:=QjC hi hl
 have hkl:kp.length≤8388608:=by
  have h2:=Qmo hi l
  rw [Qem,if_pos rfl] at h2
  simp only [lA] at h2
  have h3:=hb.cl
  have h4:(s.sub l (kp++n::old.drop (i+1))).cl=s.cl:=rfl
  rw [h4] at h2
  omega
 have e2:=XP hil (by omega)
 generalize hkv:Qg fr 6=kv6 at f6
 have f6e:=hkv
 have f6':=f6
 have f6:=hkv
 rw [← hK] at f0
 refine Qf [(0,.ptr 0 K'.s 0),(4,.int .i64 l),(5,.sl (jo+10) wo 0 1 old.length none),(48,.sl (jo+10) wo 0 1 old.length none),(49,.int .i64 (old.length:Int)),(50,.int .i64 (i:Int)),(6,kv6)] ⟨f0,f4,f5,f48,f49,f50,f6,trivial⟩  1000 ?_
 simp -implicitDefEqProofs (disch:=omega) only [go_sem,↓reduceIte,reduceCtorEq,rq,hlt,hil,hjo,hD]
 refine call hT QaG (Qxp (K:=K') (W0:=kp++n::old.drop (i+1)) hT hi (by simp) hb hw hwl) 1000 fun v σ hv=>?_
 unfold S.pass at hR
 generalize s.visit n l=vis at hv hvis hR
 cases vis with
 | moved s' =>
   obtain ⟨rfl,w2,es2,cs2,rest2,ow2,t2,ht2,hw2,hfm,rfl⟩:=hv
   simp -implicitDefEqProofs (disch:=omega) only [go_sem,↓reduceIte,reduceCtorEq,rA,rq,rTq,e2]
   refine ⟨_,_,Shift.refl _ _ _ _,s',kp,{ K' with t:=w2 },es2,cs2,rest2,ow2,t2,by omega,hK,hR,hvis.1,hvis.2.mem hl,hb.ext hvis.2,hw2,?_,rfl,?_,?_,rfl,rfl,rfl,rfl⟩
   ·rw [← hK]; rfl
   ·exact Row.fm hfm (.inl rfl) (.inr ⟨jo,wo,rfl,hjo,hoo⟩)
   ·exact Row.fm hfm (.inr rfl) f6'
 | kept s' =>
   obtain ⟨rfl,w2,es2,cs2,rest2,ow2,t2,ht2,hw2,hfm,rfl⟩:=hv
   have hrow5:Row rest2 ow2 (.wt l) old (.sl (jo+10) wo 0 1 old.length none):=Row.fm hfm (.inl rfl) (.inr ⟨jo,wo,rfl,hjo,hoo⟩)
   have hrow6:=Row.fm hfm (.inr rfl) f6'
   have hinv:Inv N (s'.sub l ((kp++[n])++old.drop (i+1))):=hvis.1
   rcases hrow6 with ⟨rfl,rfl⟩ | ⟨jk,wk,rfl,hjk,hok⟩
   ·simp -implicitDefEqProofs (disch:=omega) only [go_sem,↓reduceIte,reduceCtorEq,rA,rq,rL,rTq,e2]
    refine ⟨_,_,Shift.refl _ _ _ _,s',[n],{ K' with t:=w2 },es2,cs2,_,_,t2+1,by omega,hK,hR,hinv,hvis.2.mem hl,hb.ext hvis.2,hw2.newno (some (.arr t2 3 (nts [n]))),?_,rfl,hrow5.newno _,?_,rfl,rfl,rfl,rfl⟩
    ·rw [← hK]; rfl
    ·exact .inr ⟨rest2.length,t2,rfl,by simp,if_pos rfl⟩
   ·have hjkl:=(List.getElem?_eq_some_iff.1 hjk).1
    simp -implicitDefEqProofs (disch:=omega) only [go_sem,↓reduceIte,reduceCtorEq,rA,rq,rL,rTq,e2,hjk,Qgt]
    refine ⟨_,_,Shift.refl _ _ _ _,s',kp++[n],{ K' with t:=w2 },es2,cs2,_,_,t2+1,by omega,hK,hR,hinv,hvis.2.mem hl,hb.ext hvis.2,hw2.setno hok (some (.arr t2 3 (nts (kp++[n])))),?_,rfl,hrow5.setno hok (fun e=>by cases e) _,?_,rfl,rfl,rfl,rfl⟩
    ·rw [← hK]; rfl
    ·exact .inr ⟨jk,t2,by rw [lA]; rfl,by rw [List.getElem?_set_self hjkl],hok⟩
 | bad s' =>
   obtain ⟨rfl,w2,es2,cs2,rest2,ow2,t2,ht2,hw2,hfm,rfl⟩:=hv
   have hrow6:=Row.fm hfm (.inr rfl) f6'
   have hjol:=(List.getElem?_eq_some_iff.1 hjo).1
   obtain ⟨hjo2',hoo2⟩:=hfm.wt jo hjol hoo
   have hjo2:=hjo2'.trans hjo
   have hile:i≤old.length:=by omega
   have hdl:(old.drop i).length=old.length - i:=List.length_drop
   rcases hrow6 with ⟨rfl,rfl⟩ | ⟨jk,wk,rfl,hjk,hok⟩
   ·simp -implicitDefEqProofs (disch:=omega) only [go_sem,↓reduceIte,reduceCtorEq,rA,rq,rL,rTq,hjo2,ZA,XJ,hile,Qgu]
    have hnew:=hw2.neww (l:=l) (w:=t2) (x:=old.drop i)
    rw [hdl] at hnew
    have hcan:Can K fu t ps (s'.sub l (old.drop i)) (hp { K' with t:=w2 } s' fu (t2+1) (Qm9 l (.sl (rest2.length+10) t2 0 1 (old.length - i) none) es2) cs2 ps (rest2++[some (.arr t2 3 (nts (old.drop i)))])):=⟨{ K' with t:=w2 },_,_,_,_,t2+1,by omega,hK,hnew,rfl⟩
    exact .inl ⟨rfl,.inr ⟨s'.sub l (old.drop i),n,by rw [← hR,drop_at hn]; rfl,rfl,rfl,hcan⟩⟩
   ·have hjkl:=(List.getElem?_eq_some_iff.1 hjk).1
    simp -implicitDefEqProofs (disch:=omega) only [go_sem,↓reduceIte,reduceCtorEq,rA,rq,rL,rTq,hjo2,hjk,ZA,XJ,hile,Qgu,QpT]
    have hnew:=hw2.setw (l:=l) (j:=jk) (w:=t2) (x:=kp++old.drop i) hjkl (.inr hok)
    rw [lA,hdl] at hnew
    have hcan:Can K fu t ps (s'.sub l (kp++old.drop i)) (hp { K' with t:=w2 } s' fu (t2+1) (Qm9 l (.sl (jk+10) t2 0 1 (kp.length+(old.length - i)) none) es2) cs2 ps (rest2.set jk (some (.arr t2 3 (nts (kp++old.drop i)))))):=⟨{ K' with t:=w2 },_,_,_,_,t2+1,by omega,hK,hnew,rfl⟩
    exact .inl ⟨rfl,.inr ⟨s'.sub l (kp++old.drop i),n,by rw [← hR,drop_at hn],rfl,rfl,hcan⟩⟩
 | out =>
   obtain ⟨rfl,s',w2,es2,cs2,rest2,ow2,t2,ht2,hw2,hfm,rfl⟩:=hv
   have hrow6:=Row.fm hfm (.inr rfl) f6'
   have hjol:=(List.getElem?_eq_some_iff.1 hjo).1
   obtain ⟨hjo2',hoo2⟩:=hfm.wt jo hjol hoo
   have hjo2:=hjo2'.trans hjo
   have hile:i≤old.length:=by omega
   have hdl:(old.drop i).length=old.length - i:=List.length_drop
   rcases hrow6 with ⟨rfl,rfl⟩ | ⟨jk,wk,rfl,hjk,hok⟩
   ·simp -implicitDefEqProofs (disch:=omega) only [go_sem,↓reduceIte,reduceCtorEq,rA,rq,rL,rTq,hjo2,ZA,XJ,hile,Qgu]
    have hnew:=hw2.neww (l:=l) (w:=t2) (x:=old.drop i)
    rw [hdl] at hnew
    have hcan:Can K fu t ps (s'.sub l (old.drop i)) (hp { K' with t:=w2 } s' fu (t2+1) (Qm9 l (.sl (rest2.length+10) t2 0 1 (old.length - i) none) es2) cs2 ps (rest2++[some (.arr t2 3 (nts (old.drop i)))])):=⟨{ K' with t:=w2 },_,_,_,_,t2+1,by omega,hK,hnew,rfl⟩
    exact .inl ⟨rfl,.inl ⟨hR.symm,⟨_,rfl⟩,rfl,_,hcan⟩⟩
   ·have hjkl:=(List.getElem?_eq_some_iff.1 hjk).1
    simp -implicitDefEqProofs (disch:=omega) only [go_sem,↓reduceIte,reduceCtorEq,rA,rq,rL,rTq,hjo2,hjk,ZA,XJ,hile,Qgu,QpT]
    have hnew:=hw2.setw (l:=l) (j:=jk) (w:=t2) (x:=kp++old.drop i) hjkl (.inr hok)
    rw [lA,hdl] at hnew
    have hcan:Can K fu t ps (s'.sub l (kp++old.drop i)) (hp { K' with t:=w2 } s' fu (t2+1) (Qm9 l (.sl (jk+10) t2 0 1 (kp.length+(old.length - i)) none) es2) cs2 ps (rest2.set jk (some (.arr t2 3 (nts (kp++old.drop i)))))):=⟨{ K' with t:=w2 },_,_,_,_,t2+1,by omega,hK,hnew,rfl⟩
    exact .inl ⟨rfl,.inl ⟨hR.symm,⟨_,rfl⟩,rfl,_,hcan⟩⟩
end
section
attribute [local go_sem] nF aZ lR Nat.mul_one zA zL decide_false decide_true Qt Qmi Qd1 Qd0 QdZ QdY QdX QdW Qiy Qmh Qmg Qmf Qme Qmd QgH QgG QgF
abbrev ssoJ (K:Vs) (N fu t:Nat) (ps:List V) (R:Option (S × Option Nat)):Nat→Fr→H→Prop:=fun m fr σ =>
 ∃ s K' es cs rest ow t',s.room<m∧t≤t'∧K'.s=K.s∧S.spreadN m s=R∧Inv N s∧Bd fu N s∧RW s es cs rest ow∧Qg fr 0=.ptr 0 K.s 0∧σ=hp K' s fu t' es cs ps rest
abbrev ssoE (K:Vs) (fu t:Nat) (ps:List V) (R:Option (S × Option Nat)):AE→Fr→H→Prop:=fun e fr σ =>
 (e=.ret∧((R=none∧(∃ n,Qg fr 2=.int .i64 n)∧Qg fr 3=.bool true∧∃ s,Can K fu t ps s σ)∨∃ (s:S) (n:Nat),R=some (s,some n)∧Qg fr 2=.int .i64 (n:Int)∧Qg fr 3=.bool false∧Can K fu t ps s σ)) ∨
 (e=.ex 0∧∃ s,R=some (s,none)∧Can K fu t ps s σ)
variable {m:Nat}
theorem Qpv {s s1:S} {l:Int} (hl:s.tr[s.dn]?=some l) (hp:S.pass (-l) [] (s.wt (-l)) { s with dn:=s.dn+1 }=some (s1,none)) (hm:s.room<m+1):s1.room<m:=by
 have hx:=QiX _ _ _ _ hp
 have b1:=hx.lf
 have b2:=hx.dn
 have b3:=hx.le
 obtain ⟨t,ht⟩:=hx.tr
 have b4:=congrArg List.length ht
 have b5:=(List.getElem?_eq_some_iff.1 hl).1
 simp only [lA] at b1 b2 b3 b4
 unfold S.room at hm ⊢
 omega
theorem Qps (hT:Qj P tab) {N fu t:Nat} {K:Vs} {ps:List V} {R:Option (S × Option Nat)} {fr:Fr} {σ:H} (hJ:ssoJ K N fu t ps R m fr σ) :
 W P G 93 0 (.seq (zg Qmi [12,13,14,15,16,17,18,19,20] (zw 21 .skip (.exit 0))) (.block 1 (.cond (.c (V.bool true)) (zg Qmh [22,23,24,25,26,27,28,29,30,31,32] (zg Qmg [33,34,35,36,37,38,39] (zg Qmf [40,41,42,43,44,45] (zg Qme [46,47] (.seq .skip (.seq (zg Qmd [] (.block 2 (.loop (zg QgH [] (.seq (zw 51 .skip (.exit 2)) (.seq (.block 3 (zg QgG [52,53,54] (zg QgF [56,57,58,59,55,60,61,62] (.seq (.block 4 (zg Qd1 [64] (zw 63 (.exit 3) (zg Qd0 [66,67,68,69] (zw 65 (zg QdZ [70,71,72,73,74,75,76,77,78,79] (zg QdY [80,81] .ret)) .skip))))) (.reg QdX [82,83,84,85]))))) (.reg QdW [86]))))))) (.reg Qiy [87,88,89,90,91,92]))))))) .bad))) fr σ (Y9 (fun fr σ=>∃ m' fr' σ',m'<m∧Shift G 93 0 fr σ fr' σ'∧ssoJ K N fu t ps R m' fr' σ') (ssoE K fu t ps R)):=by
 obtain ⟨s,K',es,cs,rest,ow,t',hrm,ht,hK,hR,hi,hb,hw,f0,rfl⟩:=hJ
 obtain ⟨m,rfl⟩:∃ k,m=k+1:=⟨m - 1,by omega⟩
 rw [← hK] at f0
 unfold S.spreadN at hR
 have htl:=YT hi.tro
 have hbn:=hb.bn
 rcases Nat.lt_or_ge s.dn s.tr.length with hlt | hge
 ·obtain ⟨l,hl⟩:∃ l,s.tr[s.dn]?=some l:=⟨_,List.getElem?_eq_getElem hlt⟩
  rw [hl] at hR
  have hD:=Xb hlt
  have hlD:s.tr.getD s.dn 0=l:=getD_some hl
  rw [hlD] at hD
  have hlN:=(hi.tro.1 l (List.mem_of_getElem? hl)).2
  have hneg:IntKind.i64.wrap (0 - l)=-l:=by
   rw [QdQ (by omega)]; unfold neg; rw [if_neg (by omega)]
  have e2:=XP hlt (by omega)
  have hlt':(s.dn:Int)<(s.tr.length:Int):=by omega
  have h1:=hi.look hlt
  have hb1:Bd fu N { s with dn:=s.dn+1 }:=⟨hb.bn,hb.bf,hb.lf,hb.cl,hb.pf,hb.he⟩
  have hw1:RW { s with dn:=s.dn+1 } es cs rest ow:=⟨hw.len,hw.cl,hw.wt⟩
  have hin:Inv N (({ s with dn:=s.dn+1 }:S).sub (-l) ([]++(s.wt (-l)).drop 0)):=by
   rw [nA,List.drop_zero]; exact (sub_self { s with dn:=s.dn+1 } (-l)).symm▸h1
  have hwl:(s.wt (-l)).length≤8388608:=by have:=Qmo hi (-l); have:=hb.cl; omega
  have hlm:- -l∈s.tr:=by rw [Int.neg_neg]; exact List.mem_of_getElem? hl
  obtain ⟨R1,hR1⟩:∃ R1,S.pass (-l) [] (s.wt (-l)) { s with dn:=s.dn+1 }=R1:=⟨_,rfl⟩
  simp only [hR1] at hR
  have hdone:∀ i,i=(s.wt (-l)).length→∀ fr σ,spJ K N fu t ps (-l) (s.wt (-l)) R1 i fr σ→W P G 93 0 wd fr σ (Y9 (fun _ _=>False) (spE K N fu t ps (-l) R1)):=fun i hi fr σ hJ=>by
   obtain ⟨s2,kp,K2,es2,cs2,rest2,ow2,t2,ht2,hK2,hR2,hi2,hl2,hb2,hw2,f0,f4,f5,f6,f48,f49,f50,rfl⟩:=hJ
   rw [hi,List.drop_length] at hR2 hi2
   rw [List.append_nil] at hi2
   rw [← hK2] at f0
   have hge':¬ ((i:Nat):Int)<((s.wt (-l)).length:Int):=by omega
   generalize hkv:Qg fr 6=kv6 at f6
   have f6':=f6
   have f6:=hkv
   refine Qf [(0,.ptr 0 K2.s 0),(4,.int .i64 (-l)),(49,.int .i64 ((s.wt (-l)).length:Int)),(50,.int .i64 (i:Int)),(6,kv6)] ⟨f0,f4,f49,f50,f6,trivial⟩  1000 ?_
   simp -implicitDefEqProofs (disch:=omega) only [go_sem,↓reduceIte,reduceCtorEq,rq,hp,sc,hge']
   exact .inr ⟨rfl,s2,kp,K2,es2,cs2,rest2,ow2,t2,ht2,hK2,hR2.symm,hi2,hb2,hw2,by rw [← hK2]; rfl,rfl,f6',rfl⟩
  rcases hw.wt (-l) with ⟨hw0,hv⟩ | ⟨jo,wo,hv,hjo,hoo⟩
  ·refine Qf [(0,.ptr 0 K'.s 0)] ⟨f0,trivial⟩  1000 ?_
   simp -implicitDefEqProofs (disch:=omega) only [go_sem,↓reduceIte,reduceCtorEq,rA,rq,rL,Nat.reduceSub,Int.reduceToNat,Int.reduceLE,hp,sc,Qb,Int.toNat_natCast,Qfl,hlt',hlt,hD,hneg,e2,hv,XJ]
   refine XZ (s.wt (-l)) (spJ K N fu t ps (-l) (s.wt (-l)) R1) (spE K N fu t ps (-l) R1) ?_ (fun i n hn fr σ hJ=>Qms hT hwl hn hJ) hdone (fun e fr σ hE=>?_)
   ·exact ⟨{ s with dn:=s.dn+1 },[],K',es,cs,rest,ow,t',ht,hK,by rw [List.drop_zero]; exact hR1,hin,hlm,hb1,hw1,by rw [← hK]; rfl,rfl,.inl ⟨hw0,rfl⟩,.inl ⟨rfl,rfl⟩,rfl,by rw [hw0]; rfl,rfl,rfl⟩
   ·rcases hE with ⟨rfl,⟨rfl,⟨n,f2⟩,f3,hcan⟩ | ⟨s2,n,rfl,f2,f3,hcan⟩⟩ | ⟨rfl,s2,kp,K2,es2,cs2,rest2,ow2,t2,ht2,hK2,rfl,hi2,hb2,hw2,f0,f4,f6,rfl⟩
    ·refine Qc 1000 ?_
     simp -implicitDefEqProofs (disch:=omega) only [go_sem]
     exact .inl ⟨rfl,.inl ⟨hR.symm,⟨n,f2⟩,f3,hcan⟩⟩
    ·refine Qc 1000 ?_
     simp -implicitDefEqProofs (disch:=omega) only [go_sem]
     exact .inl ⟨rfl,.inr ⟨s2,n,hR.symm,f2,f3,hcan⟩⟩
    ·have hst:=Qpv hl hR1 hrm
     rw [← hK2] at f0
     rcases f6 with ⟨rfl,f6⟩ | ⟨jk,wk,f6,hjk,hok⟩
     ·refine QQ [(0,.ptr 0 K2.s 0),(4,.int .i64 (-l)),(6,.lst 0 [] true)] ⟨f0,f4,f6,trivial⟩  1000 ?_
      simp -implicitDefEqProofs (disch:=omega) only [go_sem,↓reduceIte,reduceCtorEq,rA,rq,rL,hp,sc,ZA,XJ]
      exact ⟨m,_,_,Nat.lt_succ_self _,Shift.refl _ _ _ _,s2.sub (-l) [],K2,_,cs2,rest2,ow2,t2,hst,ht2,hK2,hR,hi2,⟨hb2.bn,hb2.bf,hb2.lf,hb2.cl,hb2.pf,hb2.he⟩,hw2.nil (-l),by rw [← hK2]; rfl,rfl⟩
     ·refine QQ [(0,.ptr 0 K2.s 0),(4,.int .i64 (-l)),(6,.sl (jk+10) wk 0 1 kp.length none)] ⟨f0,f4,f6,trivial⟩  1000 ?_
      simp -implicitDefEqProofs (disch:=omega) only [go_sem,↓reduceIte,reduceCtorEq,rA,rq,rL,hp,sc,ZA,XJ]
      have hjkl:=(List.getElem?_eq_some_iff.1 hjk).1
      have hnew:=hw2.setw (l:=-l) (j:=jk) (w:=wk) (x:=kp) hjkl (.inr hok)
      rw [set_self hjk] at hnew
      exact ⟨m,_,_,Nat.lt_succ_self _,Shift.refl _ _ _ _,s2.sub (-l) kp,K2,_,cs2,rest2,_,t2,hst,ht2,hK2,hR,hi2,⟨hb2.bn,hb2.bf,hb2.lf,hb2.cl,hb2.pf,hb2.he⟩,hnew,by rw [← hK2]; rfl,rfl⟩
  ·refine Qf [(0,.ptr 0 K'.s 0)] ⟨f0,trivial⟩  1000 ?_
   simp -implicitDefEqProofs (disch:=omega) only [go_sem,↓reduceIte,reduceCtorEq,rA,rq,rL,rTq,Nat.reduceSub,Int.reduceToNat,Int.reduceLE,hp,sc,Qb,Int.toNat_natCast,Qfl,hlt',hlt,hD,hneg,e2,hv,XJ]
   refine Ql0 (Shift.slot (s:=6) (u:=.lst 0 [] true) fun I ρ x h=>VR.tight h) ?_
   refine XZ (s.wt (-l)) (spJ K N fu t ps (-l) (s.wt (-l)) R1) (spE K N fu t ps (-l) R1) ?_ (fun i n hn fr σ hJ=>Qms hT hwl hn hJ) hdone (fun e fr σ hE=>?_)
   ·exact ⟨{ s with dn:=s.dn+1 },[],K',es,cs,rest,ow,t',ht,hK,by rw [List.drop_zero]; exact hR1,hin,hlm,hb1,hw1,by rw [← hK]; rfl,rfl,.inr ⟨jo,wo,rfl,hjo,hoo⟩,.inl ⟨rfl,rfl⟩,rfl,rfl,rfl,rfl⟩
   ·rcases hE with ⟨rfl,⟨rfl,⟨n,f2⟩,f3,hcan⟩ | ⟨s2,n,rfl,f2,f3,hcan⟩⟩ | ⟨rfl,s2,kp,K2,es2,cs2,rest2,ow2,t2,ht2,hK2,rfl,hi2,hb2,hw2,f0,f4,f6,rfl⟩
    ·refine Qc 1000 ?_
     simp -implicitDefEqProofs (disch:=omega) only [go_sem]
     exact .inl ⟨rfl,.inl ⟨hR.symm,⟨n,f2⟩,f3,hcan⟩⟩
    ·refine Qc 1000 ?_
     simp -implicitDefEqProofs (disch:=omega) only [go_sem]
     exact .inl ⟨rfl,.inr ⟨s2,n,hR.symm,f2,f3,hcan⟩⟩
    ·have hst:=Qpv hl hR1 hrm
     rw [← hK2] at f0
     rcases f6 with ⟨rfl,f6⟩ | ⟨jk,wk,f6,hjk,hok⟩
     ·refine QQ [(0,.ptr 0 K2.s 0),(4,.int .i64 (-l)),(6,.lst 0 [] true)] ⟨f0,f4,f6,trivial⟩  1000 ?_
      simp -implicitDefEqProofs (disch:=omega) only [go_sem,↓reduceIte,reduceCtorEq,rA,rq,rL,hp,sc,ZA,XJ]
      exact ⟨m,_,_,Nat.lt_succ_self _,Shift.refl _ _ _ _,s2.sub (-l) [],K2,_,cs2,rest2,ow2,t2,hst,ht2,hK2,hR,hi2,⟨hb2.bn,hb2.bf,hb2.lf,hb2.cl,hb2.pf,hb2.he⟩,hw2.nil (-l),by rw [← hK2]; rfl,rfl⟩
     ·refine QQ [(0,.ptr 0 K2.s 0),(4,.int .i64 (-l)),(6,.sl (jk+10) wk 0 1 kp.length none)] ⟨f0,f4,f6,trivial⟩  1000 ?_
      simp -implicitDefEqProofs (disch:=omega) only [go_sem,↓reduceIte,reduceCtorEq,rA,rq,rL,hp,sc,ZA,XJ]
      have hjkl:=(List.getElem?_eq_some_iff.1 hjk).1
      have hnew:=hw2.setw (l:=-l) (j:=jk) (w:=wk) (x:=kp) hjkl (.inr hok)
      rw [set_self hjk] at hnew
      exact ⟨m,_,_,Nat.lt_succ_self _,Shift.refl _ _ _ _,s2.sub (-l) kp,K2,_,cs2,rest2,_,t2,hst,ht2,hK2,hR,hi2,⟨hb2.bn,hb2.bf,hb2.lf,hb2.cl,hb2.pf,hb2.he⟩,hnew,by rw [← hK2]; rfl,rfl⟩
 ·have hnone:s.tr[s.dn]?=none:=List.getElem?_eq_none hge
  rw [hnone] at hR
  have hge':¬ (s.dn:Int)<(s.tr.length:Int):=by omega
  refine Qf [(0,.ptr 0 K'.s 0)] ⟨f0,trivial⟩  1000 ?_
  simp -implicitDefEqProofs (disch:=omega) only [go_sem,↓reduceIte,reduceCtorEq,rA,rq,rL,hp,sc,hge']
  exact .inr ⟨rfl,s,hR.symm,K',es,cs,rest,ow,t',ht,hK,hw,rfl⟩
end
end Go.Proofs.Ytingdebioipemaa
namespace Go.Am
open Go
variable {G:Nat→Option V}
theorem HShift.trim {base k v T:Nat} {cs:List V} {t:Nat} {o:List (Option Ob)} (hbase:base≤k) (ho:o[k]?=some (some (.arr v T cs))) (n:Nat):HShift G base ⟨t,o⟩ ⟨t,o.set k (some (.arr v T (cs.take n)))⟩:=fun I ρ w R hb=>by
 have hob:ObR I ρ w k (.arr v T (cs.take n)):=by
  rcases R.objs k _ ho with ⟨h1,h2⟩ | ⟨b,o',e,c,lo,hi,h1,h2,h3,h4,h5,h6⟩
  ·exact .inl ⟨h1,by rw [h2]; simp⟩
  ·refine .inr ⟨b,o',e,c,lo,hi,h1,h2,by simp; omega,h4,h5,fun j u hj=>h6 j u ?_⟩
   rw [List.getElem?_take] at hj
   split at hj
   ·exact hj
   ·cases hj
 obtain ⟨h1,h2⟩:=R.reseen hbase ho hob
 exact ⟨I,ρ,h1,h2,by simpa using hb⟩
end Go.Am
namespace Go.Proofs.Ytingdebioipemaa
open Go Go.Am Go.Cl Go.Sat
set_option maxRecDepth 100000
variable {P:Program} {G:Nat→Option V}
section
attribute [local go_sem] nF aZ lR Nat.mul_one zA zL decide_false decide_true ge_iff_le Qt Yv Qtf Qte Qtd Qtc Qtb Qta Qs9 Qs8 Qs7 XQ QtQ Qmi Qd1 Qd0 QdZ QdY QdX QdW Qiy Qos Qmh Qmg Qmf Qme Qmd QgH QgG QgF
def SprQ (K:Vs) (fu t:Nat) (ps:List V):Option (S × Option Nat)→V→H→Prop
 | none,v,σ=>(∃ n,v=.tup [.int .i64 n,.bool true])∧∃ s,Can K fu t ps s σ
 | some (s,none),v,σ=>v=.tup [.int .i64 (-1),.bool false]∧Can K fu t ps s σ
 | some (s,some n),v,σ=>v=.tup [.int .i64 (n:Int),.bool false]∧Can K fu t ps s σ
variable {ow:Nat→Own} {rest:List (Option Ob)} {cs ps:List V} {es:List (Int × V)} {s:S} {K:Vs} {N fu t:Nat}
theorem Qss (hT:Qj P tab) (hi:Inv N s) (hb:Bd fu N s) (hw:RW s es cs rest ow) :
 C P G 0 Qao [.ptr 0 K.s 0] (hp K s fu t es cs ps rest) fun v σ=>SprQ K fu t ps s.spread v σ:=by
 refine QF hT Qaj (by simp [XQ]) (Qx 1000 ?_)
 simp -implicitDefEqProofs (disch:=omega) only [go_sem,↓reduceIte,reduceCtorEq,rq]
 refine QC (ssoJ K N fu t ps s.spread) (ssoE K fu t ps s.spread) (m0:=s.room+1) ⟨s,K,es,cs,rest,ow,t,Nat.lt_succ_self _,lR _,rfl,rfl,hi,hb,hw,rfl,rfl⟩ (fun m fr σ hJ=>Qps hT hJ) (fun e fr σ hE=>?_)
 rcases hE with ⟨rfl,⟨hR,⟨n,f2⟩,f3,hcan⟩ | ⟨s2,n,hR,f2,f3,hcan⟩⟩ | ⟨rfl,s2,hR,hcan⟩
 ·refine Qc 1000 ?_
  simp -implicitDefEqProofs (disch:=omega) only [go_sem,f2,f3]
  rw [hR]; exact ⟨⟨n,rfl⟩,hcan⟩
 ·refine Qc 1000 ?_
  simp -implicitDefEqProofs (disch:=omega) only [go_sem,f2,f3]
  rw [hR]; exact ⟨rfl,hcan⟩
 ·refine Qc 1000 ?_
  simp -implicitDefEqProofs (disch:=omega) only [go_sem,↓reduceIte,rq]
  rw [hR]; exact ⟨rfl,hcan⟩
abbrev bkJ (K:Vs) (s:S) (fu t level m:Nat) (es:List (Int × V)) (cs ps:List V) (rest:List (Option Ob)):Nat→Fr→H→Prop:=fun i fr σ=>Qg fr 0=.ptr 0 K.s 0∧Qg fr 1=.int .i64 (level:Int)∧Qg fr 24=.sl 6 K.t m 1 (s.tr.length - m) none∧Qg fr 25=.int .i64 ((s.tr.length - m:Nat):Int)∧Qg fr 26=.int .i64 (i:Int)∧σ=hp K { s with va:=zeros s.va ((s.tr.drop m).take i) } fu t es cs ps rest
abbrev bkE (K:Vs) (s:S) (fu t level m:Nat) (es:List (Int × V)) (cs ps:List V) (rest:List (Option Ob)):AE→Fr→H→Prop:=fun e fr σ=>e=.ex 0∧Qg fr 0=.ptr 0 K.s 0∧Qg fr 1=.int .i64 (level:Int)∧σ=hp K { s with va:=zeros s.va (s.tr.drop m) } fu t es cs ps rest
theorem Qm6 (va l:List Int) (a:Int):zeros va (l++[a])=(zeros va l).set a.natAbs 0:=by simp [zeros]
theorem Qxr (hT:Qj P tab) {level m:Nat} (hi:Inv N s) (hbn:1≤N∧N≤1000) (hw:RW s es cs rest ow) (hm:s.ms[level]?=some m) (hml:m<s.tr.length) :
 C P G 0 Qbr [.ptr 0 K.s 0,.int .i64 (level:Int)] (hp K s fu t es cs ps rest) fun _ σ=>σ=hp K (s.back level) fu t es cs ps rest:=by
 have hlv:=(List.getElem?_eq_some_iff.1 hm).1
 have htl:=YT hi.tro
 have hmD:(nts s.ms).getD level V.any=.int .i64 (m:Int):=by rw [QaO hlv,getD_some hm]
 have g1:¬ (s.ms.length:Int)≤(level:Int):=by omega
 have hle:m≤s.tr.length:=by omega
 refine Qm3 (Q:=fun _ σ=>σ=⟨t,[some (.arr K.s 82 (sc K (s.back level) fu cs.length ps.length)),some (.map K.m (kv es)),some (.arr K.v 86 (i8s (s.back level).va)),some (.arr K.l 3 (nts s.lv)),some (.arr K.r 3 (ints s.re)),some (.arr K.h 3 (nts s.he)),some (.arr K.t 3 (ints s.tr)),some (.arr K.k 3 (nts s.ms)),some (.arr K.c 25 cs),some (.arr K.p 25 ps)]++rest⟩) ?_ fun v σ hσ=>?_
 ·refine QF hT Qbl (by simp [Yv]) (Qx 1000 ?_)
  simp -implicitDefEqProofs (disch:=omega) only [go_sem,↓reduceIte,reduceCtorEq,rA,rq,rL,hp,sc,QN,Int.toNat_natCast,g1,hlv,hmD,hle,hml]
  refine XZ (s.tr.drop m) (bkJ K s fu t level m es cs ps rest) (bkE K s fu t level m es cs ps rest) ⟨rfl,rfl,rfl,rfl,rfl,rfl⟩ (fun i a ha fr σ hJ=>?_) (fun i hi2 fr σ hJ=>?_) (fun e fr σ hE=>?_)
  ·skip
   obtain ⟨f0,f1,f24,f25,f26,rfl⟩:=hJ
   rw [List.getElem?_drop] at ha
   have hil:=(List.getElem?_eq_some_iff.1 ha).1
   have hlt:(i:Int)<((s.tr.length - m:Nat):Int):=by omega
   have hlt':i<s.tr.length - m:=by omega
   have hD:(ints s.tr).getD (m+i) V.any=.int .i64 a:=Yx ha
   have haN:=(hi.tro.1 a (List.mem_of_getElem? ha)).2
   have e2:=XP (i:=i) (n:=s.tr.length) (by omega) (by omega)
   have hzl:(zeros s.va ((s.tr.drop m).take i)).length=s.va.length:=zeros_length _ _
   have haz:a.natAbs<(zeros s.va ((s.tr.drop m).take i)).length:=by rw [hzl,hi.nva]; exact haN
   have hnext:(zeros s.va ((s.tr.drop m).take i)).set a.natAbs 0=zeros s.va ((s.tr.drop m).take (i+1)):=by
    rw [Qo (x:=a) (by rw [List.getElem?_drop]; exact ha),Qm6]
   refine Qf [(0,.ptr 0 K.s 0),(1,.int .i64 (level:Int)),(24,.sl 6 K.t m 1 (s.tr.length - m) none),(25,.int .i64 ((s.tr.length - m:Nat):Int)),(26,.int .i64 (i:Int))] ⟨f0,f1,f24,f25,f26,trivial⟩  1000 ?_
   simp -implicitDefEqProofs (disch:=omega) only [go_sem,↓reduceIte,reduceCtorEq,rA,rq,rL,hp,sc,Qb,Int.toNat_natCast,hlt,hlt',hD]
   refine Qi hT X4 (QlL hT (n:=a) (by omega)) rfl 1000 ?_
   simp -implicitDefEqProofs (disch:=omega) only [go_sem,↓reduceIte,reduceCtorEq,rq,Yf,Int.toNat_natCast,haz,Qlp,e2,hnext]
   exact ⟨_,_,Shift.refl _ _ _ _,rfl,rfl,rfl,rfl,rfl,by simp [hp,sc,zeros_length]⟩
  ·obtain ⟨f0,f1,f24,f25,f26,rfl⟩:=hJ
   have hge:¬ (i:Int)<((s.tr.length - m:Nat):Int):=by rw [List.length_drop] at hi2; omega
   have hall:(s.tr.drop m).take i=s.tr.drop m:=List.take_of_length_le (by omega)
   rw [hall]
   refine Qf [(0,.ptr 0 K.s 0),(1,.int .i64 (level:Int)),(24,.sl 6 K.t m 1 (s.tr.length - m) none),(25,.int .i64 ((s.tr.length - m:Nat):Int)),(26,.int .i64 (i:Int))] ⟨f0,f1,f24,f25,f26,trivial⟩  1000 ?_
   simp -implicitDefEqProofs (disch:=omega) only [go_sem,↓reduceIte,reduceCtorEq,rq,hge]
   exact ⟨rfl,rfl,rfl,rfl⟩
  ·obtain ⟨rfl,f0,f1,rfl⟩:=hE
   refine QQ [(0,.ptr 0 K.s 0),(1,.int .i64 (level:Int))] ⟨f0,f1,trivial⟩  1000 ?_
   simp -implicitDefEqProofs (disch:=omega) only [go_sem,↓reduceIte,reduceCtorEq,rA,rq,rL,hp,sc,QN,Int.toNat_natCast,hlv,hmD,hle]
   have e1:(s.tr.take m).length=m:=by rw [List.length_take]; omega
   have e2:(s.ms.take level).length=level:=by rw [List.length_take]; omega
   rw [S.back_of hm]
   simp only [e1,e2,Nat.sub_zero]
 ·have h1:HShift G 0 σ _:=hσ▸HShift.trim (k:=6) (zL _) rfl m
  refine ⟨_,h1.trans (HShift.trim (k:=7) (zL _) rfl level),?_⟩
  rw [S.back_of hm]
  simp [hp,ints,nts,List.map_take]
end
end Go.Proofs.Ytingdebioipemaa
