/- The solver's rows: who watches; a clause is added. -/
import Derived.Test.YtingdebioipemaaJ9
namespace Go.Proofs.Ytingdebioipemaa
open Go Go.Am Go.Cl Go.Sat
set_option maxRecDepth 100000
variable {P:Program} {G:Nat→Option V}
inductive Own where
 | no
 | cl (m:Nat)
 | wt (l:Int)
structure RW (s:S) (es:List (Int × V)) (cs:List V) (rest:List (Option Ob)) (ow:Nat→Own):Prop where
 len:cs.length=s.cl.length
 cl:∀ (m:Nat) (c:List Int),s.cl[m]?=some c→∃ j w,cs[m]?=some (.sl (j+10) w 0 1 c.length none)∧rest[j]?=some (some (.arr w 3 (ints c)))∧ow j=.cl m
 wt:∀ l,(s.wt l=[]∧vAt es l=.lst 0 [] true)∨∃ j w,vAt es l=.sl (j+10) w 0 1 (s.wt l).length none∧rest[j]?=some (some (.arr w 3 (nts (s.wt l))))∧ow j=.wt l
variable {ow:Nat→Own} {rest:List (Option Ob)} {cs:List V} {es:List (Int × V)} {s:S}
theorem RW.app {ex:List (Option Ob)} (h:RW s es cs rest ow):RW s es cs (rest++ex) ow:=by
 have hg:∀ {j:Nat} {x:Option Ob},rest[j]?=some x→(rest++ex)[j]?=some x:=fun {j x} hj=>by
  rw [List.getElem?_append_left (List.getElem?_eq_some_iff.1 hj).1]; exact hj
 refine ⟨h.len,fun m c hc=>?_,fun l=>(h.wt l).imp id fun ⟨j,w,h1,h2,h3⟩=>⟨j,w,h1,hg h2,h3⟩⟩
 obtain ⟨j,w,h1,h2,h3⟩:=h.cl m c hc
 exact ⟨j,w,h1,hg h2,h3⟩
variable {x:List Nat} {j w:Nat} {l:Int}
theorem RW.setw (h:RW s es cs rest ow) (hj:j<rest.length) (ho:ow j=.wt l∨ow j=.no) :
 RW (s.sub l x) (Qm9 l (.sl (j+10) w 0 1 x.length none) es) cs (rest.set j (some (.arr w 3 (nts x)))) fun i=>if i=j then .wt l else ow i:=by
 refine ⟨h.len,fun m c hc=>?_,fun y=>?_⟩
 ·obtain ⟨i,u,h1,h2,h3⟩:=h.cl m c hc
  have hij:i≠j:=fun e=>by subst e; rw [h3] at ho; rcases ho with ho | ho <;> cases ho
  exact ⟨i,u,h1,by rw [List.getElem?_set_ne (Ne.symm hij)]; exact h2,by show (if i=j then _ else _)=_; rw [if_neg hij]; exact h3⟩
 ·rw [QiS,Qem]
  by_cases e:y=l
  ·subst e
   rw [if_pos rfl,if_pos rfl]
   exact .inr ⟨j,w,rfl,by rw [List.getElem?_set_self hj],by show (if j=j then _ else _)=_; rw [if_pos rfl]⟩
  ·rw [if_neg e,if_neg e]
   refine (h.wt y).imp id fun ⟨i,u,h1,h2,h3⟩=>?_
   have hij:i≠j:=fun q=>by
    subst q; rw [h3] at ho
    rcases ho with ho | ho
    ·cases ho; exact e rfl
    ·cases ho
   exact ⟨i,u,h1,by rw [List.getElem?_set_ne (Ne.symm hij)]; exact h2,by show (if i=j then _ else _)=_; rw [if_neg hij]; exact h3⟩
theorem RW.neww (h:RW s es cs rest ow) :
 RW (s.sub l x) (Qm9 l (.sl (rest.length+10) w 0 1 x.length none) es) cs (rest++[some (.arr w 3 (nts x))]) fun i=>if i=rest.length then .wt l else ow i:=by
 have hlt:∀ {j:Nat} {x:Option Ob},rest[j]?=some x→j<rest.length:=fun {j x} hj=>(List.getElem?_eq_some_iff.1 hj).1
 have hg:∀ {j:Nat} {x y:Option Ob},rest[j]?=some x→(rest++[y])[j]?=some x:=fun {j x y} hj=>by
  rw [List.getElem?_append_left (hlt hj)]; exact hj
 refine ⟨h.len,fun m c hc=>?_,fun y=>?_⟩
 ·obtain ⟨i,u,h1,h2,h3⟩:=h.cl m c hc
  exact ⟨i,u,h1,hg h2,by show (if i=_ then _ else _)=_; rw [if_neg (by have:=hlt h2; omega)]; exact h3⟩
 ·rw [QiS,Qem]
  by_cases e:y=l
  ·subst e
   rw [if_pos rfl,if_pos rfl]
   exact .inr ⟨rest.length,w,rfl,by simp,by show (if _=_ then _ else _)=_; rw [if_pos rfl]⟩
  ·rw [if_neg e,if_neg e]
   refine (h.wt y).imp id fun ⟨i,u,h1,h2,h3⟩=>?_
   exact ⟨i,u,h1,hg h2,by show (if i=_ then _ else _)=_; rw [if_neg (by have:=hlt h2; omega)]; exact h3⟩
theorem RW.nil (h:RW s es cs rest ow) (l:Int):RW (s.sub l []) (Qm9 l (.lst 0 [] true) es) cs rest ow:=by
 refine ⟨h.len,h.cl,fun y=>?_⟩
 rw [QiS,Qem]
 by_cases e:y=l
 ·subst e
  rw [if_pos rfl,if_pos rfl]; exact .inl ⟨rfl,rfl⟩
 ·rw [if_neg e,if_neg e]; exact h.wt y
variable {c:List Int}
theorem RW.addc (h:RW s es cs rest ow) (hj:rest[j]?=some (some (.arr w 3 (ints c)))) (ho:ow j=.no) :
 RW { s with cl:=s.cl++[c] } es (cs++[.sl (j+10) w 0 1 c.length none]) rest fun i=>if i=j then .cl s.cl.length else ow i:=by
 have hne:∀ {i:Nat},ow i≠.no→i≠j:=fun {i} hi e=>hi (e▸ho)
 refine ⟨by simp [h.len],fun m d hd=>?_,fun l=>(h.wt l).imp id fun ⟨i,u,h1,h2,h3⟩=>⟨i,u,h1,h2,by show (if i=_ then _ else _)=_; rw [if_neg (hne (by rw [h3]; exact fun e=>by cases e))]; exact h3⟩⟩
 replace hd:(s.cl++[c])[m]?=some d:=hd
 rw [List.getElem?_append] at hd
 split at hd
 ·rename_i hm
  obtain ⟨i,u,h1,h2,h3⟩:=h.cl m d hd
  exact ⟨i,u,by rw [List.getElem?_append_left (by rw [h.len]; exact hm)]; exact h1,h2,by show (if i=_ then _ else _)=_; rw [if_neg (hne (by rw [h3]; exact fun e=>by cases e))]; exact h3⟩
 ·have hm0:m - s.cl.length=0:=by
   rcases Nat.eq_zero_or_pos (m - s.cl.length) with q | q
   ·exact q
   ·rw [List.getElem?_eq_none (by simp; omega)] at hd; cases hd
  rw [hm0] at hd
  simp at hd
  subst hd
  have hm:m=s.cl.length:=by omega
  subst hm
  exact ⟨j,w,by rw [← h.len]; simp,hj,by show (if j=j then _ else _)=_; rw [if_pos rfl]⟩
theorem RW.putc (h:RW s es cs rest ow) {n:Nat} {d:List Int} (hc:s.cl[n]?=some c) (hd:d.length=c.length) (h1:cs[n]?=some (.sl (j+10) w 0 1 c.length none)) (h2:rest[j]?=some (some (.arr w 3 (ints c)))) (h3:ow j=.cl n) :
 RW (s.put n d) es cs (rest.set j (some (.arr w 3 (ints d)))) ow:=by
 have hjl:=(List.getElem?_eq_some_iff.1 h2).1
 refine ⟨by simp [S.put,h.len],fun m x hx=>?_,fun l=>(h.wt l).imp id fun ⟨i,u,k1,k2,k3⟩=>⟨i,u,k1,by rw [List.getElem?_set_ne (fun e=>by rw [← e,h3] at k3; cases k3)]; exact k2,k3⟩⟩
 replace hx:(s.cl.set n d)[m]?=some x:=hx
 rw [List.getElem?_set] at hx
 by_cases e:n=m
 ·subst e
  rw [if_pos rfl,if_pos (List.getElem?_eq_some_iff.1 hc).1] at hx
  cases hx
  exact ⟨j,w,by rw [hd]; exact h1,by rw [List.getElem?_set_self hjl],h3⟩
 ·rw [if_neg e] at hx
  obtain ⟨i,u,k1,k2,k3⟩:=h.cl m x hx
  exact ⟨i,u,k1,by rw [List.getElem?_set_ne (fun q=>e (by rw [← q,h3] at k3; cases k3; rfl))]; exact k2,k3⟩
section
attribute [local go_sem] Bool.not_false Bool.not_true Nat.add_zero Nat.le_refl Nat.mul_one Nat.one_mul Nat.zero_add Nat.zero_le decide_false decide_true Qt YK Qt8 Qt7 Qt6 Qt5 Qow Qov Qou Qot Qt4
theorem Qgv:∀ {n:Nat} {l:List Nat},l.Nodup→(∀ x∈l,x<n)→l.length≤n
 | 0,[],_,_=>by simp
 | 0,x::l,_,h=>by have:=h x (by simp); omega
 | n+1,l,h,hl=>by
   have h1:(l.erase n).length≤n:=Qgv (h.erase n) fun x hx=>by
    have:=hl x (List.mem_of_mem_erase hx)
    have:x≠n:=fun e=>by subst e; exact (List.Nodup.mem_erase_iff h).1 hx |>.1 rfl
    omega
   have h2:=List.length_erase (a:=n) (l:=l)
   split at h2 <;> omega
variable {s:S} {N i fu t j w:Nat}
theorem Qmo (h:Inv N s) (l:Int):(s.wt l).length≤s.cl.length:=Qgv (h.wat l).1 fun m hm=>(((h.wat l).2 m).1 hm).lt
def QnS (s:S) (c:List Int):Nat→S
 | 0=>{ s with cl:=s.cl++[c] }
 | 1=>({ s with cl:=s.cl++[c] }:S).push (c.getD 0 0) s.cl.length
 | _=>s.add c
variable {c:List Int}
theorem QkB (hi:i<2):QnS s c (i+1)=(QnS s c i).push (c.getD i 0) s.cl.length:=by
 match i,hi with
 | 0,_=>rfl
 | 1,_=>rfl
theorem QxJ (h:c.getD 0 0≠c.getD 1 0) (hi:i<2):(QnS s c i).wt (c.getD i 0)=s.wt (c.getD i 0):=by
 match i,hi with
 | 0,_=>rfl
 | 1,_=>show (if c.getD 1 0=c.getD 0 0 then _ else s.wt _)=_; rw [if_neg (Ne.symm h)]
variable {rest:List (Option Ob)} {cs ps:List V} {es:List (Int × V)} {K:Vs}
theorem hp_wt {s':S} (h1:s'.va=s.va) (h2:s'.lv=s.lv) (h3:s'.re=s.re) (h4:s'.he=s.he) (h5:s'.tr=s.tr) (h6:s'.dn=s.dn) (h7:s'.ms=s.ms) (h8:s'.lf=s.lf):hp K s' fu t es cs ps rest=hp K s fu t es cs ps rest:=by
 unfold hp sc; rw [h1,h2,h3,h4,h5,h6,h7,h8]
abbrev adJ (K:Vs) (s:S) (c:List Int) (fu t j w:Nat) (cs ps:List V):Nat→Fr→H→Prop:=fun i fr σ=>∃ es rest ow t',t≤t'∧RW (QnS s c i) es cs rest ow∧rest[j]?=some (some (.arr w 3 (ints c)))∧ow j=.cl s.cl.length ∧
 Qg fr 0=.ptr 0 K.s 0∧Qg fr 5=.int .i64 (s.cl.length:Int)∧Qg fr 24=.sl (j+10) w 0 1 2 none∧Qg fr 25=.int .i64 2∧Qg fr 26=.int .i64 (i:Int)∧σ=hp K s fu t' es cs ps rest
abbrev adE (K:Vs) (s:S) (c:List Int) (fu t j w:Nat) (cs ps:List V):AE→Fr→H→Prop:=fun e fr σ=>e=.ex 0∧∃ es rest ow t',t≤t'∧RW (QnS s c 2) es cs rest ow∧rest[j]?=some (some (.arr w 3 (ints c)))∧Qg fr 5=.int .i64 (s.cl.length:Int)∧σ=hp K s fu t' es cs ps rest
theorem QqZ (hT:Qj P tab) (hi:Inv N s) (hb:Bd fu N s) (hc:2≤c.length∧Okc N c) (h2:i<2) {fr:Fr} {σ:H} (hJ:adJ K s c fu t j w cs ps i fr σ) :
 W P G 46 0 (zg Qow [] (.seq (zw 27 .skip (.exit 0)) (.seq (.block 1 (zg Qov [28,29] (.reg Qou [30,31,32,33,34,35,36,37,38,39,40,41,42,43]))) (.reg Qot [44])))) fr σ (Y9 (fun fr σ=>∃ fr' σ',Shift G 46 0 fr σ fr' σ'∧adJ K s c fu t j w cs ps (i+1) fr' σ') (adE K s c fu t j w cs ps)):=by
 obtain ⟨es,rest,ow,t',ht,hw,hj,ho,f0,f5,f24,f25,f26,rfl⟩:=hJ
 have hil:i<c.length:=by omega
 have hD:=Xb hil
 have e2:=XP (i:=i) (n:=2) h2 (by omega)
 have h0:c[0]?=some (c.getD 0 0):=Xt (by omega)
 have h1:c[1]?=some (c.getD 1 0):=Xt (by omega)
 have hne:c.getD 0 0≠c.getD 1 0:=fun e=>by have:=QbY hc.2.nodup (e▸h0) h1; omega
 have hwl:((QnS s c i).wt (c.getD i 0)).length≤8388608:=by
  rw [QxJ hne h2]; have:=Qmo hi (c.getD i 0); have:=hb.cl; omega
 have hlt:(i:Int)<2:=by omega
 generalize hx:c.getD i 0=x at *
 rcases hw.wt x with ⟨hw0,hv⟩ | ⟨j',w',hv,hj',ho'⟩
 ·refine Qf [(0,.ptr 0 K.s 0),(5,.int .i64 (s.cl.length:Int)),(24,.sl (j+10) w 0 1 2 none),(25,.int .i64 2),(26,.int .i64 (i:Int))] ⟨f0,f5,f24,f25,f26,trivial⟩  1000 ?_
  simp -implicitDefEqProofs (disch:=omega) only [go_sem,↓reduceIte,reduceCtorEq,Nat.reduceAdd,Nat.reduceEqDiff,Nat.reduceLeDiff,Nat.reduceLT,hp,sc,Qfl,ZA,XJ,Qb,Int.toNat_natCast,hlt,hj,hD,e2,hv]
  have hnew:=hw.neww (l:=x) (w:=t') (x:=[s.cl.length])
  rw [show (QnS s c i).sub x [s.cl.length]=QnS s c (i+1) by rw [QkB h2,hx]; unfold S.push; rw [hw0]; rfl] at hnew
  have hjl:=(List.getElem?_eq_some_iff.1 hj).1
  exact ⟨_,_,Shift.refl _ _ _ _,_,_,_,t'+1,by omega,hnew,by rw [List.getElem?_append_left hjl]; exact hj,by show (if j=_ then _ else _)=_; rw [if_neg (by omega)]; exact ho,rfl,rfl,rfl,rfl,rfl,rfl⟩
 ·have hjl':=(List.getElem?_eq_some_iff.1 hj').1
  have hjj:j≠j':=fun e=>by rw [← e,ho] at ho'; cases ho'
  refine Qf [(0,.ptr 0 K.s 0),(5,.int .i64 (s.cl.length:Int)),(24,.sl (j+10) w 0 1 2 none),(25,.int .i64 2),(26,.int .i64 (i:Int))] ⟨f0,f5,f24,f25,f26,trivial⟩  1000 ?_
  simp -implicitDefEqProofs (disch:=omega) only [go_sem,↓reduceIte,reduceCtorEq,Nat.reduceAdd,Nat.reduceEqDiff,Nat.reduceLeDiff,hp,sc,Qfl,ZA,XJ,Qb,QN,Int.toNat_natCast,hlt,hj,hD,e2,hv,hj',Qgt]
  have hnew:=hw.setw (l:=x) (j:=j') (w:=t') (x:=(QnS s c i).wt x++[s.cl.length]) hjl' (.inl ho')
  rw [show (QnS s c i).sub x ((QnS s c i).wt x++[s.cl.length])=QnS s c (i+1) by rw [QkB h2,hx]; rfl,List.length_append] at hnew
  exact ⟨_,_,Shift.refl _ _ _ _,_,_,_,t'+1,by omega,hnew,by rw [List.getElem?_set_ne (Ne.symm hjj)]; exact hj,by show (if j=_ then _ else _)=_; rw [if_neg hjj]; exact ho,rfl,rfl,rfl,rfl,rfl,rfl⟩
theorem c_add (hT:Qj P tab) {ow:Nat→Own} (hi:Inv N s) (hb:Bd fu N s) (hw:RW s es cs rest ow) (hc:2≤c.length∧Okc N c) (hj:rest[j]?=some (some (.arr w 3 (ints c)))) (ho:ow j=.no) :
 C P G 0 Qcu [.ptr 0 K.s 0,.sl (j+10) w 0 1 c.length none] (hp K s fu t es cs ps rest) fun v σ=>v=.int .i64 (s.cl.length:Int)∧∃ w' es' cs' rest' ow' t',t≤t'∧RW (s.add c) es' cs' rest' ow'∧rest'[j]?=some (some (.arr w 3 (ints c)))∧σ=hp { K with c:=w' } (s.add c) fu t' es' cs' ps rest':=by
 have hcl:=hb.cl
 have hjl:=(List.getElem?_eq_some_iff.1 hj).1
 refine QF hT YQ (by simp [YK]) (Qx 1000 ?_)
 simp -implicitDefEqProofs (disch:=omega) only [go_sem,↓reduceIte,reduceCtorEq,Nat.reduceAdd,Nat.reduceEqDiff,Nat.reduceLeDiff,Nat.reduceLT,Nat.reduceSub,Int.reduceToNat,Int.reduceLE,hp,sc,hw.len,List.getElem?_concat_length]
 have hadd:=(hw.addc hj ho).app (ex:=[some (.arr t 25 [.sl (j+10) w 0 1 c.length none])])
 refine ZF 2 (adJ { K with c:=t+1 } s c fu t j w (cs++[.sl (j+10) w 0 1 c.length none]) ps) (adE { K with c:=t+1 } s c fu t j w (cs++[.sl (j+10) w 0 1 c.length none]) ps) ?_ (fun i hi2 fr σ hJ=>QqZ hT hi hb hc hi2 hJ) (fun i hi2 fr σ hJ=>?_) (fun e fr σ hE=>?_)
 ·refine ⟨es,_,_,t+2,by omega,hadd,by rw [List.getElem?_append_left hjl]; exact hj,by show (if j=j then _ else _)=_; rw [if_pos rfl],rfl,rfl,rfl,rfl,rfl,?_⟩
  simp [hp,sc,hw.len]
 ·subst hi2
  obtain ⟨es,rest,ow,t',ht,hw,hj,ho,f0,f5,f24,f25,f26,rfl⟩:=hJ
  refine Qf [(0,.ptr 0 K.s 0),(5,.int .i64 (s.cl.length:Int)),(24,.sl (j+10) w 0 1 2 none),(25,.int .i64 2),(26,.int .i64 ((2:Nat):Int))] ⟨f0,f5,f24,f25,f26,trivial⟩  1000 ?_
  have g:¬ ((2:Nat):Int)<2:=by decide
  simp -implicitDefEqProofs (disch:=omega) only [go_sem,↓reduceIte,reduceCtorEq,Nat.reduceEqDiff,g]
  exact ⟨rfl,es,rest,ow,t',ht,hw,hj,rfl,rfl⟩
 ·obtain ⟨rfl,es',rest',ow',t',ht,hw',hj',f5,rfl⟩:=hE
  refine Qc 1000 ?_
  simp -implicitDefEqProofs (disch:=omega) only [go_sem,↓reduceIte,Nat.reduceEqDiff,f5]
  exact ⟨t+1,es',_,rest',ow',t',by omega,hw',hj',hp_wt rfl rfl rfl rfl rfl rfl rfl rfl⟩
end
end Go.Proofs.Ytingdebioipemaa
namespace Go.Sat
open Go Go.Cl
def Up {α:Type} (m:Nat) (lf:α→Nat) (up:α→α):Option α→Option α→Prop
 | some x,b=>b=some (up x)
 | none,none=>True
 | none,some y=>lf y<m
variable {m:Nat}
theorem Up.no {α:Type} {lf:α→Nat} {up:α→α} {b:Option α} (h:∀ y,b=some y→lf y<m):Up m lf up none b:=by
 cases b with
 | none=>trivial
 | some y=>exact h y rfl
theorem Up.lt {α:Type} {lf:α→Nat} {up:α→α} {b:Option α} (h:Up m lf up none b) {y:α} (e:b=some y):lf y<m:=by
 subst e; exact h
theorem Qpm (s:S) (n:Nat) (l:Int):(∀ s',s.visit n l=.moved s'→Ext s s')∧(∀ s',s.visit n l=.kept s'→Ext s s')∧(∀ s',s.visit n l=.bad s'→Ext s s'):=by
 unfold S.visit
 generalize turn (s.cl.getD n []) l=d
 have hp:∀ (s:S) d,Ext s (s.put n d):=fun s d=>⟨rfl,rfl,rfl,by simp [S.put],⟨[],by simp [S.put]⟩,rfl,Nat.le_refl _,rfl⟩
 unfold S.visD
 by_cases g1:s.is (d.getD 0 0)=1
 ·rw [if_pos g1]
  exact ⟨(fun s' e=>by cases e),(fun s' e=>by cases e; exact hp _ _),(fun s' e=>by cases e)⟩
 rw [if_neg g1]
 cases s.find d 2 with
 | some k=>exact ⟨(fun s' e=>by cases e; exact ((hp _ _).trans (hp _ _)).trans (QgW _ _ _)),(fun s' e=>by cases e),(fun s' e=>by cases e)⟩
 | none =>
   simp only
   by_cases g2:s.is (d.getD 0 0)=-1
   ·rw [if_pos g2]
    exact ⟨(fun s' e=>by cases e),(fun s' e=>by cases e),(fun s' e=>by cases e; exact hp _ _)⟩
   rw [if_neg g2]
   cases h1:(s.put n d).set (d.getD 0 0) n with
   | none=>exact ⟨(fun s' e=>by cases e),(fun s' e=>by cases e),(fun s' e=>by cases e)⟩
   | some x=>exact ⟨(fun s' e=>by cases e),(fun s' e=>by cases e; exact (hp _ _).trans (Qld h1)),(fun s' e=>by cases e)⟩
theorem QiX {l:Int}:∀ (rest kept:List Nat) (s:S) (r:S × Option Nat),S.pass l kept rest s=some r→Ext s r.1
 | [],kept,s,r,e=>by cases e; exact QgW _ _ _
 | n::rest,kept,s,r,e=>by
   have hv:=Qpm s n l
   unfold S.pass at e
   cases hx:s.visit n l with
   | moved s'=>rw [hx] at e hv; exact (hv.1 _ rfl).trans (QiX rest kept s' r e)
   | kept s'=>rw [hx] at e hv; exact (hv.2.1 _ rfl).trans (QiX rest _ s' r e)
   | bad s'=>rw [hx] at e hv; cases e; exact (hv.2.2 _ rfl).trans (QgW _ _ _)
   | out=>rw [hx] at e; cases e
theorem QxE (s:S) (level:Nat):(s.back level).lf=s.lf:=by
 unfold S.back
 cases s.ms[level]? <;> rfl
variable {c d:List Int} {s s':S}
theorem Qrv {level:Nat} (h:s.teach c level=some s'):s'.lf<s.lf:=by
 unfold S.teach at h
 simp only at h
 have hl:(({ s with pf:=s.pf++[(Qs c).1] }:S).back level).lf=s.lf:=QxE _ _
 split at h
 ·obtain ⟨a,rfl⟩:=S.set_some h
  rw [hl] at a
  show (({ s with pf:=s.pf++[(Qs c).1] }:S).back level).lf - 1<s.lf
  omega
 ·obtain ⟨a,rfl⟩:=S.set_some h
  replace a:(({ s with pf:=s.pf++[(Qs c).1] }:S).back level).lf≠0:=a
  show (({ s with pf:=s.pf++[(Qs c).1] }:S).back level).lf - 1<s.lf
  omega
def tru (M:Nat→Bool) (l:Int):Bool:=if l<0 then !M l.natAbs else M l.natAbs
variable {l:Int} {M:Nat→Bool}
theorem QwE (h:l≠0):tru M (-l) = !tru M l:=by
 unfold tru
 rw [Int.natAbs_neg]
 by_cases g:l<0
 ·rw [if_neg (by omega),if_pos g]; simp
 ·rw [if_pos (by omega),if_neg g]
def Holds (M:Nat→Bool) (c:List Int):Prop:=∃ l∈c,tru M l=true
theorem Holds.sub (h:Holds M c) (hs:∀ x∈c,x∈d):Holds M d:=by
 obtain ⟨l,h1,h2⟩:=h
 exact ⟨l,hs l h1,h2⟩
def Snd (Q:(Nat→Bool)→Prop) (s:S):Prop:=∀ M,Q M→(∀ c∈s.cl,Holds M c)∧∀ l∈s.tr,s.lev l=0→tru M l=true
def Cov (F:List (List Int)) (s:S):Prop:=∀ c∈F,(∃ l∈c,-l∈c)∨(∃ l∈c,l∈s.tr∧s.lev l=0)∨∃ d∈s.cl,∀ x∈d,x∈c
def Pair (c:List Int) (a b:Int):Prop:=(c[0]?=some a∧c[1]?=some b)∨(c[0]?=some b∧c[1]?=some a)
def Cmp (s:S) (ex:Nat→Int→Prop):Prop:=∀ (m:Nat) (c:List Int),s.cl[m]?=some c→∀ a b,Pair c a b→∀ i:Nat,i<s.dn→s.tr[i]?=some (-a)→¬ ex m a→b∈s.tr∧s.lev b≤s.lev a
structure Trn (s s':S):Prop where
 fw:∀ c∈s.cl,∃ d∈s'.cl,∀ x,x∈d↔x∈c
 bk:∀ d∈s'.cl,∃ c∈s.cl,∀ x,x∈d↔x∈c
theorem Trn.refl (s:S):Trn s s:=⟨fun c hc=>⟨c,hc,fun _=>Iff.rfl⟩,fun c hc=>⟨c,hc,fun _=>Iff.rfl⟩⟩
theorem Trn.trans {a b c:S} (h:Trn a b) (k:Trn b c):Trn a c :=
 ⟨fun x hx=>by
  obtain ⟨y,hy,e⟩:=h.fw x hx
  obtain ⟨z,hz,f⟩:=k.fw y hy
  exact ⟨z,hz,fun q=>(f q).trans (e q)⟩,fun x hx=>by
  obtain ⟨y,hy,e⟩:=k.bk x hx
  obtain ⟨z,hz,f⟩:=h.bk y hy
  exact ⟨z,hz,fun q=>(e q).trans (f q)⟩⟩
theorem Trn.put {n:Nat} (hc:s.cl[n]?=some c) (hd:∀ x,x∈d↔x∈c):Trn s (s.put n d) :=
 ⟨fun x hx=>by
  obtain ⟨i,hi⟩:=List.getElem?_of_mem hx
  obtain ⟨y,hy,e⟩:=Qlc hc hd i x hi
  exact ⟨y,List.mem_of_getElem? hy,e⟩,fun x hx=>by
  rcases List.mem_or_eq_of_mem_set hx with hx | rfl
  ·exact ⟨x,hx,fun _=>Iff.rfl⟩
  ·exact ⟨c,List.mem_of_getElem? hc,hd⟩⟩
structure Tel (Q:(Nat→Bool)→Prop) (s s':S):Prop where
 ex:∃ t,s'.tr=s.tr++t∧(∀ l∈t,s'.lev l=s.ms.length∧(s.ms.length=0→∀ M,Q M→tru M l=true))
 lv:∀ l,l∈s.tr∨-l∈s.tr→s'.lev l=s.lev l
 trn:Trn s s'
theorem Tel.refl (Q:(Nat→Bool)→Prop) (s:S):Tel Q s s:=⟨⟨[],by simp,fun l hl=>by cases hl⟩,fun _ _=>rfl,.refl s⟩
variable {Q:(Nat→Bool)→Prop}
theorem Tel.mem (h:Tel Q s s') (hl:l∈s.tr):l∈s'.tr:=by
 obtain ⟨t,e,_⟩:=h.ex
 rw [e]; exact List.mem_append_left _ hl
theorem Tel.trans {Q:(Nat→Bool)→Prop} {a b c:S} (h:Tel Q a b) (k:Tel Q b c) (hm:b.ms=a.ms):Tel Q a c:=by
 obtain ⟨t,e,ht⟩:=h.ex
 obtain ⟨u,f,hu⟩:=k.ex
 refine ⟨⟨t++u,by rw [f,e,List.append_assoc],fun l hl=>?_⟩,fun l hl=>?_,h.trn.trans k.trn⟩
 ·rcases List.mem_append.1 hl with hl | hl
  ·rw [k.lv l (.inl (by rw [e]; exact List.mem_append_right _ hl))]; exact ht l hl
  ·rw [← hm]; exact hu l hl
 ·rw [k.lv l (hl.imp h.mem h.mem)]; exact h.lv l hl
theorem Tel.snd (h:Tel Q s s') (hs:Snd Q s):Snd Q s':=fun M hM=>by
 obtain ⟨g1,g2⟩:=hs M hM
 obtain ⟨t,e,ht⟩:=h.ex
 refine ⟨fun d hd=>?_,fun l hl h0=>?_⟩
 ·obtain ⟨c,hc,k⟩:=h.trn.bk d hd
  exact (g1 c hc).sub fun x hx=>(k x).2 hx
 ·rw [e] at hl
  rcases List.mem_append.1 hl with hl | hl
  ·rw [h.lv l (.inl hl)] at h0; exact g2 l hl h0
  ·have:=ht l hl
   exact this.2 (by omega) M hM
theorem Tel.cov {F:List (List Int)} (h:Tel Q s s') (hs:Cov F s):Cov F s':=fun c hc=>by
 rcases hs c hc with g | ⟨l,h1,h2,h3⟩ | ⟨d,h1,h2⟩
 ·exact .inl g
 ·exact .inr (.inl ⟨l,h1,h.mem h2,by rw [h.lv l (.inl h2)]; exact h3⟩)
 ·obtain ⟨d',k1,k2⟩:=h.trn.fw d h1
  exact .inr (.inr ⟨d',k1,fun x hx=>h2 x ((k2 x).1 hx)⟩)
inductive VisC (s:S) (n:Nat) (d:List Int):Vis→Prop
 | out:VisC s n d .out
 | held:d.getD 0 0∈s.tr→VisC s n d (.kept (s.put n d))
 | moved (k:Nat) (x:Int):2≤k→d[k]?=some x→-x ∉ s.tr→VisC s n d (.moved ((s.put n (swap d 1 k)).push x n))
 | bad:VisC s n d (.bad (s.put n d))
 | set (s':S):(s.put n d).set (d.getD 0 0) n=some s'→d.getD 0 0 ∉ s.tr→-(d.getD 0 0) ∉ s.tr→(∀ x∈d,x≠d.getD 0 0→-x∈s.tr)→VisC s n d (.kept s')
end Go.Sat
namespace Go.Proofs.Ytingdebioipemaa
open Go Go.Am Go.Cl Go.Sat
set_option maxRecDepth 100000
variable {P:Program} {G:Nat→Option V} {c:List Int} {s:S}
theorem Qw9 {k:Nat} {x:Int} (h2:2≤k) (hk:c[k]?=some x) (hx:s.is x≠-1) (hb:∀ j y,2≤j→j<k→c[j]?=some y→s.is y=-1):s.find c 2=some k:=by
 cases hf:s.find c 2 with
 | none=>exact absurd (Qhp hf k x h2 hk) hx
 | some i =>
   obtain ⟨i1,i2,i3,i4⟩:=Qho hf
   have hi:c[i]?=some (c.getD i 0):=Xt i2
   rcases Nat.lt_trichotomy i k with q | q | q
   ·exact absurd (hb i _ i1 q hi) i3
   ·rw [q]
   ·exact absurd (by rw [← getD_some (d:=0) hk]; exact i4 k h2 q) hx
theorem Qxa (hb:∀ j y,2≤j→c[j]?=some y→s.is y=-1):s.find c 2=none:=by
 cases hf:s.find c 2 with
 | none=>rfl
 | some i =>
   obtain ⟨i1,i2,i3,_⟩:=Qho hf
   exact absurd (hb i _ i1 (Xt i2)) i3
structure Fm (l:Int) (rest rest':List (Option Ob)) (ow ow':Nat→Own):Prop where
 wt:∀ j,j<rest.length→ow j=.wt l→rest'[j]?=rest[j]?∧ow' j=.wt l
 no:∀ j,j<rest.length→ow j=.no→rest'[j]?=rest[j]?∧ow' j=.no
theorem Fm.refl (l:Int) (rest:List (Option Ob)) (ow:Nat→Own):Fm l rest rest ow ow:=⟨fun _ _ h=>⟨rfl,h⟩,fun _ _ h=>⟨rfl,h⟩⟩
def Left (K:Vs) (fu t:Nat) (ps:List V) (l:Int) (rest:List (Option Ob)) (ow:Nat→Own) (s':S) (σ:H):Prop :=
 ∃ w es cs rest' ow' t',t≤t'∧RW s' es cs rest' ow'∧Fm l rest rest' ow ow'∧σ=hp { K with t:=w } s' fu t' es cs ps rest'
def VisQ (K:Vs) (fu t:Nat) (ps:List V) (l:Int) (rest:List (Option Ob)) (ow:Nat→Own):Vis→V→H→Prop
 | .moved s',v,σ=>v=.tup [.bool true,.bool false,.bool false]∧Left K fu t ps l rest ow s' σ
 | .kept s',v,σ=>v=.tup [.bool false,.bool false,.bool false]∧Left K fu t ps l rest ow s' σ
 | .bad s',v,σ=>v=.tup [.bool false,.bool true,.bool false]∧Left K fu t ps l rest ow s' σ
 | .out,v,σ=>v=.tup [.bool false,.bool false,.bool true]∧∃ s',Left K fu t ps l rest ow s' σ
end Go.Proofs.Ytingdebioipemaa
