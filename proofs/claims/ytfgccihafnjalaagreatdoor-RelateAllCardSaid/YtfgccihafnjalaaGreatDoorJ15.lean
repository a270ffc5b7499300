/- The law's apart: each of those holds a Sym of its own. -/
import Derived.Test.YtfgccihafnjalaaGreatDoorJ14
import Derived.Test.YtfgccihafnjalaaGreatDoorJ13
import Derived.Test.YtfgccihafnjalaaGreatDoorJ8
import Derived.Test.YtfgccihafnjalaaGreatDoorJ11
import Derived.Test.YtfgccihafnjalaaGreatDoorY
open Nat renaming reduceEqDiff → rq, reduceAdd → rA, reduceLeDiff → rL, reduceLT → rT, zero_add → zA, le_refl → lR, zero_le → zL, add_zero → aZ
open List renaming length_cons → lC, length_nil → lN, take_succ_cons → tS, length_append → lA, nil_append → nA, cons_append → cA, append_assoc → aA, take_nil → tN, take_zero → tZ, length_map → lM
open Bool renaming not_false → nF, not_true → nT
namespace Go.Proofs.YtfgccihafnjalaaGreatDoor
open Go Go.Am Go.Re
set_option maxRecDepth 100000
variable {P:Program} {G:Nat→Option V}
section
attribute [local go_sem] nF nT aZ lR Nat.mul_one zA zL bne_self_eq_false decide_false decide_true ge_iff_le Qz Xz zqk_0 zqk_1 Qqj Qqi QBJ QtW QtV QtU QtT QtS Qoc Qob zqk_2 Qoa Qn9 QtR Qn8 Qn7 Qn6 Qn5 QtQ QBI QwG QwF QwE QwD zqk_7 QwC QwB
abbrev apX (fmt:Int→List UInt8) (v0 v1 v2 v3 v4 t w:Nat) (L:List Nd) (l:List Int) (X:Option Ob):Am.H:=⟨t,kG fmt v0 v1 v2 v3 v4 L++[none,some (.arr w 44 (QiO L l)),X]⟩
variable {c bh lk:Int} {i v0 v1 v2 v3 v4 t w k:Nat} {l vs rs ss:List Int} {L:List Nd}
theorem Qf6 (h:l[i]?=some c):(QiO L l).getD i V.any=.int .i64 (Xc L (sy c)):=by
 rw [List.getD_eq_getElem?_getD,QAP h]; rfl
abbrev a3J (v0 w:Nat) (nx bh:Int) (wv:List V) (l:List Int) (i:Nat) (σ0:Am.H):Nat→Fr→H→Prop:=fun k fr σ=>Qf fr 0=.ptr 1 v0 0∧Qf fr 3=.int .i64 nx∧Qf fr 4=.int .i64 bh∧Qf fr 6=.ref (.agg wv) 0∧Qf fr 11=.sl 6 w 0 1 l.length none∧Qf fr 14=.int .i64 ((i:Nat):Int)∧Qf fr 17=.int .i64 ((k:Nat):Int)∧σ=σ0
abbrev a3E (v0 w:Nat) (nx bh:Int) (wv:List V) (l:List Int) (i:Nat) (σ0:Am.H):AE→Fr→H→Prop:=fun e fr σ=>e=.ex 6∧Qf fr 0=.ptr 1 v0 0∧Qf fr 3=.int .i64 nx∧Qf fr 4=.int .i64 bh∧Qf fr 6=.ref (.agg wv) 0∧Qf fr 11=.sl 6 w 0 1 l.length none∧Qf fr 14=.int .i64 ((i:Nat):Int)∧σ=σ0
variable {σ σ0:Am.H} {fr:Fr} {X:Option Ob} {wv:List V} {fmt:Int→List UInt8}
theorem QBr (hT:Qh P tab) {nx:Int} {d:Int} (hc:l[i]?=some c) (hd:l[k]?=some d) (hk:k<i) (hne:Xc L (sy c)≠Xc L (sy d)) (hll:l.length≤1000000) (hJ:a3J v0 w nx bh wv l i (apX fmt v0 v1 v2 v3 v4 t w L l X) k fr σ) :
 W P G 134 0 wK fr σ (YH (fun fr σ=>∃ fr' σ',Shift G 134 0 fr σ fr' σ'∧a3J v0 w nx bh wv l i (apX fmt v0 v1 v2 v3 v4 t w L l X) (k+1) fr' σ') (a3E v0 w nx bh wv l i (apX fmt v0 v1 v2 v3 v4 t w L l X))):=by
 obtain ⟨f0,f3,f4,f6,f11,f14,f17,rfl⟩:=hJ
 have hi:=(List.getElem?_eq_some_iff.1 hc).1
 have hk2:=(List.getElem?_eq_some_iff.1 hd).1
 have g1:=Qf6 (L:=L) hc
 have g2:=Qf6 (L:=L) hd
 have hne':(Xc L (sy c)==Xc L (sy d))=false:=by simpa using hne
 have e2:=YJ hk (by omega)
 refine Qe [(0,.ptr 1 v0 0),(3,.int .i64 nx),(4,.int .i64 bh),(6,.ref (.agg wv) 0),(11,.sl 6 w 0 1 l.length none),(14,.int .i64 ((i:Nat):Int)),(17,.int .i64 ((k:Nat):Int))] ⟨f0,f3,f4,f6,f11,f14,f17,trivial⟩  12 ?_
 refine yk ?_
 iterate 12 (try (refine Qa 4 ?_; simp -implicitDefEqProofs (disch:=omega) only [go_sem,↓reduceIte,reduceCtorEq,rq,Qde,true_implies,true_and,and_true,Qnh,hi,hk2,g1,g2,hne',e2]))
 refine ⟨_,_,Shift.refl _ _ _ _,?_⟩
 repeat' (first | exact rfl | refine ⟨rfl,?_⟩)
theorem QJq (hT:Qh P tab) {nx:Int} (hk:k=i) (hJ:a3J v0 w nx bh wv l i σ0 k fr σ) :
 W P G 134 0 wK fr σ (YH (fun _ _=>False) (a3E v0 w nx bh wv l i σ0)):=by
 obtain ⟨f0,f3,f4,f6,f11,f14,f17,rfl⟩:=hJ
 refine Qe [(0,.ptr 1 v0 0),(3,.int .i64 nx),(4,.int .i64 bh),(6,.ref (.agg wv) 0),(11,.sl 6 w 0 1 l.length none),(14,.int .i64 ((i:Nat):Int)),(17,.int .i64 ((k:Nat):Int))] ⟨f0,f3,f4,f6,f11,f14,f17,trivial⟩  12 ?_
 refine yp ?_
 repeat' (first | exact rfl | refine ⟨rfl,?_⟩)
abbrev a4J (v0 w:Nat) (nx bh:Int) (wv:List V) (l:List Int) (i:Nat) (σ0:Am.H):Nat→Fr→H→Prop:=fun k fr σ=>Qf fr 0=.ptr 1 v0 0∧Qf fr 3=.int .i64 nx∧Qf fr 4=.int .i64 bh∧Qf fr 6=.ref (.agg wv) 0∧Qf fr 11=.sl 6 w 0 1 l.length none∧Qf fr 14=.int .i64 ((i:Nat):Int)∧Qf fr 18=.int .i64 ((k:Nat):Int)∧σ=σ0
abbrev a4E (v0 w:Nat) (nx bh:Int) (wv:List V) (l:List Int) (i:Nat) (σ0:Am.H):AE→Fr→H→Prop:=fun e fr σ=>e=.ex 8∧Qf fr 0=.ptr 1 v0 0∧Qf fr 3=.int .i64 nx∧Qf fr 4=.int .i64 bh∧Qf fr 6=.ref (.agg wv) 0∧Qf fr 11=.sl 6 w 0 1 l.length none∧Qf fr 14=.int .i64 ((i:Nat):Int)∧σ=σ0
variable {sure:Bool}
theorem QBq (hT:Qh P tab) {nx:Int} {x:Int} (hr:rs.length=32) (hc:l[i]?=some c) (hx:vs[k]?=some x) (hne:Xc L (sy c)≠x) (hll:l.length≤1000000) (hvl:vs.length≤1000000) (hJ:a4J v0 w nx bh (wV vs lk rs ss sure) l i (apX fmt v0 v1 v2 v3 v4 t w L l X) k fr σ) :
 W P G 134 0 wL fr σ (YH (fun fr σ=>∃ fr' σ',Shift G 134 0 fr σ fr' σ'∧a4J v0 w nx bh (wV vs lk rs ss sure) l i (apX fmt v0 v1 v2 v3 v4 t w L l X) (k+1) fr' σ') (a4E v0 w nx bh (wV vs lk rs ss sure) l i (apX fmt v0 v1 v2 v3 v4 t w L l X))):=by
 obtain ⟨f0,f3,f4,f6,f11,f14,f18,rfl⟩:=hJ
 have hi:=(List.getElem?_eq_some_iff.1 hc).1
 have hk:=(List.getElem?_eq_some_iff.1 hx).1
 have g1:=Qf6 (L:=L) hc
 have g2:=Qld hx
 have g0:(wV vs lk rs ss sure).getD 0 V.any=.lst 1 (ints vs) false:=rfl
 have hwl:(wV vs lk rs ss sure).length=36:=by simp [wV,Qj,hr]
 have hne':(Xc L (sy c)==x)=false:=by simpa using hne
 have e2:=YJ hk (by omega)
 obtain ⟨wv,hwv⟩:∃ wv,wv=wV vs lk rs ss sure:=⟨_,rfl⟩
 rw [← hwv] at f6 hwl g0 ⊢
 refine Qe [(0,.ptr 1 v0 0),(3,.int .i64 nx),(4,.int .i64 bh),(6,.ref (.agg wv) 0),(11,.sl 6 w 0 1 l.length none),(14,.int .i64 ((i:Nat):Int)),(18,.int .i64 ((k:Nat):Int))] ⟨f0,f3,f4,f6,f11,f14,f18,trivial⟩  12 ?_
 simp -implicitDefEqProofs (disch:=omega) only [go_sem,↓reduceIte,reduceCtorEq,rq,rL,Qj,true_implies,and_true,hk,g0,hwl]
 iterate 12 (try (refine Qa 4 ?_; simp -implicitDefEqProofs (disch:=omega) only [go_sem,↓reduceIte,reduceCtorEq,rq,rL,Qj,Qde,true_implies,true_and,and_true,lC,lN,List.getD_cons_zero,Qnh,hk,hi,g0,hwl,g1,g2,hne',e2]))
 refine ⟨_,_,Shift.refl _ _ _ _,?_⟩
 repeat' (first | exact rfl | refine ⟨rfl,?_⟩)
theorem QJp (hT:Qh P tab) {nx:Int} (hr:rs.length=32) (hk:k=vs.length) (hJ:a4J v0 w nx bh (wV vs lk rs ss sure) l i σ0 k fr σ) :
 W P G 134 0 wL fr σ (YH (fun _ _=>False) (a4E v0 w nx bh (wV vs lk rs ss sure) l i σ0)):=by
 obtain ⟨f0,f3,f4,f6,f11,f14,f18,rfl⟩:=hJ
 have g0:(wV vs lk rs ss sure).getD 0 V.any=.lst 1 (ints vs) false:=rfl
 have hwl:(wV vs lk rs ss sure).length=36:=by simp [wV,Qj,hr]
 obtain ⟨wv,hwv⟩:∃ wv,wv=wV vs lk rs ss sure:=⟨_,rfl⟩
 rw [← hwv] at f6 hwl g0 ⊢
 refine Qe [(0,.ptr 1 v0 0),(3,.int .i64 nx),(4,.int .i64 bh),(6,.ref (.agg wv) 0),(11,.sl 6 w 0 1 l.length none),(14,.int .i64 ((i:Nat):Int)),(18,.int .i64 ((k:Nat):Int))] ⟨f0,f3,f4,f6,f11,f14,f18,trivial⟩  12 ?_
 simp -implicitDefEqProofs (disch:=omega) only [go_sem,↓reduceIte,reduceCtorEq,rq,rL,Qj,true_implies,and_true,hk,g0,hwl,Nat.lt_irrefl]
 repeat' (first | exact rfl | refine ⟨rfl,?_⟩)
abbrev a2J (fmt:Int→List UInt8) (v0 v1 v2 v3 v4 w:Nat) (L:List Nd) (nx bh:Int) (wv:List V) (l:List Int):Nat→Fr→H→Prop:=fun i fr σ=>∃ t,Qf fr 0=.ptr 1 v0 0∧Qf fr 3=.int .i64 nx∧Qf fr 4=.int .i64 bh∧Qf fr 6=.ref (.agg wv) 0∧Qf fr 11=.sl 6 w 0 1 l.length none∧Qf fr 14=.int .i64 ((i:Nat):Int)∧σ=apS fmt v0 v1 v2 v3 v4 t w L l
variable {ps:List Pr}
theorem QBs (hT:Qh P tab) {nx:Int} (hwv:wv=wV vs lk rs ss sure) (hr:rs.length=32) (hH:ApOk L ps vs lk rs ss nx bh) (hl:l=Qrh ps nx ss.length) (hll:l.length≤1000000) (hvl:vs.length≤1000000) (hc:l[i]?=some c) (hJ:a2J fmt v0 v1 v2 v3 v4 w L nx bh wv l i fr σ) :
 W P G 134 0 wM fr σ (YH (fun fr σ=>∃ fr' σ',Shift G 134 0 fr σ fr' σ'∧a2J fmt v0 v1 v2 v3 v4 w L nx bh wv l (i+1) fr' σ') (fun e _ σ=>e=.ex 4∧∃ t,σ=apS fmt v0 v1 v2 v3 v4 t w L l)):=by
 obtain ⟨t,f0,f3,f4,f6,f11,f14,rfl⟩:=hJ
 have hi:=(List.getElem?_eq_some_iff.1 hc).1
 obtain ⟨hc1,hc2,hc3,hc4,hc5⟩:=hH.all c (hl▸List.mem_of_getElem? hc)
 have hnod:l.Nodup:=hl▸QAS ps nx ss.length
 have g1:=Qf6 (L:=L) hc
 have g0:wv.getD 1 V.any=.int .i64 lk:=hwv▸rfl
 have hwl:wv.length=36:=by rw [hwv]; simp [wV,Qj,hr]
 have hne':(Xc L (sy c)==lk)=false:=by simpa using hc4
 have e2:=YJ hi (by omega)
 have q1:¬ c<nx:=by omega
 have q2:¬ bh≤c:=by omega
 have hnd:=Qux (P:=P) (G:=G) hT (base:=0) (fmt:=fmt) (v0:=v0) (v1:=v1) (v2:=v2) (v3:=v3) (v4:=v4) (t:=t) (L:=L) (ex:=[none,some (.arr w 44 (QiO L l))]) (id:=Xc L (sy c))
 have hat:=Qfr hc3
 rw [if_pos ⟨hat.1,by have:=(List.getElem?_eq_some_iff.1 hat.2).1; omega⟩,Qtk hc3] at hnd
 rw [show (sy c).cells=[.int .u8 2,.int .i64 c,.int .i64 0,.int .u8 0,.int .i64 0,.int .i64 0] from rfl] at hnd
 refine Qe [(0,.ptr 1 v0 0),(3,.int .i64 nx),(4,.int .i64 bh),(6,.ref (.agg wv) 0),(11,.sl 6 w 0 1 l.length none),(14,.int .i64 ((i:Nat):Int))] ⟨f0,f3,f4,f6,f11,f14,trivial⟩ 12 ?_
 refine ye ?_
 iterate 12 (try (refine Qa 4 ?_; simp -implicitDefEqProofs (disch:=omega) only [go_sem,↓reduceIte,reduceCtorEq,rq,Qde,true_implies,true_and,and_true,Qnh,hi,g1]))
 refine Qi9 hT QR hnd 4 fun t2 ht2=>?_
 simp -implicitDefEqProofs (disch:=omega) only [go_sem,↓reduceIte,reduceCtorEq,rA,rq,rT,and_true,aA,cA,nA,lA,lC,lN,List.getD_cons_zero,List.getD_cons_succ,QcM]
 iterate 12 (try (refine Qa 4 ?_; simp -implicitDefEqProofs (disch:=omega) only [go_sem,↓reduceIte,reduceCtorEq,rA,rq,rL,Qde,true_implies,true_and,and_true,cA,nA,lC,lN,List.getD_cons_zero,List.getD_cons_succ,tZ,List.drop_succ_cons,List.drop_nil,Qnh,Qsl,Qh2,hi,g1,g0,hwl,hne',q1,q2]))
 obtain ⟨X,hX⟩:∃ X,X=some (Ob.arr t2 108 [.int .u8 2,.int .i64 c,.int .i64 0,.int .u8 0,.int .i64 0,.int .i64 0]):=⟨_,rfl⟩
 rw [← hX]
 refine YB i (a3J v0 w nx bh wv l i (apX fmt v0 v1 v2 v3 v4 (t2+1) w L l X)) (a3E v0 w nx bh wv l i (apX fmt v0 v1 v2 v3 v4 (t2+1) w L l X)) ?_ (fun k hk fr σ hJ=>?_) (fun k hk fr σ hJ=>QJq hT hk hJ) (fun e fr σ hE=>?_)
 ·refine ⟨rfl,?_⟩
  repeat' (first | exact rfl | refine ⟨rfl,?_⟩)
 ·obtain ⟨d,hd⟩:∃ d,l[k]?=some d:=⟨_,List.getElem?_eq_getElem (by omega)⟩
  refine QBr hT hc hd hk (fun he=>?_) hll hJ
  have hd3:=(hH.all d (hl▸List.mem_of_getElem? hd)).2.2.1
  have hcd:c=d:=by simpa [sy] using (Qf3 hc3 hd3).1 he
  have h1:=(List.getElem?_eq_some_iff.1 hc).2
  have h2:=(List.getElem?_eq_some_iff.1 hd).2
  rw [← h1,← h2] at hcd
  exact List.pairwise_iff_getElem.1 hnod k i (List.getElem?_eq_some_iff.1 hd).1 hi hk hcd.symm
 ·obtain ⟨rfl,f0,f3,f4,f6,f11,f14,rfl⟩:=hE
  refine QV [(0,.ptr 1 v0 0),(3,.int .i64 nx),(4,.int .i64 bh),(6,.ref (.agg wv) 0),(11,.sl 6 w 0 1 l.length none),(14,.int .i64 ((i:Nat):Int))] ⟨f0,f3,f4,f6,f11,f14,trivial⟩  20 ?_
  refine ya ?_
  refine XS vs (a4J v0 w nx bh wv l i (apX fmt v0 v1 v2 v3 v4 (t2+1) w L l X)) (a4E v0 w nx bh wv l i (apX fmt v0 v1 v2 v3 v4 (t2+1) w L l X)) ?_ (fun k x hx fr σ hJ=>?_) (fun k hk fr σ hJ=>?_) (fun e fr σ hE=>?_)
  ·refine ⟨rfl,?_⟩
   repeat' (first | exact rfl | refine ⟨rfl,?_⟩)
  ·subst hwv
   exact QBq hT hr hc hx (hc5 x (List.mem_of_getElem? hx)) hll hvl hJ
  ·subst hwv
   exact QJp hT hr hk hJ
  ·obtain ⟨rfl,f0,f3,f4,f6,f11,f14,rfl⟩:=hE
   refine QcZ [(0,.ptr 1 v0 0),(3,.int .i64 nx),(4,.int .i64 bh),(6,.ref (.agg wv) 0),(11,.sl 6 w 0 1 l.length none),(14,.int .i64 ((i:Nat):Int))] ⟨f0,f3,f4,f6,f11,f14,trivial⟩  20 ?_
   refine yf ?_
   refine ⟨_,_,Shift.drop (o':=kG fmt v0 v1 v2 v3 v4 L++[none,some (.arr w 44 (QiO L l))]) (t':=t2+1) (by rw [hX]; simp [Xw,kG]) (lR _) (zL _),t2+1,?_⟩
   repeat' (first | exact rfl | refine ⟨rfl,?_⟩)
theorem QJr (hT:Qh P tab) {nx:Int} (hi:i=l.length) (hJ:a2J fmt v0 v1 v2 v3 v4 w L nx bh wv l i fr σ) :
 W P G 134 0 wM fr σ (YH (fun _ _=>False) (fun e _ σ=>e=.ex 4∧∃ t,σ=apS fmt v0 v1 v2 v3 v4 t w L l)):=by
 obtain ⟨t,f0,f3,f4,f6,f11,f14,rfl⟩:=hJ
 refine Qe [(0,.ptr 1 v0 0),(3,.int .i64 nx),(4,.int .i64 bh),(6,.ref (.agg wv) 0),(11,.sl 6 w 0 1 l.length none),(14,.int .i64 ((i:Nat):Int))] ⟨f0,f3,f4,f6,f11,f14,trivial⟩  12 ?_
 simp -implicitDefEqProofs (disch:=omega) only [go_sem,↓reduceIte,reduceCtorEq,rq,true_and,and_true,hi,Nat.lt_irrefl]
 exact ⟨t,rfl⟩
theorem QI8 (hT:Qh P tab) {tg:Bool} {nx:Int} (hr:rs.length=32) (hH:ApOk L ps vs lk rs ss nx bh) (hpl:ps.length≤1000000) (hvl:vs.length≤100000) (hsl:ss.length≤100000) :
 C P G 0 Z3 [.ptr 1 v0 0,.agg (wV vs lk rs ss sure),.lst 3 (prs ps) tg,.int .i64 nx,.int .i64 bh] ⟨t,kG fmt v0 v1 v2 v3 v4 L⟩ fun u σ=>u=.bool true∧∃ t',σ=⟨t',kG fmt v0 v1 v2 v3 v4 L⟩:=by
 refine Xq 5 (zL _) (Q0 hT Z0 (by simp [Xz]) (Ql 5 ?_))
 have hwn:=QsC vs lk rs ss sure
 have hwl:(wV vs lk rs ss sure).length=36:=by simp [wV,Qj,hr]
 have hone:ones (wV vs lk rs ss sure)=True:=eq_true fun u hu=>by
  rcases List.mem_cons.1 hu with rfl | hu
  ·rfl
  rcases List.mem_cons.1 hu with rfl | hu
  ·rfl
  have:=QgI rs ss sure
  exact (of_eq_true this) u hu
 obtain ⟨wv,hwv⟩:∃ wv,wv=wV vs lk rs ss sure:=⟨_,rfl⟩
 rw [← hwv] at hwn hwl hone ⊢
 simp -implicitDefEqProofs (disch:=omega) only [go_sem,↓reduceIte,reduceCtorEq,rA,rq,and_true,QcM,hone]
 refine Xf (Shift.freeze (k:=5) (v:=t) (T:=49) (cs:=wv) (zL _) (by first | rfl | exact Qkg) hwn) ?_
 have hne:wv≠[]:=fun e=>by rw [e] at hwl; cases hwl
 simp only [QC,QW,X8,ZP,QdB,Z4 (lR 5),rq,false_and,and_self,if_true,if_false,if_neg hne,QA,Option.map_none]
 refine Qa 4 ?_
 refine ya ?_
 refine Xf (Shift.own (s:=11) (z:=0) (sz:=1) (T:=44) (yb) (by decide)) ?_
 simp -implicitDefEqProofs (disch:=omega) only [go_sem,↓reduceIte,reduceCtorEq,rA,rq,H.push,aA,cA,nA,lA,lC,lN,QcM]
 refine Qa 12 ?_
 refine ya ?_
 refine YB 31 (a0J fmt v0 v1 v2 v3 v4 L ps tg nx bh wv) (a0E fmt v0 v1 v2 v3 v4 L ps tg nx bh wv) ⟨t+1+1,t+1,[],rfl,?_⟩ (fun i hi fr σ hJ=>?_) (fun i hi fr σ hJ=>QJt hT hi hJ) (fun e fr σ hE=>?_)
 ·simp -implicitDefEqProofs (disch:=omega) only [go_sem,↓reduceIte,reduceCtorEq,rq,true_and,and_true,lN,QiO]
  try simp
 ·subst hwv
  exact QBu hT hr hH hpl hi hJ
 obtain ⟨t2,w2,l2,rfl,hl2,f0,f2,f3,f4,f6,f11,rfl⟩:=hE
 refine QV [(0,.ptr 1 v0 0),(2,.lst 3 (prs ps) tg),(3,.int .i64 nx),(4,.int .i64 bh),(6,.ref (.agg wv) 0),(11,.sl 6 w2 0 1 l2.length none)] ⟨f0,f2,f3,f4,f6,f11,trivial⟩  12 ?_
 refine ya ?_
 refine YB ss.length (a1J fmt v0 v1 v2 v3 v4 L ps tg nx bh wv) (a1E fmt v0 v1 v2 v3 v4 L ps tg nx bh wv ss.length) ⟨t2,w2,l2,by rw [hl2]; simp [Qh6],?_⟩ (fun i hi fr σ hJ=>?_) (fun i hi fr σ hJ=>?_) (fun e fr σ hE=>?_)
 ·refine yo ?_
  try simp
 ·subst hwv
  exact QBt hT hr hH hpl hsl hi hJ
 ·subst hwv
  exact QJs hT hr hi hJ
 obtain ⟨t3,w3,l,rfl,hl,f0,f2,f3,f4,f6,f11,rfl⟩:=hE
 have hll:l.length≤1000000:=by
  have h1:=Qh8 ps nx 32; have h2:=Qmr ps nx ss.length
  rw [hl]; unfold Qrh; rw [lA]; omega
 refine QV [(0,.ptr 1 v0 0),(2,.lst 3 (prs ps) tg),(3,.int .i64 nx),(4,.int .i64 bh),(6,.ref (.agg wv) 0),(11,.sl 6 w3 0 1 l.length none)] ⟨f0,f2,f3,f4,f6,f11,trivial⟩  12 ?_
 refine ya ?_
 refine XS l (a2J fmt v0 v1 v2 v3 v4 w3 L nx bh wv l) (fun e _ σ=>e=.ex 4∧∃ t,σ=apS fmt v0 v1 v2 v3 v4 t w3 L l) ⟨t3,?_⟩ (fun i c hc fr σ hJ=>QBs hT hwv hr hH hl hll (by omega) hc hJ) (fun i hi fr σ hJ=>QJr hT hi hJ) (fun e fr σ hE=>?_)
 ·refine yo ?_
  try simp
 ·obtain ⟨rfl,t4,rfl⟩:=hE
  refine QV [] trivial 12 ?_
  simp -implicitDefEqProofs (disch:=omega) only [go_sem,↓reduceIte,rA,rL,true_and,lA,lC,lN,QcM]
  exact ⟨t4,rfl,rfl⟩
end
end Go.Proofs.YtfgccihafnjalaaGreatDoor
namespace Go.Proofs.YtfgccihafnjalaaGreatDoor
open Go Go.Am Go.Re
set_option maxRecDepth 100000
def vsW (L:List Nd) (ps:List Pr) (b:Int) (vars:Nat):List Int:=(List.range vars).map fun j:Nat=>hvW L ps b vars ((j:Nat):Int)
def plW (L:List Nd) (ps:List Pr) (b:Int) (vars:Nat) (k:Int) (f:Nat→Int) (n:Nat):List Int:=(List.range n).map fun r:Nat=>if Xb ps k ((r:Nat):Int) then ZV L (Qp (ties ps)) (frS ps b vars).1 ⟨0,k,((r:Nat):Int)⟩ else f r
theorem Qly (L:List Nd) (ps:List Pr) (b:Int) (vars:Nat):(vsW L ps b vars).length=vars:=by simp [vsW]
theorem Qdq (L:List Nd) (ps:List Pr) (b:Int) (vars:Nat) (k:Int) (f:Nat→Int) (n:Nat):(plW L ps b vars k f n).length=n:=by simp [plW]
variable {f:Nat→Int} {vars n cnt:Nat} {b k v:Int} {ps l:List Pr} {L L0:List Nd}
theorem Qop {r:Nat} (hr:r<n):(plW L ps b vars k f n).getD r 0=if Xb ps k ((r:Nat):Int) then ZV L (Qp (ties ps)) (frS ps b vars).1 ⟨0,k,((r:Nat):Int)⟩ else f r:=by
 rw [List.getD_eq_getElem?_getD]; simp [plW,hr]
theorem Quj (L:List Nd) (ps:List Pr) (b:Int) (vars:Nat) (k:Int) (f:Nat→Int) (n:Nat):QK L (Qp (ties ps)) (frS ps b vars).1 ps k f n=ints (plW L ps b vars k f n):=by
 unfold QK ints plW
 rw [List.map_map]; rfl
theorem QzL (L:List Nd) (ps:List Pr) (b:Int) (vars:Nat):YG L (Qp (ties ps)) (frS ps b vars).1 vars vars=ints (vsW L ps b vars):=by
 unfold YG ints vsW
 rw [List.map_map]
 refine List.map_congr_left fun j hj=>?_
 rw [if_pos (List.mem_range.1 hj)]; rfl
abbrev rsW (L0 L:List Nd) (ps:List Pr) (b nx:Int) (vars:Nat):List Int:=plW L ps b vars 1 (fun r=>Qfd L0 nx r) 32
abbrev ssW (L0 L:List Nd) (ps:List Pr) (b nx:Int) (vars cnt:Nat):List Int:=plW L ps b vars 2 (fun i=>Xc L0 (sy (nx+30+((i:Nat):Int)))) cnt
theorem QE9 (L0 L:List Nd) (nx:Int) (ps:List Pr) (b:Int) (vars cnt m:Nat):frV L0 L nx ps b vars cnt m=wV (vsW L ps b vars) (hvW L ps b vars (-1)) (rsW L0 L ps b nx vars) (ssW L0 L ps b nx vars cnt) (decide (m=0)):=by
 unfold frV woF wV
 rw [Quj,Quj,QzL]; rfl
theorem QjX (h:-1≤v∧v<vars):hW (vsW L ps b vars) (hvW L ps b vars (-1)) v=hvW L ps b vars v:=by
 unfold hW
 by_cases h0:v<0
 ·rw [if_pos h0,show v=-1 by omega]
 ·rw [if_neg h0,List.getD_eq_getElem?_getD]
  have:v.toNat<vars:=by omega
  simp only [vsW,List.getElem?_map,List.getElem?_range this,Option.map_some,Option.getD_some]
  rw [Int.toNat_of_nonneg (by omega)]
theorem Qvs:PsOk (Zw l vars cnt) vars:=by
 have h:∀ p∈Zw l vars cnt,-1≤p.v∧p.v<vars:=fun p hp=>by
  have h2:=(List.mem_filter.1 hp).2
  unfold QQ at h2
  simp only [Bool.and_eq_true,decide_eq_true_eq] at h2
  exact h2.1
 refine ⟨fun p hp=>?_,h⟩
 rcases QlB hp with h | h | h
 ·exact .inl h.1
 ·exact .inr (.inl h.1)
 ·exact .inr (.inr h)
theorem pl_pair {p:Pr} (hp:p∈ps) (hk:p.k=k) (h0:0≤p.n) (hr:p.n.toNat<n):(plW L ps b vars k f n).getD p.n.toNat 0=hvW L ps b vars p.v:=by
 have hpb:Xb ps k ((p.n.toNat:Nat):Int)=true:=List.any_eq_true.2 ⟨p,hp,by simp [hk,Int.toNat_of_nonneg h0]⟩
 rw [Qop hr,if_pos hpb,← Qys hp]
 have:(⟨0,k,((p.n.toNat:Nat):Int)⟩:Pr)=pE p:=by simp [pE,hk,Int.toNat_of_nonneg h0]
 rw [this]
theorem hoOk {nx:Int} (hl64:∀ x∈l,i64 x.n) (ps:List Pr) (hps:ps=Zw l vars cnt) (hA:AllH L (frS ps b vars).1) (hnb:nx≤b) (hv:-1≤v∧v<vars):HoOk L ps (vsW L ps b vars) (hvW L ps b vars (-1)) (rsW L0 L ps b nx vars) (ssW L0 L ps b nx vars cnt) vars nx (frS ps b vars).2 v:=by
 have hok:PsOk ps vars:=hps▸Qvs
 have hk0:=hok.k0
 refine ⟨fun inn hti p hp hpi=>?_,fun inn hti l1 p l2 he h1 h3 hpi=>?_,fun inn hti hno=>?_,?_,fun p hp=>?_,fun p hp=>?_⟩
 ·have hpv:=hok.v p hp
  rw [QjX hv,QjX hpv]
  have hc:=QAD (L:=L) (b:=b) (vars:=vars) (hti.conn p.v hpi)
  refine ⟨hc,?_⟩
  have hat:=QlB (hps▸hp)
  rcases hat with ⟨h1,r,h2,h3⟩ | ⟨h1,r,h2,h3⟩ | h1
  ·exact .inl (.inl ⟨h1,by omega,by omega,(pl_pair hp h1 (by omega) (by omega)).trans hc⟩)
  ·exact .inl (.inr ⟨h1,by omega,by rw [Qdq]; omega,(pl_pair hp h1 (by omega) (by omega)).trans hc⟩)
  ·exact .inr h1
 ·rw [QjX hv]
  exact QIx hA hv hk0 hti he h1 h3 hpi
 ·rw [QjX hv]
  obtain ⟨c,h1,h2,h3,h4,h5⟩:=QIw hA hv hk0 hti hno
  exact ⟨c,h1,h2,by omega,h4,fun u hu hni=>by rw [QjX hu]; exact h5 u hu hni⟩
 ·rw [QjX hv]
  obtain ⟨t,_,h2,h3⟩:=Qfs hA hv
  have:=Qfr h3
  rw [h2]
  exact ⟨this.1,by have:=(List.getElem?_eq_some_iff.1 this.2).1; omega⟩
 ·have:p∈srt l:=(List.mem_filter.1 (hps▸hp)).1
  exact hl64 p ((Qma).1 this)
 ·rw [Qly]; exact hok.v p hp
theorem apOk {nx:Int} (hA:AllH L (frS ps b vars).1) (hR:AllR L0 nx 32) (hS:AllS L0 nx cnt) (hE:Ext L0 L) (hb:b=nx+30+((cnt:Nat):Int)):ApOk L ps (vsW L ps b vars) (hvW L ps b vars (-1)) (rsW L0 L ps b nx vars) (ssW L0 L ps b nx vars cnt) nx (frS ps b vars).2:=by
 refine ⟨fun r h1 h2 h3 hp=>?_,fun i hi hp=>?_,fun c hc=>?_⟩
 ·rw [Qop h2,hp]
  have h4:=hR r h2 h3
  simp only [Bool.false_eq_true,if_false]
  rw [QsU h1 h3]
  unfold QqR at h4
  rw [if_neg (by omega)] at h4
  exact (Xm (show Hs L0 (sy (rNo nx r)) from h4) hE).symm
 ·rw [Qdq] at hi
  rw [Qop hi,hp]
  simp only [Bool.false_eq_true,if_false]
  exact (Xm (hS i hi) hE).symm
 ·rw [Qdq] at hc
  obtain ⟨h1,h2,h3⟩:=QAR hR hS hc
  have hcb:c<b:=by omega
  have hle:=frS_le (ps:=ps) (b:=b) (vars:=vars)
  refine ⟨h1,by omega,h3.ext hE,Qtj hA (v:=-1) ⟨by omega,by omega⟩ (h3.ext hE) hcb,fun x hx=>?_⟩
  obtain ⟨j,hj,rfl⟩:=List.mem_map.1 hx
  have:=List.mem_range.1 hj
  exact Qtj hA ⟨by omega,by omega⟩ (h3.ext hE) hcb
variable {P:Program} {G:Nat→Option V}
section
attribute [local go_sem] nF nT aA cA List.drop_nil List.drop_succ_cons List.drop_zero List.getD_cons_succ List.getD_cons_zero lA lC lN nA List.set_cons_succ List.set_cons_zero tN tS tZ aZ lR Nat.mul_one Nat.one_mul Nat.succ_ne_zero zA zL Nat.zero_mul Option.getD_none Option.getD_some Option.isSome_none Option.isSome_some and_true beq_self_eq_true bne_self_eq_false decide_false decide_true false_implies Qde ge_iff_le gt_iff_lt Qj Qz not_false_eq_true not_true_eq_false proofmarklaw25_RelateFresh Qu7 Qu6 Qoh Qog Qof Qjx Qjw Qjv Qju Qoe Qjt Qjs Qu5 Qjr Qjq Qod Qu4 Qu3 Qu2 Qu1 Qu0 QuZ QuY Qk true_and true_implies
theorem HoOk.ext {L L':List Nd} {ps:List Pr} {vs:List Int} {lk:Int} {rs ss:List Int} {vars nx bh v:Int} (h:HoOk L ps vs lk rs ss vars nx bh v) (e:Ext L L'):HoOk L' ps vs lk rs ss vars nx bh v:=by
 refine ⟨h.same,fun inn hti l1 p l2 he h1 h3 hpi=>?_,fun inn hti hno=>?_,⟨h.node.1,?_⟩,h.n64,h.pv⟩
 ·obtain ⟨h4,h5⟩:=h.num inn hti l1 p l2 he h1 h3 hpi
  exact ⟨by rw [Xm h5 e]; exact h4,h5.ext e⟩
 ·obtain ⟨c,h1,h2,h3,h4,h5⟩:=h.sym inn hti hno
  exact ⟨c,by rw [Xm h2 e]; exact h1,h2.ext e,h3,h4,h5⟩
 ·obtain ⟨M,rfl,_⟩:=e
  have:=h.node.2
  simp; omega
theorem ApOk.ext {L L':List Nd} {ps:List Pr} {vs:List Int} {lk:Int} {rs ss:List Int} {nx bh:Int} (hS:∀ r:Nat,1≤r→r<32→r≠2→Xb ps 1 (r:Int)=false→Hs L (sy (rNo nx r))) (hS2:∀ i:Nat,i<ss.length→Xb ps 2 (i:Int)=false→Hs L (sy (nx+30+(i:Int)))) (h:ApOk L ps vs lk rs ss nx bh) (e:Ext L L'):ApOk L' ps vs lk rs ss nx bh:=by
 refine ⟨fun r h1 h2 h3 hp=>?_,fun i hi hp=>?_,fun c hc=>?_⟩
 ·rw [Xm (hS r h1 h2 h3 hp) e]; exact h.reg r h1 h2 h3 hp
 ·rw [Xm (hS2 i hi hp) e]; exact h.slot i hi hp
 ·obtain ⟨h1,h2,h3,h4,h5⟩:=h.all c hc
  rw [Xm h3 e]
  exact ⟨h1,h2,h3.ext e,h4,h5⟩
abbrev rfJ (F:Fmt P G) (v0 v1:Nat) (L:List Nd) (ps:List Pr) (n:Nat) (next bh:Int) (wv:List V):Nat→Fr→H→Prop:=fun i fr σ=>∃ L' t' w2 w3 w4,∃ u:Int,u=((i:Nat):Int) - 1∧Ext L L'∧L'.length≤L.length+i∧Qf fr 4=.int .i64 next∧Qf fr 11=.int .i64 ((n:Nat):Int)∧Qf fr 13=.ptr 1 v0 0∧Qf fr 14=.ref (.agg wv) 0∧Qf fr 15=.int .i64 bh∧Qf fr 17=.lst 3 (prs ps) false∧Qf fr 20=.int .i64 u∧σ=⟨t',kG F.fmt v0 v1 w2 w3 w4 L'⟩
abbrev rfE (F:Fmt P G) (v0 v1:Nat) (L:List Nd) (ps:List Pr) (n:Nat) (next bh:Int) (wv:List V):AE→Fr→H→Prop:=fun e fr σ=>∃ L' t' w2 w3 w4,e=.ex 2∧Ext L L'∧L'.length≤L.length+n+1∧Qf fr 4=.int .i64 next∧Qf fr 11=.int .i64 ((n:Nat):Int)∧Qf fr 13=.ptr 1 v0 0∧Qf fr 14=.ref (.agg wv) 0∧Qf fr 15=.int .i64 bh∧Qf fr 17=.lst 3 (prs ps) false∧σ=⟨t',kG F.fmt v0 v1 w2 w3 w4 L'⟩
variable {σ:Am.H} {fr:Fr} {wv:List V} {sure:Bool} {vs rs ss:List Int} {bh lk:Int} {ps:List Pr} {L:List Nd} {v0 v1 n i:Nat}
theorem Qz8 (hT:Qh P tab) (F:Fmt P G) {next:Int} (hwv:wv=wV vs lk rs ss sure) (hr:rs.length=32) (hvl:vs.length=n) (hn:n≤10) (hH:∀ v:Int,-1≤v∧v<n→HoOk L ps vs lk rs ss n (max 0 next) bh v) (hpl:ps.length≤1000) (hL:L.length≤20000) (hi:i<n+1) (hJ:rfJ F v0 v1 L ps n next bh wv i fr σ) :
 W P G 138 0 wq fr σ (YH (fun fr σ=>∃ fr' σ',Shift G 138 0 fr σ fr' σ'∧rfJ F v0 v1 L ps n next bh wv (i+1) fr' σ') (rfE F v0 v1 L ps n next bh wv)):=by
 obtain ⟨L',t',w2,w3,w4,u,hu,hE,hLl,f4,f11,f13,f14,f15,f17,f20,rfl⟩:=hJ
 have hwl:wv.length=36:=by rw [hwv]; simp [wV,Qj,hr]
 have htk:List.take 36 wv=wv:=List.take_of_length_le (by omega)
 have hlt:u<((n:Nat):Int):=by omega
 have e2:IntKind.i64.wrap (u+1)=u+1:=QcU (by omega)
 have hmax:(if (0:Int)<next then next else 0)=max 0 next:=by split <;> omega
 have hc:=fun t=>c_holds (P:=P) (G:=G) hT F (v0:=v0) (v1:=v1) (v2:=w2) (v3:=w3) (v4:=w4) (t:=t) (L:=L') (ps:=ps) (tg:=false) (vars:=n) (nx:=max 0 next) (bh:=bh) (v:=u) (lk:=lk) (vs:=vs) (rs:=rs) (ss:=ss) (sure:=sure) hr (by omega) ⟨by omega,hlt⟩ (by omega) ((hH u ⟨by omega,hlt⟩).ext hE) (by omega) (by omega)
 rw [← hwv] at hc
 refine Qe [(4,.int .i64 next),(11,.int .i64 ((n:Nat):Int)),(13,.ptr 1 v0 0),(14,.ref (.agg wv) 0),(15,.int .i64 bh),(17,.lst 3 (prs ps) false),(20,.int .i64 u)] ⟨f4,f11,f13,f14,f15,f17,f20,trivial⟩  12 ?_
 refine yc ?_
 iterate 12 (try (refine Qa 4 ?_; simp -implicitDefEqProofs (disch:=omega) only [go_sem,↓reduceIte,reduceCtorEq,rq,hwl,htk,hmax]))
 refine call hT t_proofmarklaw25_holds (hc _) 4 fun v σ hv=>?_
 obtain ⟨rfl,L2,t2,x2,x3,x4,h1,h2,rfl⟩:=hv
 refine ya ?_
 iterate 12 (try (refine Qa 4 ?_; simp -implicitDefEqProofs (disch:=omega) only [go_sem,↓reduceIte,rq,e2]))
 refine ⟨_,_,Shift.refl _ _ _ _,L2,t2,x2,x3,x4,u+1,by omega,hE.trans h1,by omega,?_⟩
 exact yb
theorem QHY (hT:Qh P tab) (F:Fmt P G) {next:Int} (hi:i=n+1) (hJ:rfJ F v0 v1 L ps n next bh wv i fr σ) :
 W P G 138 0 wq fr σ (YH (fun _ _=>False) (rfE F v0 v1 L ps n next bh wv)):=by
 obtain ⟨L',t',w2,w3,w4,u,hu,hE,hLl,f4,f11,f13,f14,f15,f17,f20,rfl⟩:=hJ
 have hlt:¬ u<((n:Nat):Int):=by omega
 refine Qe [(4,.int .i64 next),(11,.int .i64 ((n:Nat):Int)),(13,.ptr 1 v0 0),(14,.ref (.agg wv) 0),(15,.int .i64 bh),(17,.lst 3 (prs ps) false),(20,.int .i64 u)] ⟨f4,f11,f13,f14,f15,f17,f20,trivial⟩  12 ?_
 refine yc ?_
 refine ⟨L',t',w2,w3,w4,rfl,hE,by omega,?_⟩
 repeat' (first | exact rfl | refine ⟨rfl,?_⟩)
theorem rf_D (hT:Qh P tab) (F:Fmt P G) (hW:Works P G) {v2 v3 v4 t:Nat} {next:Int} (hwv:wv=wV vs lk rs ss sure) (hr:rs.length=32) (hvl:vs.length=n) (hsl:ss.length≤1000) (hn:n≤10) (hH:∀ v:Int,-1≤v∧v<n→HoOk L ps vs lk rs ss n (max 0 next) bh v) (hS:∀ r:Nat,1≤r→r<32→r≠2→Xb ps 1 (r:Int)=false→Hs L (sy (rNo (max 0 next) r))) (hS2:∀ i:Nat,i<ss.length→Xb ps 2 (i:Int)=false→Hs L (sy (max 0 next+30+(i:Int)))) (hA:ApOk L ps vs lk rs ss (max 0 next) bh) (hpl:ps.length≤1000) (hL:L.length≤20000) {Q:V→Am.H→Prop} (hQ:∀ σ,Q (.bool true) σ) :
 W P G 138 0 (XJ 11 proofmarklaw25_RelateFresh.body) [(4,.int .i64 next),(11,.int .i64 ((n:Nat):Int)),(13,.ptr 1 v0 0),(14,.ref (.agg wv) 0),(15,.int .i64 bh),(17,.lst 3 (prs ps) false)] ⟨t,kG F.fmt v0 v1 v2 v3 v4 L⟩ (QoH G proofmarklaw25_RelateFresh.res Q):=by
 show W P G 138 0 (.seq (.seq (.reg Qoe []) (.block 2 (.loop wq))) (.seq (.reg Qod [128,129,130,131,132,133,134,135,136,137]) .ret)) _ _ _
 have hwl:wv.length=36:=by rw [hwv]; simp [wV,Qj,hr]
 have htk:List.take 36 wv=wv:=List.take_of_length_le (by omega)
 have hmax:(if (0:Int)<next then next else 0)=max 0 next:=by split <;> omega
 have hW':Am.Pure P G Xh [] fun u=>u=.bool true:=hW
 refine Ql 12 ?_
 refine ya ?_
 refine YB (n+1) (rfJ F v0 v1 L ps n next bh wv) (rfE F v0 v1 L ps n next bh wv) ⟨L,t,v2,v3,v4,-1,by omega,Ext.refl L,by omega,?_⟩ (fun i hi fr σ hJ=>Qz8 hT F hwv hr hvl hn hH hpl hL hi hJ) (fun i hi fr σ hJ=>QHY hT F hi hJ) (fun e fr σ hE=>?_)
 ·refine ya ?_
  try simp
 ·obtain ⟨L',t',w2,w3,w4,rfl,hE,hLl,f4,f11,f13,f14,f15,f17,rfl⟩:=hE
  have hc:=QI8 (P:=P) (G:=G) hT (fmt:=F.fmt) (v0:=v0) (v1:=v1) (v2:=w2) (v3:=w3) (v4:=w4) (t:=t') (L:=L') (ps:=ps) (tg:=false) (nx:=max 0 next) (bh:=bh) (lk:=lk) (vs:=vs) (rs:=rs) (ss:=ss) (sure:=sure) hr (hA.ext hS hS2 hE) (by omega) (by omega) (by omega)
  rw [← hwv] at hc
  refine QV [(4,.int .i64 next),(11,.int .i64 ((n:Nat):Int)),(13,.ptr 1 v0 0),(14,.ref (.agg wv) 0),(15,.int .i64 bh),(17,.lst 3 (prs ps) false)] ⟨f4,f11,f13,f14,f15,f17,trivial⟩  12 ?_
  simp -implicitDefEqProofs (disch:=omega) only [go_sem,↓reduceIte,reduceCtorEq,rq,hwl,htk,hmax]
  iterate 12 (try (refine Qa 4 ?_; simp -implicitDefEqProofs (disch:=omega) only [go_sem,↓reduceIte,reduceCtorEq,rA,rq,rL,rT,Nat.reduceSub,Nat.reduceMul,Int.reduceToNat,Int.reduceLE,Int.reduceLT,Int.reduceEq,Int.reduceNe,Nat.reduceBEq,Nat.reduceBNe,Int.reduceBEq,List.getElem?_cons_zero,List.getElem?_cons_succ,hwl,htk,hmax]))
  refine call hT Z0 hc 4 fun v σ hv=>?_
  obtain ⟨rfl,t2,rfl⟩:=hv
  refine ya ?_
  iterate 12 (try (refine Qa 4 ?_; simp -implicitDefEqProofs (disch:=omega) only [go_sem,↓reduceIte,reduceCtorEq,rA,rq,rL,rT,Nat.reduceSub,Nat.reduceMul,Int.reduceToNat,Int.reduceLE,Int.reduceLT,Int.reduceEq,Int.reduceNe,Nat.reduceBEq,Nat.reduceBNe,Int.reduceBEq,List.getElem?_cons_zero,List.getElem?_cons_succ]))
  refine QX hT Xe hW' rfl 4 ?_
  refine ya ?_
  iterate 12 (try (refine Qa 4 ?_; simp -implicitDefEqProofs (disch:=omega) only [go_sem,↓reduceIte,rq]))
  exact hQ _
end
section
attribute [local go_sem] lC lN nA aZ lR zA zL and_true decide_false decide_true ge_iff_le Xx zqi_0 zqi_1 zqi_2 zqi_3 zqi_4 zqi_5 zqi_6 zqi_7 true_implies
theorem QuP (hT:Qh P tab) (p:Pr) (vars:Int) (cnt:Nat):Am.Pure P G Z1 [prV p,.int .i64 vars,.int .i64 ((cnt:Nat):Int)] fun u=>u=.bool (QQ vars cnt p):=by
 refine fun t=>Xq 0 (zL _) (Q0 hT Xd (by simp [Xx]) ?_)
 simp only [prV,prC]
 obtain ⟨B,hB⟩:∃ B,B=QQ vars cnt p:=⟨_,rfl⟩
 rw [← hB]
 by_cases h1:-1≤p.v
 ·by_cases h2:p.v<vars
  ·have hd:decide (-1≤p.v∧p.v<vars)=true:=decide_eq_true ⟨h1,h2⟩
   by_cases k1:p.k=1
   ·have k1':(p.k==1)=true:=by simpa using k1
    have hr:B=QkZ p.n:=by rw [hB]; simp [QQ,hd,k1]
    by_cases n1:1≤p.n
    ·by_cases n2:p.n≤31
     ·by_cases n3:p.n=2
      ·have n3':(p.n != 2)=false:=by simp [n3]
       have hr2:B=false:=by rw [hr]; simp [QkZ,n3]
       rw [hr2]
       refine Ql 8 ?_
       refine ya ?_
       iterate 30 (try (refine Qa 4 ?_; simp -implicitDefEqProofs (disch:=omega) only [go_sem,↓reduceIte,reduceCtorEq,rA,rq,rL,List.getElem?_cons_zero,h1,h2,k1',n1,n2,n3']))
       try simp
      ·have n3':(p.n != 2)=true:=by simpa using n3
       have hr2:B=true:=by rw [hr]; simp [QkZ,n1,n2,n3]
       rw [hr2]
       refine Ql 8 ?_
       refine ya ?_
       iterate 30 (try (refine Qa 4 ?_; simp -implicitDefEqProofs (disch:=omega) only [go_sem,↓reduceIte,reduceCtorEq,rA,rq,rL,List.getElem?_cons_zero,h1,h2,k1',n1,n2,n3']))
       try simp
     ·have hr2:B=false:=by rw [hr]; simp [QkZ,n2]
      rw [hr2]
      refine Ql 8 ?_
      refine ya ?_
      iterate 30 (try (refine Qa 4 ?_; simp -implicitDefEqProofs (disch:=omega) only [go_sem,↓reduceIte,reduceCtorEq,rA,rq,rL,List.getElem?_cons_zero,h1,h2,k1',n1,n2]))
      try simp
    ·have hr2:B=false:=by rw [hr]; simp [QkZ,n1]
     rw [hr2]
     refine Ql 8 ?_
     refine ya ?_
     iterate 30 (try (refine Qa 4 ?_; simp -implicitDefEqProofs (disch:=omega) only [go_sem,↓reduceIte,reduceCtorEq,rA,rq,rL,List.getElem?_cons_zero,h1,h2,k1',n1]))
     try simp
   ·have k1':(p.k==1)=false:=by simpa using k1
    by_cases k2:p.k=2
    ·have k2':(p.k==2)=true:=by simpa using k2
     have hr:B=decide (0≤p.n∧p.n<cnt):=by rw [hB]; simp [QQ,k2]; omega
     by_cases n1:0≤p.n
     ·by_cases n2:p.n<((cnt:Nat):Int)
      ·have hr2:B=true:=by rw [hr]; exact decide_eq_true ⟨n1,n2⟩
       rw [hr2]
       refine Ql 8 ?_
       refine ya ?_
       iterate 30 (try (refine Qa 4 ?_; simp -implicitDefEqProofs (disch:=omega) only [go_sem,↓reduceIte,reduceCtorEq,rA,rq,rL,List.getElem?_cons_zero,h1,h2,k1',k2',n1,n2]))
       try simp
      ·have hr2:B=false:=by rw [hr]; exact decide_eq_false (fun h=>n2 h.2)
       rw [hr2]
       refine Ql 8 ?_
       refine ya ?_
       iterate 30 (try (refine Qa 4 ?_; simp -implicitDefEqProofs (disch:=omega) only [go_sem,↓reduceIte,reduceCtorEq,rA,rq,rL,List.getElem?_cons_zero,h1,h2,k1',k2',n1,n2]))
       try simp
     ·have hr2:B=false:=by rw [hr]; exact decide_eq_false (fun h=>n1 h.1)
      rw [hr2]
      refine Ql 8 ?_
      refine ya ?_
      iterate 30 (try (refine Qa 4 ?_; simp -implicitDefEqProofs (disch:=omega) only [go_sem,↓reduceIte,reduceCtorEq,rA,rq,rL,List.getElem?_cons_zero,h1,h2,k1',k2',n1]))
      try simp
    ·have k2':(p.k==2)=false:=by simpa using k2
     by_cases k3:p.k=3
     ·have k3':(p.k==3)=true:=by simpa using k3
      have hr2:B=true:=by rw [hB]; simp [QQ,k3]; omega
      rw [hr2]
      refine Ql 8 ?_
      refine ya ?_
      iterate 30 (try (refine Qa 4 ?_; simp -implicitDefEqProofs (disch:=omega) only [go_sem,↓reduceIte,reduceCtorEq,rA,rq,rL,List.getElem?_cons_zero,h1,h2,k1',k2',k3']))
      try simp
     ·have k3':(p.k==3)=false:=by simpa using k3
      have hr2:B=false:=by rw [hB]; simp [QQ,k1,k2,k3]
      rw [hr2]
      refine Ql 8 ?_
      refine ya ?_
      iterate 30 (try (refine Qa 4 ?_; simp -implicitDefEqProofs (disch:=omega) only [go_sem,↓reduceIte,reduceCtorEq,rA,rq,rL,List.getElem?_cons_zero,h1,h2,k1',k2',k3']))
      try simp
  ·have hr2:B=false:=by rw [hB]; simp [QQ]; omega
   rw [hr2]
   by_cases k1:p.k=1
   ·have k1':(p.k==1)=true:=by simpa using k1
    refine Ql 8 ?_
    refine ya ?_
    iterate 30 (try (refine Qa 4 ?_; simp -implicitDefEqProofs (disch:=omega) only [go_sem,↓reduceIte,reduceCtorEq,rA,rq,rL,List.getElem?_cons_zero,h1,h2,k1']))
    try simp
   ·have k1':(p.k==1)=false:=by simpa using k1
    by_cases k2:p.k=2
    ·have k2':(p.k==2)=true:=by simpa using k2
     refine Ql 8 ?_
     refine ya ?_
     iterate 30 (try (refine Qa 4 ?_; simp -implicitDefEqProofs (disch:=omega) only [go_sem,↓reduceIte,reduceCtorEq,rA,rq,rL,List.getElem?_cons_zero,h1,h2,k1',k2']))
     try simp
    ·have k2':(p.k==2)=false:=by simpa using k2
     refine Ql 8 ?_
     refine ya ?_
     iterate 30 (try (refine Qa 4 ?_; simp -implicitDefEqProofs (disch:=omega) only [go_sem,↓reduceIte,reduceCtorEq,rA,rq,rL,List.getElem?_cons_zero,h1,h2,k1',k2']))
     try simp
 ·have hr2:B=false:=by rw [hB]; simp [QQ]; omega
  rw [hr2]
  by_cases k1:p.k=1
  ·have k1':(p.k==1)=true:=by simpa using k1
   refine Ql 8 ?_
   refine ya ?_
   iterate 30 (try (refine Qa 4 ?_; simp -implicitDefEqProofs (disch:=omega) only [go_sem,↓reduceIte,reduceCtorEq,rA,rq,rL,List.getElem?_cons_zero,h1,k1']))
   try simp
  ·have k1':(p.k==1)=false:=by simpa using k1
   by_cases k2:p.k=2
   ·have k2':(p.k==2)=true:=by simpa using k2
    refine Ql 8 ?_
    refine ya ?_
    iterate 30 (try (refine Qa 4 ?_; simp -implicitDefEqProofs (disch:=omega) only [go_sem,↓reduceIte,reduceCtorEq,rA,rq,rL,List.getElem?_cons_zero,h1,k1',k2']))
    try simp
   ·have k2':(p.k==2)=false:=by simpa using k2
    refine Ql 8 ?_
    refine ya ?_
    iterate 30 (try (refine Qa 4 ?_; simp -implicitDefEqProofs (disch:=omega) only [go_sem,↓reduceIte,reduceCtorEq,rA,rq,rL,List.getElem?_cons_zero,h1,k1',k2']))
    try simp
end
section
attribute [local go_sem] nT lR zA zL decide_false decide_true Qz proofmarklaw25_RelateFresh Qu7 Qu6 Qoh Qog Qof Qjx Qjw Qjv Qju Qoe Qjt Qjs Qu5 Qjr Qjq Qod Qu4 Qu3 Qu2 Qu1 Qu0 QuZ QuY
structure WdOk (L:List Nd) (ps:List Pr) (n:Nat) (nx bh lk:Int) (vs rs ss:List Int):Prop where
 ho:∀ v:Int,-1≤v∧v<n→HoOk L ps vs lk rs ss n nx bh v
 s1:∀ r:Nat,1≤r→r<32→r≠2→Xb ps 1 (r:Int)=false→Hs L (sy (rNo nx r))
 s2:∀ i:Nat,i<ss.length→Xb ps 2 (i:Int)=false→Hs L (sy (nx+30+(i:Int)))
 ap:ApOk L ps vs lk rs ss nx bh
theorem WdOk.ext {L L':List Nd} {ps:List Pr} {n:Nat} {nx bh lk:Int} {vs rs ss:List Int} (h:WdOk L ps n nx bh lk vs rs ss) (e:Ext L L'):WdOk L' ps n nx bh lk vs rs ss :=
 ⟨fun v hv=>(h.ho v hv).ext e,fun r h1 h2 h3 h4=>(h.s1 r h1 h2 h3 h4).ext e,fun i h1 h2=>(h.s2 i h1 h2).ext e,h.ap.ext h.s1 h.s2 e⟩
abbrev rcS (fmt:Int→List UInt8) (v0 v1 v2 v3 v4 t w:Nat) (L:List Nd) (q:List Pr):Am.H:=⟨t,kG fmt v0 v1 v2 v3 v4 L++[some (.arr w 28 (fl prC q))]⟩
abbrev rcJ (fmt:Int→List UInt8) (v0 v1 v2 v3 v4:Nat) (L:List Nd) (s:List Pr) (n cnt:Nat) (next bh:Int) (wv:List V):Nat→Fr→H→Prop:=fun i fr σ=>∃ t w q,q=(s.take i).filter (QQ ((n:Nat):Int) cnt)∧Qf fr 4=.int .i64 next∧Qf fr 11=.int .i64 ((n:Nat):Int)∧Qf fr 13=.ptr 1 v0 0∧Qf fr 14=.ref (.agg wv) 0∧Qf fr 15=.int .i64 bh∧Qf fr 16=.int .i64 ((cnt:Nat):Int)∧Qf fr 18=.lst 3 (prs s) false∧Qf fr 17=.sl 5 w 0 3 q.length none∧Qf fr 19=.int .i64 ((i:Nat):Int)∧σ=rcS fmt v0 v1 v2 v3 v4 t w L q
abbrev rcE (fmt:Int→List UInt8) (v0 v1 v2 v3 v4:Nat) (L:List Nd) (s:List Pr) (n cnt:Nat) (next bh:Int) (wv:List V):AE→Fr→H→Prop:=fun e fr σ=>∃ t w q,e=.ex 0∧q=s.filter (QQ ((n:Nat):Int) cnt)∧Qf fr 4=.int .i64 next∧Qf fr 11=.int .i64 ((n:Nat):Int)∧Qf fr 13=.ptr 1 v0 0∧Qf fr 14=.ref (.agg wv) 0∧Qf fr 15=.int .i64 bh∧Qf fr 17=.sl 5 w 0 3 q.length none∧σ=rcS fmt v0 v1 v2 v3 v4 t w L q
variable {σ:Am.H} {fr:Fr} {wv:List V} {bh:Int} {s:List Pr} {L:List Nd} {v0 v1 v2 v3 v4 n cnt i:Nat} {fmt:Int→List UInt8}
theorem Qz9 (hT:Qh P tab) {next:Int} (hsl:s.length≤1000) {x:Pr} (hx:s[i]?=some x) (hJ:rcJ fmt v0 v1 v2 v3 v4 L s n cnt next bh wv i fr σ) :
 W P G 138 0 ww fr σ (YH (fun fr σ=>∃ fr' σ',Shift G 138 0 fr σ fr' σ'∧rcJ fmt v0 v1 v2 v3 v4 L s n cnt next bh wv (i+1) fr' σ') (rcE fmt v0 v1 v2 v3 v4 L s n cnt next bh wv)):=by
 obtain ⟨t,w,q,hq,f4,f11,f13,f14,f15,f16,f18,f17,f19,rfl⟩:=hJ
 have hlt:=(List.getElem?_eq_some_iff.1 hx).1
 have hD:=QaW hx
 have e2:=YJ hlt (by omega)
 have hst:(s.take (i+1)).filter (QQ ((n:Nat):Int) cnt)=q++if QQ ((n:Nat):Int) cnt x then [x] else []:=by
  rw [Qy hx,List.filter_append,← hq]
  cases h:QQ ((n:Nat):Int) cnt x <;> simp [h]
 have hql:q.length≤1000:=by
  have:=List.length_filter_le (QQ ((n:Nat):Int) cnt) (s.take i)
  rw [← hq,List.length_take] at this; omega
 have hH:=QuP (P:=P) (G:=G) hT x ((n:Nat):Int) cnt
 have hn:Qb [V.agg [V.int .i64 x.v,V.int .u8 x.k,V.int .i64 x.n],.int .i64 ((n:Nat):Int),.int .i64 ((cnt:Nat):Int)]=true:=by simp [Qb,Qd]
 simp only [prV,prC] at hD hH
 cases hm:QQ ((n:Nat):Int) cnt x with
 | true =>
   rw [hm] at hH
   rw [hm,if_pos rfl] at hst
   refine Qe [(4,.int .i64 next),(11,.int .i64 ((n:Nat):Int)),(13,.ptr 1 v0 0),(14,.ref (.agg wv) 0),(15,.int .i64 bh),(16,.int .i64 ((cnt:Nat):Int)),(18,.lst 3 (prs s) false),(17,.sl 5 w 0 3 q.length none),(19,.int .i64 ((i:Nat):Int))] ⟨f4,f11,f13,f14,f15,f16,f18,f17,f19,trivial⟩  12 ?_
   simp -implicitDefEqProofs (disch:=omega) only [go_sem,↓reduceIte,rq,Qk,hlt]
   iterate 12 (try (refine Qa 4 ?_; simp -implicitDefEqProofs (disch:=omega) only [go_sem,↓reduceIte,reduceCtorEq,rA,rq,Qk,false_implies,and_true,lC,lN,tS,tN,List.drop_zero,hlt,hD]))
   refine QX hT Xd hH hn 4 ?_
   refine ya ?_
   iterate 20 (try (refine Qa 4 ?_; simp -implicitDefEqProofs (disch:=omega) only [go_sem,↓reduceIte,reduceCtorEq,rA,rq,rL,Qk,YR,QoE,false_implies,true_and,and_true,cA,nA,lC,lN,tS,tZ,tN,List.drop_succ_cons,List.drop_zero,List.drop_nil,Qkg,QdB,hlt,hD,e2]))
   refine ⟨_,_,Shift.refl _ _ _ _,t+1,t,q++[x],hst.symm,?_⟩
   simp -implicitDefEqProofs (disch:=omega) only [go_sem,↓reduceIte,rq,and_true,lA,lC,lN]
 | false =>
   rw [hm] at hH
   rw [hm,if_neg (by simp),List.append_nil] at hst
   refine Qe [(4,.int .i64 next),(11,.int .i64 ((n:Nat):Int)),(13,.ptr 1 v0 0),(14,.ref (.agg wv) 0),(15,.int .i64 bh),(16,.int .i64 ((cnt:Nat):Int)),(18,.lst 3 (prs s) false),(17,.sl 5 w 0 3 q.length none),(19,.int .i64 ((i:Nat):Int))] ⟨f4,f11,f13,f14,f15,f16,f18,f17,f19,trivial⟩  12 ?_
   simp -implicitDefEqProofs (disch:=omega) only [go_sem,↓reduceIte,rq,Qk,hlt]
   iterate 12 (try (refine Qa 4 ?_; simp -implicitDefEqProofs (disch:=omega) only [go_sem,↓reduceIte,reduceCtorEq,rA,rq,Qk,false_implies,and_true,lC,lN,tS,tN,List.drop_zero,hlt,hD]))
   refine QX hT Xd hH hn 4 ?_
   refine ya ?_
   iterate 20 (try (refine Qa 4 ?_; simp -implicitDefEqProofs (disch:=omega) only [go_sem,↓reduceIte,rq,e2]))
   refine ⟨_,_,Shift.refl _ _ _ _,t,w,q,hst.symm,?_⟩
   exact yg
theorem QHZ (hT:Qh P tab) {next:Int} (hi:i=s.length) (hJ:rcJ fmt v0 v1 v2 v3 v4 L s n cnt next bh wv i fr σ) :
 W P G 138 0 ww fr σ (YH (fun _ _=>False) (rcE fmt v0 v1 v2 v3 v4 L s n cnt next bh wv)):=by
 obtain ⟨t,w,q,hq,f4,f11,f13,f14,f15,f16,f18,f17,f19,rfl⟩:=hJ
 rw [hi,List.take_length] at hq
 refine Qe [(4,.int .i64 next),(11,.int .i64 ((n:Nat):Int)),(13,.ptr 1 v0 0),(14,.ref (.agg wv) 0),(15,.int .i64 bh),(16,.int .i64 ((cnt:Nat):Int)),(18,.lst 3 (prs s) false),(17,.sl 5 w 0 3 q.length none),(19,.int .i64 ((i:Nat):Int))] ⟨f4,f11,f13,f14,f15,f16,f18,f17,f19,trivial⟩  12 ?_
 simp -implicitDefEqProofs (disch:=omega) only [go_sem,↓reduceIte,rq,Qk,hi,Nat.lt_irrefl]
 refine ⟨t,w,q,rfl,hq,?_⟩
 repeat' (first | exact rfl | refine ⟨rfl,?_⟩)
theorem rf_C (hT:Qh P tab) (F:Fmt P G) (hW:Works P G) {t:Nat} {l ps:List Pr} {tg:Bool} {next lk:Int} {vs rs ss:List Int} {sure:Bool} (hwv:wv=wV vs lk rs ss sure) (hr:rs.length=32) (hvl:vs.length=n) (hsl:ss.length≤1000) (hn:n≤10) (hps:ps=Zw l n cnt) (hO:WdOk L ps n (max 0 next) bh lk vs rs ss) (hl:l.length≤30) (hL:L.length≤20000) {Q:V→Am.H→Prop} (hQ:∀ σ,Q (.bool true) σ) :
 W P G 138 0 (XJ 8 proofmarklaw25_RelateFresh.body) [(0,.lst 3 (prs l) tg),(4,.int .i64 next),(11,.int .i64 ((n:Nat):Int)),(13,.ptr 1 v0 0),(14,.ref (.agg wv) 0),(15,.int .i64 bh),(16,.int .i64 ((cnt:Nat):Int))] ⟨t,kG F.fmt v0 v1 v2 v3 v4 L⟩ (QoH G proofmarklaw25_RelateFresh.res Q):=by
 have hsrt:=QlM l
 have hpl:ps.length≤1000:=by
  have:=List.length_filter_le (QQ ((n:Nat):Int) cnt) (srt l)
  rw [hps]; unfold Zw; omega
 have hD:=fun t=>rf_D (P:=P) (G:=G) hT F hW (v0:=v0) (v1:=v1) (v2:=v2) (v3:=v3) (v4:=v4) (t:=t) (next:=next) hwv hr hvl hsl hn hO.ho hO.s1 hO.s2 hO.ap hpl hL hQ
 show W P G 138 0 (.seq (.reg Qoh []) (.seq (.reg Qog [90,91,92]) (.seq (.seq (.reg Qof []) (.block 0 (.loop ww))) (XJ 11 proofmarklaw25_RelateFresh.body)))) _ _ _
 obtain ⟨T,hTT⟩:∃ c,c=XJ 11 proofmarklaw25_RelateFresh.body:=⟨_,rfl⟩
 rw [← hTT] at hD ⊢
 refine Ql 4 ?_
 refine ya ?_
 refine Xf (Shift.own (s:=17) (z:=0) (sz:=3) (T:=28) (yb) (by decide)) ?_
 simp -implicitDefEqProofs (disch:=omega) only [go_sem,↓reduceIte,reduceCtorEq,rq,H.push,QcM]
 refine Qa 8 ?_
 refine ya ?_
 refine QX hT Qw (Qja hT l tg (by omega)) (by simp [Qb,Qd]) 8 ?_
 refine ya ?_
 refine QX hT X3 (QrY hT l false (by omega)) (by simp [Qb,Qd]) 12 ?_
 refine ya ?_
 refine XS (srt l) (rcJ F.fmt v0 v1 v2 v3 v4 L (srt l) n cnt next bh wv) (rcE F.fmt v0 v1 v2 v3 v4 L (srt l) n cnt next bh wv) ⟨t+1,t,[],by simp,?_⟩ (fun i x hx fr σ hJ=>Qz9 hT (by omega) hx hJ) (fun i hi fr σ hJ=>QHZ hT hi hJ) (fun e fr σ hE=>?_)
 ·refine yu ?_
  try simp [fl]
 ·obtain ⟨t2,w,q,rfl,hq,f4,f11,f13,f14,f15,f17,rfl⟩:=hE
  have hqp:q=ps:=by rw [hps,hq]; rfl
  subst hqp
  refine Qax [(4,.int .i64 next),(11,.int .i64 ((n:Nat):Int)),(13,.ptr 1 v0 0),(14,.ref (.agg wv) 0),(15,.int .i64 bh),(17,.sl 5 w 0 3 q.length none)] ⟨f4,f11,f13,f14,f15,f17,trivial⟩ ?_
  refine Xf (Shift.freeze (k:=5) (v:=w) (T:=28) (cs:=fl prC q) (zL _) rfl (X9 prC QjG _)) ?_
  have hz:=Qle (k:=5) (w:=w) q
  have e5:(kG F.fmt v0 v1 v2 v3 v4 L++[some (Ob.arr w 28 (fl prC q))]).set 5 none=kG F.fmt v0 v1 v2 v3 v4 L++[none]:=rfl
  simp only [QC,QW,hz,e5,Z4 (lR 5),QA,Option.map_none]
  simp only [X8,rq,false_and,if_false]
  refine Xf (Shift.drop (XK (kG F.fmt v0 v1 v2 v3 v4 L) [none]) (lR _) (zL _)) ?_
  exact hD _
end
end Go.Proofs.YtfgccihafnjalaaGreatDoor
