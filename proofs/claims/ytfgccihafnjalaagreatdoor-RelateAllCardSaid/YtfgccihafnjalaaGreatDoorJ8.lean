/- lift.Begin: the first state. -/
import Derived.Test.YtfgccihafnjalaaGreatDoorJ6
import Derived.Test.YtfgccihafnjalaaGreatDoorJ4
import Derived.Test.YtfgccihafnjalaaGreatDoorJ7
import Derived.Test.YtfgccihafnjalaaGreatDoorJ5
import Derived.Test.YtfgccihafnjalaaGreatDoorY
open Nat renaming reduceEqDiff → rq, reduceAdd → rA, reduceLeDiff → rL, reduceLT → rT, zero_add → zA, le_refl → lR, zero_le → zL, add_zero → aZ
open List renaming length_cons → lC, length_nil → lN, take_succ_cons → tS, length_append → lA, nil_append → nA, cons_append → cA, append_assoc → aA, take_nil → tN, take_zero → tZ, length_map → lM
open Bool renaming not_false → nF, not_true → nT
namespace Go.Proofs.YtfgccihafnjalaaGreatDoor
open Go Go.Am Go.Re
set_option maxRecDepth 100000
variable {P:Program} {G:Nat→Option V}
section
attribute [local go_sem] nF nT aA cA lC lN nA tS tZ aZ lR Nat.mul_one zA zL and_true beq_self_eq_true decide_false decide_true false_implies gt_iff_lt Qkg Qnh Qsl QAB QAA Qbc Qh2 Qny Qnx Qdb zql_0 zql_1 QwA Qwz Qwy Qwx QBH Qww Qwv Qwu QBG zql_2 zql_3 zql_4 QFO QFN QFM QFL QFK Qz not_false_eq_true true_and true_implies
def QqR (b:Int) (r:Nat):Nd:=if r=0 then co 0 else sy (b+(if r=1 then 0 else (r:Int) - 2))
def Qfd (L:List Nd) (b:Int) (r:Nat):Int:=if r=2 then -1 else Xc L (QqR b r)
def Qda (r:Nat):Int:=if r≤1 then 0 else if r≤3 then 1 else (r:Int) - 2
def Qdn (L:List Nd) (b:Int) (k:Nat):List V:=(List.range 32).map fun r=>.int .i64 (if r<k then Qfd L b r else 0)
def Y8 (L:List Nd) (b:Int) (k:Nat):List V:=(List.range k).map fun i:Nat=>.int .i64 (Xc L (sy (b+30+((i:Nat):Int))))
def AllR (L:List Nd) (b:Int) (k:Nat):Prop:=∀ r,r<k→r≠2→Hs L (QqR b r)
def AllS (L:List Nd) (b:Int) (k:Nat):Prop:=∀ i:Nat,i<k→Hs L (sy (b+30+(i:Int)))
theorem AllR.ext {L L':List Nd} {b:Int} {k:Nat} (h:AllR L b k) (e:Ext L L'):AllR L' b k:=fun r hr h2=>(h r hr h2).ext e
theorem AllS.ext {L L':List Nd} {b:Int} {k:Nat} (h:AllS L b k) (e:Ext L L'):AllS L' b k:=fun i hi=>(h i hi).ext e
variable {k v0 v1 v2 v3 v4 m wg wf wn wx:Nat} {b:Int} {L L':List Nd}
theorem QlT (h:AllR L b k) (e:Ext L L'):Qdn L b k=Qdn L' b k:=by
 unfold Qdn
 refine List.map_congr_left fun r _=>?_
 split
 ·rename_i hr
  unfold Qfd
  split
  ·rfl
  ·rename_i h2; rw [Xm (h r hr h2) e]
 ·rfl
theorem Qvq (h:AllS L b k) (e:Ext L L'):Y8 L b k=Y8 L' b k:=by
 unfold Y8
 refine List.map_congr_left fun i hi=>?_
 rw [Xm (h i (List.mem_range.1 hi)) e]
theorem QxP (L:List Nd) (b:Int) (hk:k<32):(Qdn L b k).set k (.int .i64 (Qfd L b k))=Qdn L b (k+1):=by
 unfold Qdn
 apply List.ext_getElem?
 intro j
 by_cases hj:j=k
 ·subst hj
  rw [List.getElem?_set_self (by simp; omega)]
  simp [hk]
 ·rw [List.getElem?_set_ne (Ne.symm hj)]
  simp only [List.getElem?_map]
  cases hr:(List.range 32)[j]? with
  | none=>rfl
  | some r =>
    have:r=j:=by have:=List.getElem?_eq_some_iff.1 hr; obtain ⟨h1,h2⟩:=this; simpa using h2.symm
    subst this
    simp only [Option.map_some]
    congr 2
    have:(r<k)↔(r<k+1):=by omega
    simp only [this]
theorem XM (L:List Nd) (b:Int) (k:Nat):(Qdn L b k).length=32:=by simp [Qdn]
theorem Qvp (L:List Nd) (b:Int) (k:Nat):(Y8 L b k).length=k:=by simp [Y8]
theorem QsQ (L:List Nd) (b:Int) (k:Nat):Y8 L b k++[.int .i64 (Xc L (sy (b+30+(k:Int))))]=Y8 L b (k+1):=by simp [Y8,List.range_succ]
def stC (L:List Nd) (b:Int) (k:Nat) (sl:V) (sure:Bool):List V:=Qdn L b k++[sl,.bool sure]
theorem QsP (L:List Nd) (b:Int) (hk:k<32) (sl:V) (sure:Bool):(stC L b k sl sure).take k++V.int .i64 (Qfd L b k)::(stC L b k sl sure).drop (k+1)=stC L b (k+1) sl sure:=by
 unfold stC
 rw [List.take_append_of_le_length (by rw [XM]; omega),List.drop_append_of_le_length (by rw [XM]; omega)]
 rw [← QxP L b hk,List.set_eq_take_append_cons_drop,if_pos (by rw [XM]; omega)]
 simp
def Zk (m:Nat) (params:Int):Nat:=m+(max 0 (min params 6)).toNat
variable {x0 x1 x2 x3 x4 x5:Option Ob} {fmt:Int→List UInt8}
theorem Qnz {ex:List (Option Ob)}:(kG fmt v0 v1 v2 v3 v4 L++x0::x1::x2::x3::x4::x5::ex)[10]?=some x5:=rfl
theorem QgB {ex:List (Option Ob)} {y:Option Ob}:(kG fmt v0 v1 v2 v3 v4 L++x0::x1::x2::x3::x4::x5::ex).set 10 y=kG fmt v0 v1 v2 v3 v4 L++x0::x1::x2::x3::x4::y::ex:=rfl
theorem QcM:(kG fmt v0 v1 v2 v3 v4 L).length=5:=rfl
def beH (m v0 wg wf wn wr wx:Nat) (zs:List V) (b:Int) (cs:List V):List (Option Ob):=[some (.arr wg 41 [.ptr 1 v0 0]),some (.arr wf 39 (fnC m)),some (.arr wn 2 [.int .i64 b]),some (.arr wr 47 zs),some (.arr wx 47 cs)]
abbrev beJ (F:Fmt P G) (params:Int) (m v0 v1 wg wf wn wr wx:Nat) (zs:List V) (L:List Nd) (b:Int) (sure:Bool):Nat→Fr→H→Prop:=fun i fr σ=>∃ L' t' v2' v3' v4',Ext L L'∧L'.length≤L.length+i∧AllR L' b i∧Qf fr 2=.int .i64 params∧Qf fr 4=.ptr 5 wg 0∧Qf fr 5=.ptr 6 wf 0∧Qf fr 7=.ptr 7 wn 0∧Qf fr 8=.ptr 8 wr 0∧Qf fr 10=.fn (.func 50) [] [.ptr 7 wn 0,.ptr 5 wg 0]∧Qf fr 11=.ptr 9 wx 0∧Qf fr 20=.int .i64 ((i:Nat):Int)∧σ=⟨t',kG F.fmt v0 v1 v2' v3' v4' L'++beH m v0 wg wf wn wr wx zs (b+Qda i) (stC L' b i (.lst 0 [] true) sure)⟩
abbrev beE (F:Fmt P G) (params:Int) (m v0 v1 wg wf wn wr wx:Nat) (zs:List V) (L:List Nd) (b:Int) (sure:Bool):AE→Fr→H→Prop:=fun e fr σ=>∃ L' t' v2' v3' v4',e=.ex 0∧Ext L L'∧L'.length≤L.length+32∧AllR L' b 32∧Qf fr 2=.int .i64 params∧Qf fr 4=.ptr 5 wg 0∧Qf fr 5=.ptr 6 wf 0∧Qf fr 7=.ptr 7 wn 0∧Qf fr 8=.ptr 8 wr 0∧Qf fr 10=.fn (.func 50) [] [.ptr 7 wn 0,.ptr 5 wg 0]∧Qf fr 11=.ptr 9 wx 0∧σ=⟨t',kG F.fmt v0 v1 v2' v3' v4' L'++beH m v0 wg wf wn wr wx zs (b+30) (stC L' b 32 (.lst 0 [] true) sure)⟩
theorem AllR.succ (h:AllR L b k) (hk:k≠2→Hs L (QqR b k)):AllR L b (k+1):=fun r hr h2=>by
 by_cases e:r=k
 ·subst e; exact hk h2
 ·exact h r (by omega) h2
theorem QgN (L:List Nd) (b:Int) (k:Nat) (sl:V) (sure:Bool):(stC L b k sl sure).length=34:=by simp [stC,XM]
variable {σ:H} {fr:Fr} {sure:Bool} {zs:List V}
theorem QBk (hT:Qh P tab) (F:Fmt P G) {params:Int} {wr:Nat} (hb:0≤b∧b≤1099511627776) (hL:L.length≤10000) {i:Nat} (hi:i<32) (hJ:beJ F params m v0 v1 wg wf wn wr wx zs L b sure i fr σ) :
 W P G 61 0 (zg QFO [] (.seq (zw 21 .skip (.exit 0)) (.seq (.block 1 (zg QFN [22] (zg QFM [] (.block 2 (zg QFL [30] (zw 29 (.reg QFK [31,32,33,34,35]) (zg QwA [37] (zw 36 (.reg Qwz [38,39,40]) (.reg Qwy [24,25,26,27,28]))))))))) (.reg Qwx [41])))) fr σ (YH (fun fr σ=>∃ fr' σ',Shift G 61 0 fr σ fr' σ'∧beJ F params m v0 v1 wg wf wn wr wx zs L b sure (i+1) fr' σ') (beE F params m v0 v1 wg wf wn wr wx zs L b sure)):=by
 obtain ⟨L',t',v2',v3',v4',hE,hLl,hA,f2,f4,f5,f7,f8,f10,f11,f20,rfl⟩:=hJ
 have e2:IntKind.i64.wrap ((i:Int)+1)=((i+1:Nat):Int):=YJ (n:=33) (by omega) (by omega)
 have hlt:((i:Nat):Int)<32:=by omega
 have hsl:=QgN L' b i (.lst 0 [] true) sure
 simp only [beH]
 have hreg:∀ L2,V.int .i64 (Qfd L2 b i)=V.int .i64 (if i=2 then -1 else Xc L2 (QqR b i)):=fun L2=>rfl
 by_cases h0:i=0
 ·have h0':(((i:Nat):Int)==0)=true:=by rw [beq_iff_eq]; omega
  have h0'':((i:Nat):Int)=0:=by omega
  refine Qe [(2,.int .i64 params),(4,.ptr 5 wg 0),(5,.ptr 6 wf 0),(7,.ptr 7 wn 0),(8,.ptr 8 wr 0),(10,.fn (.func 50) [] [.ptr 7 wn 0,.ptr 5 wg 0]),(11,.ptr 9 wx 0),(20,.int .i64 ((i:Nat):Int))] ⟨f2,f4,f5,f7,f8,f10,f11,f20,trivial⟩  1000 ?_
  simp -implicitDefEqProofs (disch:=omega) only [go_sem,↓reduceIte,rq,Int.reduceLT,h0'']
  refine call hT XD (QdA hT F (n:=0) (by unfold i64; omega) (by omega)) 1000 fun v σ hv=>?_
  obtain ⟨L2,t2,w2,w3,w4,x1,x2,x3,x4,rfl,rfl⟩:=hv
  have hcell:stC L' b i (.lst 0 [] true) sure=stC L2 b i (.lst 0 [] true) sure:=by unfold stC; rw [QlT hA x1]
  have hreg2:Xc L2 (co 0)=Qfd L2 b i:=by simp [Qfd,QqR,h0]
  have hst:=QsP L2 b hi (.lst 0 [] true) sure
  have hmd:Qda (i+1)=Qda i:=by simp [Qda,h0]
  rw [hcell,hreg2]
  have hsl2:=QgN L2 b i (.lst 0 [] true) sure
  simp -implicitDefEqProofs (disch:=omega) only [go_sem,↓reduceIte,rq,rL,Int.reduceToNat,Int.reduceLE,hsl2]
  refine ⟨_,_,Shift.refl _ _ _ _,L2,t2,w2,w3,w4,hE.trans x1,by omega,(hA.ext x1).succ fun _=>by rw [QqR,if_pos h0]; exact x2,?_⟩
  rw [hmd]
  refine ya ?_
  rw [← hst]
  subst h0
  exact ⟨rfl,rfl⟩
 have h0':(((i:Nat):Int)==0)=false:=by rw [beq_eq_false_iff_ne]; omega
 have h0'':¬ ((i:Nat):Int)=0:=by omega
 by_cases h2:i=2
 ·have h2':(((i:Nat):Int)==2)=true:=by rw [beq_iff_eq]; omega
  have h2'':((i:Nat):Int)=2:=by omega
  have hreg2:(-1:Int)=Qfd L' b i:=by simp [Qfd,h2]
  have hst:=QsP L' b hi (.lst 0 [] true) sure
  have hmd:Qda (i+1)=Qda i:=by simp [Qda,h2]
  rw [← hreg2] at hst
  refine Qe [(2,.int .i64 params),(4,.ptr 5 wg 0),(5,.ptr 6 wf 0),(7,.ptr 7 wn 0),(8,.ptr 8 wr 0),(10,.fn (.func 50) [] [.ptr 7 wn 0,.ptr 5 wg 0]),(11,.ptr 9 wx 0),(20,.int .i64 ((i:Nat):Int))] ⟨f2,f4,f5,f7,f8,f10,f11,f20,trivial⟩  1000 ?_
  simp -implicitDefEqProofs (disch:=omega) only [go_sem,↓reduceIte,rA,rq,rL,Int.reduceToNat,Int.reduceLE,Int.reduceLT,Int.reduceEq,h2'',hsl]
  refine ⟨_,_,Shift.refl _ _ _ _,L',t',v2',v3',v4',hE,by omega,hA.succ fun h=>absurd h2 h,?_⟩
  rw [hmd]
  refine ya ?_
  rw [← hst]
  subst h2
  exact ⟨rfl,rfl⟩
 have h2':(((i:Nat):Int)==2)=false:=by rw [beq_eq_false_iff_ne]; omega
 have h2'':¬ ((i:Nat):Int)=2:=by omega
 have hmb:0≤Qda i∧Qda i≤30:=by unfold Qda; split <;> (try split) <;> omega
 have hmd:Qda (i+1)=Qda i+1:=by
  unfold Qda
  repeat' split
  all_goals omega
 have hrn:QqR b i=sy (b+Qda i):=by
  rw [QqR,if_neg h0]
  congr 2
  unfold Qda
  repeat' split
  all_goals omega
 refine Qe [(2,.int .i64 params),(4,.ptr 5 wg 0),(5,.ptr 6 wf 0),(7,.ptr 7 wn 0),(8,.ptr 8 wr 0),(10,.fn (.func 50) [] [.ptr 7 wn 0,.ptr 5 wg 0]),(11,.ptr 9 wx 0),(20,.int .i64 ((i:Nat):Int))] ⟨f2,f4,f5,f7,f8,f10,f11,f20,trivial⟩  1000 ?_
 simp -implicitDefEqProofs (disch:=omega) only [go_sem,↓reduceIte,rq,hlt,h0',h2']
 refine QA4 hT Qby (Qyh hT F (X:=some (.arr wf 39 (fnC m))) (ex:=[some (.arr wr 47 zs),some (.arr wx 47 (stC L' b i (.lst 0 [] true) sure))]) (b:=b+Qda i) (by omega) (by omega) (by omega)) 1000 fun v σ hv=>?_
 obtain ⟨L2,t2,w2,w3,w4,x1,x2,x3,x4,rfl,rfl⟩:=hv
 have hcell:stC L' b i (.lst 0 [] true) sure=stC L2 b i (.lst 0 [] true) sure:=by unfold stC; rw [QlT hA x1]
 have hreg2:Xc L2 (sy (b+Qda i))=Qfd L2 b i:=by rw [Qfd,if_neg h2,hrn]
 have hst:=QsP L2 b hi (.lst 0 [] true) sure
 rw [hcell,hreg2]
 have hsl2:=QgN L2 b i (.lst 0 [] true) sure
 simp -implicitDefEqProofs (disch:=omega) only [go_sem,↓reduceIte,rq,rL,hsl2,hi,e2,hst]
 refine ⟨_,_,Shift.refl _ _ _ _,L2,t2,w2,w3,w4,hE.trans x1,by omega,(hA.ext x1).succ fun _=>by rw [hrn]; exact x2,?_⟩
 rw [hmd,← Int.add_assoc]
 refine ya ?_
 rfl
abbrev slJ (F:Fmt P G) (m v0 v1 wg wf wn wr wx cnt:Nat) (zs:List V) (L:List Nd) (b:Int) (sure:Bool):Nat→Fr→H→Prop:=fun k fr σ=>∃ L' t' v2' v3' v4' ws,Ext L L'∧L'.length≤L.length+32+k∧AllR L' b 32∧AllS L' b k∧Qf fr 7=.ptr 7 wn 0∧Qf fr 8=.ptr 8 wr 0∧Qf fr 10=.fn (.func 50) [] [.ptr 7 wn 0,.ptr 5 wg 0]∧Qf fr 11=.ptr 9 wx 0∧Qf fr 49=.int .i64 ((k:Nat):Int)∧Qf fr 48=.int .i64 ((cnt:Nat):Int)∧σ=⟨t',kG F.fmt v0 v1 v2' v3' v4' L'++(beH m v0 wg wf wn wr wx zs (b+30+((k:Nat):Int)) (stC L' b 32 (.sl 10 ws 0 1 k none) sure)++[some (.arr ws 44 (Y8 L' b k))])⟩
abbrev slE (F:Fmt P G) (m v0 v1 wg wf wn wr wx cnt:Nat) (zs:List V) (L:List Nd) (b:Int) (sure:Bool):AE→Fr→H→Prop:=fun e fr σ=>∃ L' t' v2' v3' v4' ws,e=.ex 3∧Ext L L'∧L'.length≤L.length+60∧AllR L' b 32∧AllS L' b cnt∧Qf fr 7=.ptr 7 wn 0∧Qf fr 8=.ptr 8 wr 0∧Qf fr 10=.fn (.func 50) [] [.ptr 7 wn 0,.ptr 5 wg 0]∧Qf fr 11=.ptr 9 wx 0∧σ=⟨t',kG F.fmt v0 v1 v2' v3' v4' L'++(beH m v0 wg wf wn wr wx zs (b+30+((cnt:Nat):Int)) (stC L' b 32 (.sl 10 ws 0 1 cnt none) sure)++[some (.arr ws 44 (Y8 L' b cnt))])⟩
theorem AllS.succ (h:AllS L b k) (hk:Hs L (sy (b+30+((k:Nat):Int)))):AllS L b (k+1):=fun r hr=>by
 by_cases e:r=k
 ·subst e; exact hk
 ·exact h r (by omega)
variable {sl:V}
theorem Qxy {sl':V}:(stC L b 32 sl sure).take 32++sl'::(stC L b 32 sl sure).drop 33=stC L b 32 sl' sure:=by
 unfold stC
 rw [List.take_append_of_le_length (by rw [XM]; omega),List.take_of_length_le (by rw [XM]; omega),List.drop_append,List.drop_of_length_le (by rw [XM]; omega),XM]
 simp
theorem QEP:(stC L b 32 sl sure).getD 32 V.any=sl:=by
 unfold stC
 rw [List.getD_eq_getElem?_getD,List.getElem?_append_right (by rw [XM]; omega),XM]
 rfl
theorem Qz1 (hT:Qh P tab) (F:Fmt P G) {wr cnt:Nat} (hb:0≤b∧b≤1099511627776) (hL:L.length≤10000) (hc:cnt≤20) (hk:k<cnt) (hJ:slJ F m v0 v1 wg wf wn wr wx cnt zs L b sure k fr σ) :
 W P G 61 0 (zg Qww [] (.seq (zw 50 .skip (.exit 3)) (.seq (.block 4 (.reg Qwv [51,52,53,54,55,56,57])) (.reg Qwu [58])))) fr σ (YH (fun fr σ=>∃ fr' σ',Shift G 61 0 fr σ fr' σ'∧slJ F m v0 v1 wg wf wn wr wx cnt zs L b sure (k+1) fr' σ') (slE F m v0 v1 wg wf wn wr wx cnt zs L b sure)):=by
 obtain ⟨L',t',v2',v3',v4',ws,hE,hLl,hA,hS,f7,f8,f10,f11,f49,f48,rfl⟩:=hJ
 have e2:IntKind.i64.wrap ((k:Int)+1)=((k+1:Nat):Int):=YJ (n:=33) (by omega) (by omega)
 have hlt:((k:Nat):Int)<((cnt:Nat):Int):=by omega
 have hsl:=fun (L':List Nd) (s:V)=>QgN L' b 32 s sure
 simp only [beH,cA,nA]
 refine Qe [(7,.ptr 7 wn 0),(8,.ptr 8 wr 0),(10,.fn (.func 50) [] [.ptr 7 wn 0,.ptr 5 wg 0]),(11,.ptr 9 wx 0),(49,.int .i64 ((k:Nat):Int)),(48,.int .i64 ((cnt:Nat):Int))] ⟨f7,f8,f10,f11,f49,f48,trivial⟩  1000 ?_
 simp -implicitDefEqProofs (disch:=omega) only [go_sem,↓reduceIte,rA,rq,rL,hlt,hsl,QEP]
 with_reducible refine And.intro ?_ ?_
 all_goals (
  refine QA4 hT Qby (Qyh hT F (L:=L') (X:=some (.arr wf 39 (fnC m))) (ex:=[some (.arr wr 47 zs),some (.arr wx 47 (stC L' b 32 (.sl 10 ws 0 1 k none) sure)),some (.arr ws 44 (Y8 L' b k))]) (b:=b+30+((k:Nat):Int)) (by omega) (by omega) (by omega)) 1000 fun v σ hv=>?_
  obtain ⟨L2,t2,w2,w3,w4,x1,x2,x3,x4,rfl,rfl⟩:=hv
  have hcell:stC L' b 32 (.sl 10 ws 0 1 k none) sure=stC L2 b 32 (.sl 10 ws 0 1 k none) sure:=by unfold stC; rw [QlT hA x1]
  rw [hcell,Qvq hS x1]
  have hsz:=QsQ L2 b k
  simp -implicitDefEqProofs (disch:=omega) only [go_sem,↓reduceIte,reduceCtorEq,rA,rq,rL,Qnz,QgB,hsl,QEP,Qvp,hsz,e2,Qxy]
  repeat' (with_reducible refine And.intro ?_ ?_))
 all_goals (
  refine ⟨_,_,Shift.refl _ _ _ _,L2,t2+1,w2,w3,w4,t2,hE.trans x1,by omega,hA.ext x1,(hS.ext x1).succ x2,?_⟩
  rw [show b+30+((k+1:Nat):Int)=b+30+((k:Nat):Int)+1 by omega]
  refine ya ?_
  rfl)
theorem QJb (hT:Qh P tab) (F:Fmt P G) {t:Nat} (m:Nat) (hm:m≤4) (params next:Int) (hn:next≤1099511627776) (hL:L.length≤10000) :
 C P G 0 Qfp [.ptr 1 v0 0,.agg (fnC m),.int .i64 params,.int .i64 next] ⟨t,kG F.fmt v0 v1 v2 v3 v4 L⟩ fun v σ=>∃ L' t' v2' v3' v4' ws,Ext L L'∧L'.length≤L.length+60∧AllR L' (max 0 next) 32∧AllS L' (max 0 next) (Zk m params) ∧
   v=.tup [.agg (stC L' (max 0 next) 32 (.sl 10 ws 0 1 (Zk m params) none) (decide (m=0))),.int .i64 (max 0 next+30+(Zk m params:Nat))]∧σ=⟨t',kG F.fmt v0 v1 v2' v3' v4' L'++[none,none,none,none,none,some (.arr ws 44 (Y8 L' (max 0 next) (Zk m params)))]⟩:=by
 have hfr:((8 * (m:Int))==0)=decide (m=0):=by rw [Bool.eq_iff_iff,beq_iff_eq,decide_eq_true_eq]; omega
 have hmax:(if next > 0 then next else (0:Int))=max 0 next:=by split <;> omega
 have hmin:(if (6:Int)<params then (6:Int) else params)=min params 6:=by split <;> omega
 obtain ⟨b,hb⟩:∃ b,b=max 0 next:=⟨_,rfl⟩
 rw [← hb] at hmax ⊢
 obtain ⟨cnt,hcnt⟩:∃ cnt,cnt=Zk m params:=⟨_,rfl⟩
 rw [← hcnt]
 have hc20:cnt≤20:=by rw [hcnt]; unfold Zk; omega
 have hq:IntKind.i64.wrap (Int.tdiv (8 * (m:Int)) 8)=(m:Int):=by rw [Int.mul_tdiv_cancel_left _ (by omega),QcU (by omega)]
 have hsum:IntKind.i64.wrap ((m:Int)+max 0 (min params 6))=(cnt:Int):=by rw [QcU (by omega),hcnt]; unfold Zk; omega
 refine QoP (Q:=fun v σ=>∃ L' t' v2' v3' v4' ws A B C D E,Ext L L'∧L'.length≤L.length+60∧AllR L' b 32∧AllS L' b cnt∧v=.tup [.agg (stC L' b 32 (.sl 10 ws 0 1 cnt none) (decide (m=0))),.int .i64 (b+30+(cnt:Nat))]∧σ=⟨t',kG F.fmt v0 v1 v2' v3' v4' L'++[A,B,C,D,E,some (.arr ws 44 (Y8 L' b cnt))]⟩) ?_ fun v σ hv=>?_
 rotate_left
 ·obtain ⟨L',t',v2',v3',v4',ws,A,B,C',D,E,h1,h2,h3,h4,rfl,rfl⟩:=hv
  refine ⟨kG F.fmt v0 v1 v2' v3' v4' L'++[none,none,none,none,none,some (.arr ws 44 (Y8 L' b cnt))],t',?_,lR _,zL _,L',t',v2',v3',v4',ws,h1,h2,h3,h4,rfl,rfl⟩
  simp [Xw,kG]
 refine Q0 hT Qe7 (by simp [Qdb]) (Ql 20 ?_)
 simp only [fnC]
 simp -implicitDefEqProofs (disch:=omega) only [go_sem,↓reduceIte,reduceCtorEq,rA,rq,QcM,hmax]
 iterate 20 (try (refine Qa 4 ?_; simp -implicitDefEqProofs (disch:=omega) only [go_sem,↓reduceIte,reduceCtorEq,rA,rq,rL,hfr]))
 obtain ⟨wg,hwg⟩:∃ w,w=t:=⟨_,rfl⟩
 obtain ⟨wf,hwf⟩:∃ w,w=t+1:=⟨_,rfl⟩
 obtain ⟨wn,hwn⟩:∃ w,w=t+2:=⟨_,rfl⟩
 obtain ⟨wr,hwr⟩:∃ w,w=t+3:=⟨_,rfl⟩
 obtain ⟨wx,hwx⟩:∃ w,w=t+4:=⟨_,rfl⟩
 obtain ⟨zs,hzs⟩:∃ zs:List V,zs=List.replicate 32 (.int .i64 0)++[.lst 0 [] true,.bool false]:=⟨_,rfl⟩
 have hst0:stC L b 0 (.lst 0 [] true) (decide (m=0))=List.replicate 32 (.int .i64 0)++[.lst 0 [] true,.bool (decide (m=0))]:=by simp [stC,Qdn,List.map_const']
 have hm0:b+Qda 0=b:=by simp [Qda]
 refine YB 32 (beJ F params m v0 v1 wg wf wn wr wx zs L b (decide (m=0))) (beE F params m v0 v1 wg wf wn wr wx zs L b (decide (m=0))) ⟨L,t+5,v2,v3,v4,Ext.refl L,by omega,fun r hr=>by omega,?_⟩ (fun i hi fr σ hJ=>QBk hT F (by omega) hL hi hJ) (fun i hi fr σ hJ=>?_) (fun e fr σ hE=>?_)
 ·rw [hst0,hzs,hm0]
  subst hwg hwf hwn hwr hwx
  refine ⟨rfl,rfl,rfl,rfl,rfl,rfl,rfl,rfl,?_⟩
  simp only [beH,fnC]
  rfl
 ·obtain ⟨L',t',v2',v3',v4',hE,hLl,hA,f2,f4,f5,f7,f8,f10,f11,f20,rfl⟩:=hJ
  rw [hi] at hA hLl f20
  rw [hi]
  refine Qe [(2,.int .i64 params),(4,.ptr 5 wg 0),(5,.ptr 6 wf 0),(7,.ptr 7 wn 0),(8,.ptr 8 wr 0),(10,.fn (.func 50) [] [.ptr 7 wn 0,.ptr 5 wg 0]),(11,.ptr 9 wx 0),(20,.int .i64 ((32:Nat):Int))] ⟨f2,f4,f5,f7,f8,f10,f11,f20,trivial⟩ 12 ?_
  have h32:¬ (((32:Nat):Int)<32):=by omega
  refine ym ?_
  have hm30:Qda 32=30:=rfl
  rw [hm30]
  refine ⟨L',t',v2',v3',v4',rfl,hE,hLl,hA,?_⟩
  repeat' (first | exact rfl | refine ⟨rfl,?_⟩)
 ·obtain ⟨L',t',v2',v3',v4',rfl,hE,hLl,hA,f2,f4,f5,f7,f8,f10,f11,rfl⟩:=hE
  simp only [beH,fnC]
  refine QV [(2,.int .i64 params),(4,.ptr 5 wg 0),(5,.ptr 6 wf 0),(7,.ptr 7 wn 0),(8,.ptr 8 wr 0),(10,.fn (.func 50) [] [.ptr 7 wn 0,.ptr 5 wg 0]),(11,.ptr 9 wx 0)] ⟨f2,f4,f5,f7,f8,f10,f11,trivial⟩  12 ?_
  have hmx:(if (0:Int)<min params 6 then min params 6 else 0)=max 0 (min params 6):=by split <;> omega
  simp -implicitDefEqProofs (disch:=omega) only [go_sem,↓reduceIte,rA,rq,rL,Int.reduceEq,hq,hmin,hmx,hsum]
  iterate 20 (try (refine Qa 4 ?_; simp -implicitDefEqProofs (disch:=omega) only [go_sem]))
  have hc32:(stC L' b 32 (.lst 0 [] true) (decide (m=0)))[32]?=some (.lst 0 [] true):=by
   unfold stC; rw [List.getElem?_append_right (by rw [XM]; omega),XM]; rfl
  refine Xf (HShift.shift (HShift.ownAt 1 44 (k:=9) (p:=32) (v:=wx) (T':=47) (cs:=stC L' b 32 (.lst 0 [] true) (decide (m=0))) (zL _) rfl hc32)) ?_
  have hcs:∀ s:V,(stC L' b 32 (.lst 0 [] true) (decide (m=0))).set 32 s=stC L' b 32 s (decide (m=0)):=fun s=>by
   unfold stC; rw [List.set_append_right _ _ (by rw [XM]; omega),XM]; rfl
  simp only [Qnx,Qbc,Qeb,lC,lN,cA,nA,rA,hcs]
  refine YB cnt (slJ F m v0 v1 wg wf wn wr wx cnt zs L b (decide (m=0))) (slE F m v0 v1 wg wf wn wr wx cnt zs L b (decide (m=0))) ⟨L',t'+1,v2',v3',v4',t',hE,by omega,hA,fun i hi=>by omega,?_⟩ (fun k hk fr σ hJ=>Qz1 hT F (by omega) hL hc20 hk hJ) (fun k hk fr σ hJ=>?_) (fun e fr σ hE=>?_)
  ·rw [show b+30+((0:Nat):Int)=b+30 by omega]
   refine ya ?_
   exact ⟨rfl,rfl⟩
  ·obtain ⟨L2,t2,w2,w3,w4,ws,hE2,hL2,hA2,hS2,f7,f8,f10,f11,f49,f48,rfl⟩:=hJ
   rw [hk] at hS2 hL2 f49
   rw [hk]
   refine Qe [(7,.ptr 7 wn 0),(8,.ptr 8 wr 0),(10,.fn (.func 50) [] [.ptr 7 wn 0,.ptr 5 wg 0]),(11,.ptr 9 wx 0),(49,.int .i64 ((cnt:Nat):Int)),(48,.int .i64 ((cnt:Nat):Int))] ⟨f7,f8,f10,f11,f49,f48,trivial⟩ 12 ?_
   simp -implicitDefEqProofs (disch:=omega) only [go_sem,↓reduceIte,rq,Int.lt_irrefl]
   refine ⟨L2,t2,w2,w3,w4,ws,rfl,hE2,by omega,hA2,hS2,?_⟩
   repeat' (first | exact rfl | refine ⟨rfl,?_⟩)
  ·obtain ⟨L2,t2,w2,w3,w4,ws,rfl,hE2,hL2,hA2,hS2,f7,f8,f10,f11,rfl⟩:=hE
   simp only [beH,cA,nA]
   refine QV [(7,.ptr 7 wn 0),(8,.ptr 8 wr 0),(10,.fn (.func 50) [] [.ptr 7 wn 0,.ptr 5 wg 0]),(11,.ptr 9 wx 0)] ⟨f7,f8,f10,f11,trivial⟩  12 ?_
   have hsl:=QgN L2 b 32 (.sl 10 ws 0 1 cnt none) (decide (m=0))
   have htk:List.take 34 (stC L2 b 32 (.sl 10 ws 0 1 cnt none) (decide (m=0)))=stC L2 b 32 (.sl 10 ws 0 1 cnt none) (decide (m=0)):=List.take_of_length_le (by omega)
   have hzl:zs.length=34:=by rw [hzs]; simp
   have hdz:List.drop 34 zs=[]:=List.drop_of_length_le (by omega)
   have hon:ones (stC L2 b 32 (.sl 10 ws 0 1 cnt none) (decide (m=0))):=by
    unfold stC Qdn
    intro c hc
    simp only [List.mem_append,List.mem_map,List.mem_cons,List.not_mem_nil,or_false] at hc
    rcases hc with ⟨r,_,rfl⟩ | rfl | rfl <;> rfl
   simp -implicitDefEqProofs (disch:=omega) only [go_sem,↓reduceIte,reduceCtorEq,rq,hsl,htk,hdz,hzl,hon,List.append_nil]
   refine ⟨L2,t2,w2,w3,w4,ws,_,_,_,_,_,hE2,hL2,hA2,hS2,rfl,rfl,rfl⟩
end
section
attribute [local go_sem] nF nT aA cA List.drop_nil List.drop_succ_cons List.drop_zero lA lC lN nA List.set_cons_succ List.set_cons_zero tN tS tZ Nat.add_assoc aZ lR zA Option.getD_none Option.getD_some Option.isSome_none Option.isSome_some Qz QJ QEy QEx QEw QEv QI QEu QEt QEs QEr QEq
def upV (up:List (Pr × Pr)):List (V × V):=up.map fun p=>(prV p.1,prV p.2)
theorem QHI (up:List (Pr × Pr)) (x:Pr):Qng [Kd.i,Kd.i,Kd.i] (V.agg [.int .i64 x.v,.int .u8 x.k,.int .i64 x.n]) (upV up)=(Go.Re.look up x).map prV:=by
 show Qng [Kd.i,Kd.i,Kd.i] (prV x) (upV up)=_
 unfold Qng upV Go.Re.look
 induction up with
 | nil=>rfl
 | cons p up ih =>
   simp only [List.map_cons,List.find?_cons,Qoo]
   by_cases h:x=p.1
   ·subst h; simp
   ·have h':¬ p.1=x:=fun e=>h e.symm
    simp only [h,h',decide_false]
    exact ih
theorem up_ok (up:List (Pr × Pr)) (x:Pr):QbQ true [Kd.i,Kd.i,Kd.i] (V.agg [.int .i64 x.v,.int .u8 x.k,.int .i64 x.n]) (upV up)=True:=by
 refine eq_true ⟨⟨rfl,rfl⟩,fun p hp=>?_⟩
 simp only [upV,List.mem_map] at hp
 obtain ⟨b,_,rfl⟩:=hp
 exact ⟨rfl,rfl⟩
theorem up_put (up:List (Pr × Pr)) (x y:Pr) (h:Go.Re.look up x=none):Qnf [Kd.i,Kd.i,Kd.i] (V.agg [.int .i64 x.v,.int .u8 x.k,.int .i64 x.n]) (V.agg [.int .i64 y.v,.int .u8 y.k,.int .i64 y.n]) (upV up)=upV (up++[(x,y)]):=by
 show Qnf [Kd.i,Kd.i,Kd.i] (prV x) (prV y) (upV up)=_
 have h':=Qmc.1 h
 clear h
 unfold upV
 induction up with
 | nil=>rfl
 | cons p up ih =>
   simp only [List.map_cons,Qnf,Qoo,cA]
   have hp:¬ x=p.1:=fun e=>h' p (by simp) e.symm
   simp only [hp,decide_false,Bool.false_eq_true,if_false]
   rw [ih fun q hq=>h' q (by simp [hq])]
theorem ga0 {α:Type} (o l:List α):(o++l)[o.length]?=l[0]?:=by rw [List.getElem?_append_right (lR _),Nat.sub_self]
theorem ga {α:Type} (o l:List α) (i:Nat):(o++l)[o.length+i]?=l[i]?:=by rw [List.getElem?_append_right (by omega),Nat.add_sub_cancel_left]
theorem sa {α:Type} (o l:List α) (i:Nat) (x:α):(o++l).set (o.length+i) x=o++l.set i x:=by rw [List.set_append_right _ _ (by omega),Nat.add_sub_cancel_left]
variable {o:List (Option Ob)} {base k w t:Nat}
theorem QoI (hT:Qh P tab) {up:List (Pr × Pr)} (hf:Fst up) (x:Pr) (hk:k<o.length) (ho:o[k]?=some (some (.map w (upV up)))) (hb:base≤o.length) :
 C P G base X1 [.agg [.mp k w],prV x] ⟨t,o⟩ fun v σ=>v=prV (Qi up x)∧∃ t',t≤t'∧σ=⟨t',o⟩:=by
 refine Xq o.length hb (Q0 hT Qs (by simp [QI]) (Ql 20 ?_))
 simp only [prV,prC]
 refine ya ?_
 have hok:∀ l:List (Option Ob),(o++l)[k]?=some (some (.map w (upV up))):=fun l=>by rw [List.getElem?_append_left hk,ho]
 have htk:∀ l:List (Option Ob),List.take o.length (o++l)=o:=fun l=>by simp
 obtain ⟨wb,hwb⟩:∃ wb,wb=t+1:=⟨_,rfl⟩
 obtain ⟨wc,hwc⟩:∃ wc,wc=t+2:=⟨_,rfl⟩
 obtain ⟨wa,hwa⟩:∃ wa,wa=t:=⟨_,rfl⟩
 rw [← hwb,← hwc]
 refine Qbe (fun m fr σ=>∃ y t',Qi up y=Qi up x∧m=far up y∧wc+1≤t'∧Qf fr 2=.ptr o.length wa 0∧Qf fr 3=.ptr (o.length+1) wb 0∧Qf fr 4=.ptr (o.length+2) wc 0∧σ=⟨t',o++[some (.arr wa 96 [.mp k w]),some (.arr wb 100 (prC y)),some (.arr wc 100 [.int .i64 0,.int .u8 0,.int .i64 0])]⟩)
  (fun e fr σ=>∃ t' X Y Z,e=.ret∧wc+1≤t'∧Qf fr 2=.ptr o.length wa 0∧Qf fr 3=.ptr (o.length+1) wb 0∧Qf fr 4=.ptr (o.length+2) wc 0∧σ=⟨t',o++[X,Y,some (.arr wc 100 (prC (Qi up x))),Z]⟩)
  (m0:=far up x) ⟨x,wc+1,rfl,rfl,lR _,?_⟩ (fun m fr σ hJ=>?_) (fun e fr σ hE=>?_)
 ·simp -implicitDefEqProofs (disch:=omega) only [go_sem,↓reduceIte,reduceCtorEq,rq,prC]
  subst hwa hwb hwc
  try simp
 ·obtain ⟨y,t',hy,rfl,ht,f2,f3,f4,rfl⟩:=hJ
  have hfd:=QHI up y
  have hkk:=up_ok up y
  simp only [prC]
  cases hl:Go.Re.look up y with
  | none =>
    rw [hl,Option.map_none] at hfd
    have hr:y=Qi up x:=by rw [← hy]; exact (Qpl hl).symm
    refine Qe [(2,.ptr o.length wa 0),(3,.ptr (o.length+1) wb 0),(4,.ptr (o.length+2) wc 0)] ⟨f2,f3,f4,trivial⟩  12 ?_
    simp -implicitDefEqProofs (disch:=omega) only [go_sem,↓reduceIte,reduceCtorEq,rA,rq,rT,ga0,ga,sa,List.getElem?_cons_zero,List.getElem?_cons_succ,hok,hfd,hkk]
    iterate 10 (try (refine Qa 4 ?_; simp -implicitDefEqProofs (disch:=omega) only [go_sem,↓reduceIte,reduceCtorEq,rA,rq,ga,sa,List.getElem?_cons_zero,List.getElem?_cons_succ]))
    rw [← hr]
    exact ⟨t'+1,_,_,_,by omega,rfl,rfl⟩
  | some z =>
    obtain ⟨_,_,hrz,_⟩:=Qq3 hf hl
    have hfar:=far_lt hf hl
    rw [hl,Option.map_some] at hfd
    simp only [prV,prC] at hfd
    refine Qe [(2,.ptr o.length wa 0),(3,.ptr (o.length+1) wb 0),(4,.ptr (o.length+2) wc 0)] ⟨f2,f3,f4,trivial⟩  12 ?_
    simp -implicitDefEqProofs (disch:=omega) only [go_sem,↓reduceIte,reduceCtorEq,rA,rq,rT,ga0,ga,sa,List.getElem?_cons_zero,List.getElem?_cons_succ,hok,hfd,hkk]
    iterate 10 (try (refine Qa 4 ?_; simp -implicitDefEqProofs (disch:=omega) only [go_sem,↓reduceIte,reduceCtorEq,rA,rq,ga,sa,List.getElem?_cons_zero,List.getElem?_cons_succ]))
    refine ⟨far up z,_,_,hfar,Shift.drop (o':=o++[some (.arr wa 96 [.mp k w]),some (.arr wb 100 (prC z)),some (.arr wc 100 [.int .i64 0,.int .u8 0,.int .i64 0])]) (t':=t'+1) ?_ (lR _) (by simp; omega),z,t'+1,by rw [← hrz]; exact hy,rfl,by omega,?_⟩
    ·have:=Z6 (o.length+3) (o++[some (.arr wa 96 [.mp k w]),some (.arr wb 100 (prC z)),some (.arr wc 100 [.int .i64 0,.int .u8 0,.int .i64 0]),some (.arr t' 100 (prC z))])
     rw [List.take_append,List.take_of_length_le (by omega),Nat.add_sub_cancel_left] at this
     exact this
    ·refine ya ?_
     rfl
 ·obtain ⟨t',X,Y,Z,rfl,ht,f2,f3,f4,rfl⟩:=hE
  refine Qa 12 ?_
  simp -implicitDefEqProofs (disch:=omega) only [go_sem,↓reduceIte,reduceCtorEq,rA,rq,ga,List.getElem?_cons_zero,List.getElem?_cons_succ,f4,htk,prC]
  exact ⟨by omega,t',by omega,rfl⟩
theorem c_join (hT:Qh P tab) {up:List (Pr × Pr)} (hf:Fst up) (x y:Pr) (hk:k<o.length) (hbk:base≤k) (ho:o[k]?=some (some (.map w (upV up)))) :
 C P G base X2 [.agg [.mp k w],prV x,prV y] ⟨t,o⟩ fun v σ=>v=.tup []∧∃ t',t≤t'∧σ=⟨t',o.set k (some (.map w (upV (joinL up x y))))⟩:=by
 have hb:base≤o.length:=by omega
 refine Xq o.length hb (Q0 hT X0 (by simp [QJ]) (Ql 30 ?_))
 have hok:∀ l:List (Option Ob),(o++l)[k]?=some (some (.map w (upV up))):=fun l=>by rw [List.getElem?_append_left hk,ho]
 have htk:∀ l:List (Option Ob),List.take o.length (o++l)=o:=fun l=>by simp
 have hst:∀ (l:List (Option Ob)) (X:Option Ob),(o++l).set k X=o.set k X++l:=fun l X=>by rw [List.set_append_left _ _ hk]
 have htk2:∀ (l:List (Option Ob)) (X:Option Ob),List.take o.length (o.set k X++l)=o.set k X:=fun l X=>by
  rw [List.take_append_of_le_length (by simp),List.take_of_length_le (by simp)]
 have hos:o.set k (some (.map w (upV up)))=o:=by
  obtain ⟨h1,h2⟩:=List.getElem?_eq_some_iff.1 ho
  rw [← h2,List.set_getElem_self]
 have hkk:=up_ok up (Qi up x)
 have hpp:=up_put up (Qi up x) (Qi up y) (Qye hf x)
 have hnl:Qd (V.agg [.int .i64 (Qi up x).v,.int .u8 (Qi up x).k,.int .i64 (Qi up x).n])=true:=rfl
 simp only [prV,prC] at hpp ⊢
 by_cases he:Qi up x=Qi up y
 ·have hE:((Qi up x).v==(Qi up y).v&&((Qi up x).k==(Qi up y).k&&(Qi up x).n==(Qi up y).n))=true:=by rw [Qmw]; exact decide_eq_true he
  have hj:joinL up x y=up:=if_pos he
  rw [hj,hos]
  simp -implicitDefEqProofs (disch:=omega) only [go_sem,↓reduceIte,reduceCtorEq,rA,rq,ga0,ga,List.getElem?_cons_zero,List.getElem?_cons_succ]
  repeat' (first | with_reducible refine And.intro ?_ ?_ | (refine call hT Qs (QoI hT hf x (by simp only [lA,lC,lN]; omega) (by rw [List.getElem?_append_left hk,ho]) (by simp only [lA,lC,lN]; omega)) 12 fun v σ hv=>?_; obtain ⟨rfl,t1,ht1,rfl⟩:=hv; simp only [prV,prC]; simp -implicitDefEqProofs (disch:=omega) only [go_sem,↓reduceIte,reduceCtorEq,rA,rq]) | (refine call hT Qs (QoI hT hf y (by simp only [lA,lC,lN]; omega) (by rw [List.getElem?_append_left hk,ho]) (by simp only [lA,lC,lN]; omega)) 12 fun v σ hv=>?_; obtain ⟨rfl,t1,ht1,rfl⟩:=hv; simp only [prV,prC]; simp -implicitDefEqProofs (disch:=omega) only [go_sem,↓reduceIte,reduceCtorEq,rA,rq,ga,sa,List.getElem?_cons_zero,List.getElem?_cons_succ,htk,hE]) | (refine Qa 6 ?_; simp -implicitDefEqProofs (disch:=omega) only [go_sem,↓reduceIte,reduceCtorEq,rA,rq,htk]))
  all_goals (first | omega | exact ⟨_,by omega,rfl⟩ | (simp only [List.length_set]; omega))
 ·have hE:((Qi up x).v==(Qi up y).v&&((Qi up x).k==(Qi up y).k&&(Qi up x).n==(Qi up y).n))=false:=by rw [Qmw]; exact decide_eq_false he
  have hj:joinL up x y=up++[(Qi up x,Qi up y)]:=if_neg he
  rw [hj]
  simp -implicitDefEqProofs (disch:=omega) only [go_sem,↓reduceIte,reduceCtorEq,rA,rq,ga0,ga,List.getElem?_cons_zero,List.getElem?_cons_succ]
  repeat' (first | with_reducible refine And.intro ?_ ?_ | (refine call hT Qs (QoI hT hf x (by simp only [lA,lC,lN]; omega) (by rw [List.getElem?_append_left hk,ho]) (by simp only [lA,lC,lN]; omega)) 12 fun v σ hv=>?_; obtain ⟨rfl,t1,ht1,rfl⟩:=hv; simp only [prV,prC]; simp -implicitDefEqProofs (disch:=omega) only [go_sem,↓reduceIte,reduceCtorEq,rA,rq]) | (refine call hT Qs (QoI hT hf y (by simp only [lA,lC,lN]; omega) (by rw [List.getElem?_append_left hk,ho]) (by simp only [lA,lC,lN]; omega)) 12 fun v σ hv=>?_; obtain ⟨rfl,t1,ht1,rfl⟩:=hv; simp only [prV,prC]; simp -implicitDefEqProofs (disch:=omega) only [go_sem,↓reduceIte,reduceCtorEq,rA,rq,ga,sa,List.getElem?_cons_zero,List.getElem?_cons_succ,hE]) | (refine Qa 6 ?_; simp -implicitDefEqProofs (disch:=omega) only [go_sem,↓reduceIte,reduceCtorEq,rA,rq,ga0,ga,List.getElem?_cons_zero,List.getElem?_cons_succ,hok,hst,htk2,hkk,hpp,hnl]))
  all_goals (first | omega | exact ⟨_,by omega,rfl⟩ | (simp only [List.length_set]; omega))
end
section
attribute [local go_sem] nF nT aA cA lA lC lN nA List.set_cons_succ List.set_cons_zero tN tS tZ aZ lR Nat.mul_one Nat.one_mul Nat.succ_ne_zero zA zL Nat.zero_mul Option.getD_none Option.getD_some Option.isSome_none Option.isSome_some and_true beq_self_eq_true bne_self_eq_false decide_false decide_true false_implies ge_iff_le gt_iff_lt Qz not_false_eq_true not_true_eq_false Qc3 QDC QDB QaC QEH QEG QEF QEE QED QEC QEB QEA QEz true_and true_implies
def QkZ (n:Int):Bool:=decide (1≤n∧n≤31∧n≠2)
theorem c_reg (hT:Qh P tab) (n:Int):Am.Pure P G QjN [.int .i64 n] fun u=>u=.bool (QkZ n):=by
 refine fun t=>Xq 0 (zL _) (Q0 hT Qcm (by simp [Qc3]) ?_)
 by_cases h1:1≤n
 ·by_cases h2:n≤31
  ·by_cases h3:n=2
   ·have h3':(n != 2)=false:=by simp [h3]
    have hr:QkZ n=false:=by simp [QkZ,h3]
    rw [hr]
    refine Ql 30 ?_
    simp -implicitDefEqProofs (disch:=omega) only [go_sem,↓reduceIte,reduceCtorEq,rA,rq,h1,h2,h3']
    iterate 12 (try (refine Qa 2 ?_; simp -implicitDefEqProofs (disch:=omega) only [go_sem,↓reduceIte,reduceCtorEq,rA,rq,rL,rT,Nat.reduceSub,Nat.reduceMul,Int.reduceToNat,Int.reduceLE,Int.reduceLT,Int.reduceEq,Int.reduceNe,Nat.reduceBEq,Nat.reduceBNe,Int.reduceBEq,List.getElem?_cons_zero,List.getElem?_cons_succ,h1,h2,h3']))
    try simp
   ·have h3':(n != 2)=true:=by simpa using h3
    have hr:QkZ n=true:=by simp [QkZ,h1,h2,h3]
    rw [hr]
    refine Ql 30 ?_
    simp -implicitDefEqProofs (disch:=omega) only [go_sem,↓reduceIte,reduceCtorEq,rA,rq,h1,h2,h3']
    iterate 12 (try (refine Qa 2 ?_; simp -implicitDefEqProofs (disch:=omega) only [go_sem,↓reduceIte,reduceCtorEq,rA,rq,rL,rT,Nat.reduceSub,Nat.reduceMul,Int.reduceToNat,Int.reduceLE,Int.reduceLT,Int.reduceEq,Int.reduceNe,Nat.reduceBEq,Nat.reduceBNe,Int.reduceBEq,List.getElem?_cons_zero,List.getElem?_cons_succ,h1,h2,h3']))
    try simp
  ·have hr:QkZ n=false:=by simp [QkZ,h2]
   rw [hr]
   refine Ql 30 ?_
   simp -implicitDefEqProofs (disch:=omega) only [go_sem,↓reduceIte,reduceCtorEq,rA,rq,h1,h2]
   iterate 12 (try (refine Qa 2 ?_; simp -implicitDefEqProofs (disch:=omega) only [go_sem,↓reduceIte,reduceCtorEq,rA,rq,rL,rT,Nat.reduceSub,Nat.reduceMul,Int.reduceToNat,Int.reduceLE,Int.reduceLT,Int.reduceEq,Int.reduceNe,Nat.reduceBEq,Nat.reduceBNe,Int.reduceBEq,List.getElem?_cons_zero,List.getElem?_cons_succ,h1,h2]))
   try simp
 ·have hr:QkZ n=false:=by simp [QkZ,h1]
  rw [hr]
  refine Ql 30 ?_
  simp -implicitDefEqProofs (disch:=omega) only [go_sem,↓reduceIte,reduceCtorEq,rq,h1]
  iterate 12 (try (refine Qa 2 ?_; simp -implicitDefEqProofs (disch:=omega) only [go_sem,↓reduceIte,reduceCtorEq,rA,rq,rL,rT,Nat.reduceSub,Nat.reduceMul,Int.reduceToNat,Int.reduceLE,Int.reduceLT,Int.reduceEq,Int.reduceNe,Nat.reduceBEq,Nat.reduceBNe,Int.reduceBEq,List.getElem?_cons_zero,List.getElem?_cons_succ,h1]))
  try simp
def QQ (vars:Int) (cnt:Nat) (p:Pr):Bool:=decide (-1≤p.v∧p.v<vars)&&(if p.k=1 then QkZ p.n else if p.k=2 then decide (0≤p.n∧p.n<cnt) else decide (p.k=3))
theorem QI5 (hT:Qh P tab) (p:Pr) (vars:Int) (cnt:Nat):Am.Pure P G QgA [prV p,.int .i64 vars,.int .i64 cnt] fun u=>u=.bool (QQ vars cnt p):=by
 refine fun t=>Xq 0 (zL _) (Q0 hT Qgr (by simp [QaC]) ?_)
 have hR:=c_reg (P:=P) (G:=G) hT p.n
 simp only [prV,prC]
 by_cases h1:p.v < -1
 ·have hr:QQ vars cnt p=false:=by simp [QQ]; omega
  rw [hr]
  refine Ql 30 ?_
  simp -implicitDefEqProofs (disch:=omega) only [go_sem,↓reduceIte,reduceCtorEq,rA,rq,rL,List.getElem?_cons_zero,h1]
  iterate 20 (try (refine Qa 2 ?_; simp -implicitDefEqProofs (disch:=omega) only [go_sem,↓reduceIte,reduceCtorEq,rA,rq,rL,rT,Nat.reduceSub,Nat.reduceMul,Int.reduceToNat,Int.reduceLE,Int.reduceLT,Int.reduceEq,Int.reduceNe,Nat.reduceBEq,Nat.reduceBNe,Int.reduceBEq,List.getElem?_cons_zero,List.getElem?_cons_succ,h1]))
  try simp
 by_cases h2:vars≤p.v
 ·have hr:QQ vars cnt p=false:=by simp [QQ]; omega
  rw [hr]
  refine Ql 30 ?_
  refine yj ?_
  iterate 20 (try (refine Qa 2 ?_; simp -implicitDefEqProofs (disch:=omega) only [go_sem,↓reduceIte,reduceCtorEq,rA,rq,rL,rT,Nat.reduceSub,Nat.reduceMul,Int.reduceToNat,Int.reduceLE,Int.reduceLT,Int.reduceEq,Int.reduceNe,Nat.reduceBEq,Nat.reduceBNe,Int.reduceBEq,List.getElem?_cons_zero,List.getElem?_cons_succ,h1,h2]))
  try simp
 have hd:decide (-1≤p.v∧p.v<vars)=true:=decide_eq_true ⟨by omega,by omega⟩
 by_cases k1:p.k=1
 ·have k1':(p.k==1)=true:=by simpa using k1
  have hr:QQ vars cnt p=QkZ p.n:=by simp [QQ,hd,k1]
  rw [hr]
  refine Ql 30 ?_
  simp -implicitDefEqProofs (disch:=omega) only [go_sem,↓reduceIte,reduceCtorEq,rA,rq,rL,List.getElem?_cons_zero,h1,h2,k1]
  iterate 20 (try (refine Qa 2 ?_; simp -implicitDefEqProofs (disch:=omega) only [go_sem,↓reduceIte,reduceCtorEq,rA,rq,List.getElem?_cons_zero]))
  refine QX hT Qcm hR rfl 12 ?_
  refine ya ?_
  try simp
 have k1':(p.k==1)=false:=by simpa using k1
 by_cases k2:p.k=2
 ·have k2':(p.k==2)=true:=by simpa using k2
  by_cases n1:0≤p.n
  ·by_cases n2:p.n<cnt
   ·have hr:QQ vars cnt p=true:=by simp [QQ,k2,n1,n2]; omega
    rw [hr]
    refine Ql 30 ?_
    refine yj ?_
    iterate 20 (try (refine Qa 2 ?_; simp -implicitDefEqProofs (disch:=omega) only [go_sem,↓reduceIte,reduceCtorEq,rA,rq,List.getElem?_cons_zero,k1',k2',n1,n2]))
    try simp [n2]
   ·have hr:QQ vars cnt p=false:=by simp [QQ,k2,n2]
    rw [hr]
    refine Ql 30 ?_
    refine yj ?_
    iterate 20 (try (refine Qa 2 ?_; simp -implicitDefEqProofs (disch:=omega) only [go_sem,↓reduceIte,reduceCtorEq,rA,rq,List.getElem?_cons_zero,k1',k2',n1,n2]))
    try simp [n2]
  ·have hr:QQ vars cnt p=false:=by simp [QQ,k2,n1]
   rw [hr]
   refine Ql 30 ?_
   refine yj ?_
   iterate 20 (try (refine Qa 2 ?_; simp -implicitDefEqProofs (disch:=omega) only [go_sem,↓reduceIte,reduceCtorEq,rA,rq,List.getElem?_cons_zero,k1',k2',n1]))
   try simp
 have k2':(p.k==2)=false:=by simpa using k2
 have hr:QQ vars cnt p=decide (p.k=3):=by simp [QQ,hd,k1,k2]
 have k3':(p.k==3)=decide (p.k=3):=by rw [Bool.eq_iff_iff]; simp
 rw [hr]
 refine Ql 30 ?_
 refine yj ?_
 iterate 20 (try (refine Qa 2 ?_; simp -implicitDefEqProofs (disch:=omega) only [go_sem,↓reduceIte,reduceCtorEq,rA,rq,rL,List.getElem?_cons_zero,k1',k2',k3']))
 try simp
end
end Go.Proofs.YtfgccihafnjalaaGreatDoor
namespace Go.Proofs.YtfgccihafnjalaaGreatDoor
open Go Go.Am Go.Re
set_option maxRecDepth 100000
variable {x0 x1 x2 x3 x4 x5 y z x6 x7 x8 x9 x10 x11 x12 x13 x14 x15 x16 x17 x18 x19 x20 x21 x22:Option Ob} {L:List Nd} {v0 v1 v2 v3 v4:Nat} {fmt:Int→List UInt8}
theorem Qrc {ex:List (Option Ob)}:(kG fmt v0 v1 v2 v3 v4 L++x0::x1::x2::x3::x4::x5::y::ex)[11]?=some y:=rfl
theorem QjW {ex:List (Option Ob)}:(kG fmt v0 v1 v2 v3 v4 L++x0::x1::x2::x3::x4::x5::y::ex).set 11 z=kG fmt v0 v1 v2 v3 v4 L++x0::x1::x2::x3::x4::x5::z::ex:=rfl
theorem Qrb {ex:List (Option Ob)}:(kG fmt v0 v1 v2 v3 v4 L++x0::x1::x2::x3::x4::x5::x6::y::ex)[12]?=some y:=rfl
theorem QjV {ex:List (Option Ob)}:(kG fmt v0 v1 v2 v3 v4 L++x0::x1::x2::x3::x4::x5::x6::y::ex).set 12 z=kG fmt v0 v1 v2 v3 v4 L++x0::x1::x2::x3::x4::x5::x6::z::ex:=rfl
theorem Qra {ex:List (Option Ob)}:(kG fmt v0 v1 v2 v3 v4 L++x0::x1::x2::x3::x4::x5::x6::x7::y::ex)[13]?=some y:=rfl
theorem QjU {ex:List (Option Ob)}:(kG fmt v0 v1 v2 v3 v4 L++x0::x1::x2::x3::x4::x5::x6::x7::y::ex).set 13 z=kG fmt v0 v1 v2 v3 v4 L++x0::x1::x2::x3::x4::x5::x6::x7::z::ex:=rfl
theorem Qtf {ex:List (Option Ob)}:(kG fmt v0 v1 v2 v3 v4 L++x0::x1::x2::x3::x4::x5::x6::x7::x8::y::ex)[14]?=some y:=rfl
theorem Qml {ex:List (Option Ob)}:(kG fmt v0 v1 v2 v3 v4 L++x0::x1::x2::x3::x4::x5::x6::x7::x8::y::ex).set 14 z=kG fmt v0 v1 v2 v3 v4 L++x0::x1::x2::x3::x4::x5::x6::x7::x8::z::ex:=rfl
theorem Qq9 {ex:List (Option Ob)}:(kG fmt v0 v1 v2 v3 v4 L++x0::x1::x2::x3::x4::x5::x6::x7::x8::x9::y::ex)[15]?=some y:=rfl
theorem Qmk {ex:List (Option Ob)}:(kG fmt v0 v1 v2 v3 v4 L++x0::x1::x2::x3::x4::x5::x6::x7::x8::x9::y::ex).set 15 z=kG fmt v0 v1 v2 v3 v4 L++x0::x1::x2::x3::x4::x5::x6::x7::x8::x9::z::ex:=rfl
theorem Qq8 {ex:List (Option Ob)}:(kG fmt v0 v1 v2 v3 v4 L++x0::x1::x2::x3::x4::x5::x6::x7::x8::x9::x10::y::ex)[16]?=some y:=rfl
theorem QjT {ex:List (Option Ob)}:(kG fmt v0 v1 v2 v3 v4 L++x0::x1::x2::x3::x4::x5::x6::x7::x8::x9::x10::y::ex).set 16 z=kG fmt v0 v1 v2 v3 v4 L++x0::x1::x2::x3::x4::x5::x6::x7::x8::x9::x10::z::ex:=rfl
theorem Qnw {ex:List (Option Ob)}:(kG fmt v0 v1 v2 v3 v4 L++x0::x1::x2::x3::x4::x5::x6::x7::x8::x9::x10::x11::y::ex)[17]?=some y:=rfl
theorem QjS {ex:List (Option Ob)}:(kG fmt v0 v1 v2 v3 v4 L++x0::x1::x2::x3::x4::x5::x6::x7::x8::x9::x10::x11::y::ex).set 17 z=kG fmt v0 v1 v2 v3 v4 L++x0::x1::x2::x3::x4::x5::x6::x7::x8::x9::x10::x11::z::ex:=rfl
theorem Qnv {ex:List (Option Ob)}:(kG fmt v0 v1 v2 v3 v4 L++x0::x1::x2::x3::x4::x5::x6::x7::x8::x9::x10::x11::x12::y::ex)[18]?=some y:=rfl
theorem QjR {ex:List (Option Ob)}:(kG fmt v0 v1 v2 v3 v4 L++x0::x1::x2::x3::x4::x5::x6::x7::x8::x9::x10::x11::x12::y::ex).set 18 z=kG fmt v0 v1 v2 v3 v4 L++x0::x1::x2::x3::x4::x5::x6::x7::x8::x9::x10::x11::x12::z::ex:=rfl
theorem QvC {ex:List (Option Ob)}:(kG fmt v0 v1 v2 v3 v4 L++x0::x1::x2::x3::x4::x5::x6::x7::x8::x9::x10::x11::x12::x13::y::ex)[19]?=some y:=rfl
theorem QoA {ex:List (Option Ob)}:(kG fmt v0 v1 v2 v3 v4 L++x0::x1::x2::x3::x4::x5::x6::x7::x8::x9::x10::x11::x12::x13::y::ex).set 19 z=kG fmt v0 v1 v2 v3 v4 L++x0::x1::x2::x3::x4::x5::x6::x7::x8::x9::x10::x11::x12::x13::z::ex:=rfl
theorem Qq7 {ex:List (Option Ob)}:(kG fmt v0 v1 v2 v3 v4 L++x0::x1::x2::x3::x4::x5::x6::x7::x8::x9::x10::x11::x12::x13::x14::y::ex)[20]?=some y:=rfl
theorem Qmj {ex:List (Option Ob)}:(kG fmt v0 v1 v2 v3 v4 L++x0::x1::x2::x3::x4::x5::x6::x7::x8::x9::x10::x11::x12::x13::x14::y::ex).set 20 z=kG fmt v0 v1 v2 v3 v4 L++x0::x1::x2::x3::x4::x5::x6::x7::x8::x9::x10::x11::x12::x13::x14::z::ex:=rfl
theorem Qte {ex:List (Option Ob)}:(kG fmt v0 v1 v2 v3 v4 L++x0::x1::x2::x3::x4::x5::x6::x7::x8::x9::x10::x11::x12::x13::x14::x15::y::ex)[21]?=some y:=rfl
theorem Qoz {ex:List (Option Ob)}:(kG fmt v0 v1 v2 v3 v4 L++x0::x1::x2::x3::x4::x5::x6::x7::x8::x9::x10::x11::x12::x13::x14::x15::y::ex).set 21 z=kG fmt v0 v1 v2 v3 v4 L++x0::x1::x2::x3::x4::x5::x6::x7::x8::x9::x10::x11::x12::x13::x14::x15::z::ex:=rfl
theorem Qtd {ex:List (Option Ob)}:(kG fmt v0 v1 v2 v3 v4 L++x0::x1::x2::x3::x4::x5::x6::x7::x8::x9::x10::x11::x12::x13::x14::x15::x16::y::ex)[22]?=some y:=rfl
theorem Qmi {ex:List (Option Ob)}:(kG fmt v0 v1 v2 v3 v4 L++x0::x1::x2::x3::x4::x5::x6::x7::x8::x9::x10::x11::x12::x13::x14::x15::x16::y::ex).set 22 z=kG fmt v0 v1 v2 v3 v4 L++x0::x1::x2::x3::x4::x5::x6::x7::x8::x9::x10::x11::x12::x13::x14::x15::x16::z::ex:=rfl
theorem Qq6 {ex:List (Option Ob)}:(kG fmt v0 v1 v2 v3 v4 L++x0::x1::x2::x3::x4::x5::x6::x7::x8::x9::x10::x11::x12::x13::x14::x15::x16::x17::y::ex)[23]?=some y:=rfl
theorem Qmh {ex:List (Option Ob)}:(kG fmt v0 v1 v2 v3 v4 L++x0::x1::x2::x3::x4::x5::x6::x7::x8::x9::x10::x11::x12::x13::x14::x15::x16::x17::y::ex).set 23 z=kG fmt v0 v1 v2 v3 v4 L++x0::x1::x2::x3::x4::x5::x6::x7::x8::x9::x10::x11::x12::x13::x14::x15::x16::x17::z::ex:=rfl
theorem Qtc {ex:List (Option Ob)}:(kG fmt v0 v1 v2 v3 v4 L++x0::x1::x2::x3::x4::x5::x6::x7::x8::x9::x10::x11::x12::x13::x14::x15::x16::x17::x18::y::ex)[24]?=some y:=rfl
theorem Qmg {ex:List (Option Ob)}:(kG fmt v0 v1 v2 v3 v4 L++x0::x1::x2::x3::x4::x5::x6::x7::x8::x9::x10::x11::x12::x13::x14::x15::x16::x17::x18::y::ex).set 24 z=kG fmt v0 v1 v2 v3 v4 L++x0::x1::x2::x3::x4::x5::x6::x7::x8::x9::x10::x11::x12::x13::x14::x15::x16::x17::x18::z::ex:=rfl
theorem Qtb {ex:List (Option Ob)}:(kG fmt v0 v1 v2 v3 v4 L++x0::x1::x2::x3::x4::x5::x6::x7::x8::x9::x10::x11::x12::x13::x14::x15::x16::x17::x18::x19::y::ex)[25]?=some y:=rfl
theorem Qoy {ex:List (Option Ob)}:(kG fmt v0 v1 v2 v3 v4 L++x0::x1::x2::x3::x4::x5::x6::x7::x8::x9::x10::x11::x12::x13::x14::x15::x16::x17::x18::x19::y::ex).set 25 z=kG fmt v0 v1 v2 v3 v4 L++x0::x1::x2::x3::x4::x5::x6::x7::x8::x9::x10::x11::x12::x13::x14::x15::x16::x17::x18::x19::z::ex:=rfl
theorem Qta {ex:List (Option Ob)}:(kG fmt v0 v1 v2 v3 v4 L++x0::x1::x2::x3::x4::x5::x6::x7::x8::x9::x10::x11::x12::x13::x14::x15::x16::x17::x18::x19::x20::y::ex)[26]?=some y:=rfl
theorem Qmf {ex:List (Option Ob)}:(kG fmt v0 v1 v2 v3 v4 L++x0::x1::x2::x3::x4::x5::x6::x7::x8::x9::x10::x11::x12::x13::x14::x15::x16::x17::x18::x19::x20::y::ex).set 26 z=kG fmt v0 v1 v2 v3 v4 L++x0::x1::x2::x3::x4::x5::x6::x7::x8::x9::x10::x11::x12::x13::x14::x15::x16::x17::x18::x19::x20::z::ex:=rfl
theorem QvB {ex:List (Option Ob)}:(kG fmt v0 v1 v2 v3 v4 L++x0::x1::x2::x3::x4::x5::x6::x7::x8::x9::x10::x11::x12::x13::x14::x15::x16::x17::x18::x19::x20::x21::y::ex)[27]?=some y:=rfl
theorem Qox {ex:List (Option Ob)}:(kG fmt v0 v1 v2 v3 v4 L++x0::x1::x2::x3::x4::x5::x6::x7::x8::x9::x10::x11::x12::x13::x14::x15::x16::x17::x18::x19::x20::x21::y::ex).set 27 z=kG fmt v0 v1 v2 v3 v4 L++x0::x1::x2::x3::x4::x5::x6::x7::x8::x9::x10::x11::x12::x13::x14::x15::x16::x17::x18::x19::x20::x21::z::ex:=rfl
theorem QvA {ex:List (Option Ob)}:(kG fmt v0 v1 v2 v3 v4 L++x0::x1::x2::x3::x4::x5::x6::x7::x8::x9::x10::x11::x12::x13::x14::x15::x16::x17::x18::x19::x20::x21::x22::y::ex)[28]?=some y:=rfl
theorem Qow {ex:List (Option Ob)}:(kG fmt v0 v1 v2 v3 v4 L++x0::x1::x2::x3::x4::x5::x6::x7::x8::x9::x10::x11::x12::x13::x14::x15::x16::x17::x18::x19::x20::x21::x22::y::ex).set 28 z=kG fmt v0 v1 v2 v3 v4 L++x0::x1::x2::x3::x4::x5::x6::x7::x8::x9::x10::x11::x12::x13::x14::x15::x16::x17::x18::x19::x20::x21::x22::z::ex:=rfl
end Go.Proofs.YtfgccihafnjalaaGreatDoor
