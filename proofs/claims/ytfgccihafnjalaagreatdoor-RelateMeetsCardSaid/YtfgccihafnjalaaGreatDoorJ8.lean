/- lift.Begin: the first state. -/
import Derived.Test.YtfgccihafnjalaaGreatDoorJ6
import Derived.Test.YtfgccihafnjalaaGreatDoorJ4
import Derived.Test.YtfgccihafnjalaaGreatDoorJ7
import Derived.Test.YtfgccihafnjalaaGreatDoorJ5
import Derived.Test.YtfgccihafnjalaaGreatDoorY
open Nat renaming reduceEqDiff → rq, reduceAdd → rA, reduceLeDiff → rL, reduceLT → rT, zero_add → zA, le_refl → lR, zero_le → zL, add_zero → aZ
open List renaming length_cons → lC, length_nil → lN, take_succ_cons → tS, length_append → lA, nil_append → nA, cons_append → cA, append_assoc → aA, take_nil → tN, take_zero → tZ, length_map → lM
open Bool renaming not_false → nF, not_true → nT
namespace Go.Proofs.YtfgccihafnjalaaGreatDoor
open Go Go.Am Go.Re
set_option maxRecDepth 100000
variable {P:Program} {G:Nat→Option V}
def Qzb (b:Int) (r:Nat):Nd:=if r=0 then co 0 else sy (b+(if r=1 then 0 else (r:Int) - 2))
def Qml (L:List Nd) (b:Int) (r:Nat):Int:=if r=2 then -1 else Z3 L (Qzb b r)
def QcW (r:Nat):Int:=if r≤1 then 0 else if r≤3 then 1 else (r:Int) - 2
def Qew (L:List Nd) (b:Int) (k:Nat):List V:=(List.range 32).map fun r=>.int .i64 (if r<k then Qml L b r else 0)
def Zi (L:List Nd) (b:Int) (k:Nat):List V:=(List.range k).map fun i:Nat=>.int .i64 (Z3 L (sy (b+30+((i:Nat):Int))))
def AllR (L:List Nd) (b:Int) (k:Nat):Prop:=∀ r,r<k→r≠2→Hs L (Qzb b r)
def AllS (L:List Nd) (b:Int) (k:Nat):Prop:=∀ i:Nat,i<k→Hs L (sy (b+30+(i:Int)))
theorem AllR.ext {L L':List Nd} {b:Int} {k:Nat} (h:AllR L b k) (e:Ext L L'):AllR L' b k:=fun r hr h2=>(h r hr h2).ext e
theorem AllS.ext {L L':List Nd} {b:Int} {k:Nat} (h:AllS L b k) (e:Ext L L'):AllS L' b k:=fun i hi=>(h i hi).ext e
theorem Qkg {L L':List Nd} {b:Int} {k:Nat} (h:AllR L b k) (e:Ext L L'):Qew L b k=Qew L' b k:=by
 unfold Qew
 refine List.map_congr_left fun r _=>?_
 split
 ·rename_i hr
  unfold Qml
  split
  ·rfl
  ·rename_i h2; rw [Qdr (h r hr h2) e]
 ·rfl
theorem QrQ {L L':List Nd} {b:Int} {k:Nat} (h:AllS L b k) (e:Ext L L'):Zi L b k=Zi L' b k:=by
 unfold Zi
 refine List.map_congr_left fun i hi=>?_
 rw [Qdr (h i (List.mem_range.1 hi)) e]
theorem QtY (L:List Nd) (b:Int) {k:Nat} (hk:k<32):(Qew L b k).set k (.int .i64 (Qml L b k))=Qew L b (k+1):=by
 unfold Qew
 apply List.ext_getElem?
 intro j
 by_cases hj:j=k
 ·subst hj
  rw [List.getElem?_set_self (by simp; omega)]
  simp [hk]
 ·rw [List.getElem?_set_ne (Ne.symm hj)]
  simp only [List.getElem?_map]
  cases hr:(List.range 32)[j]? with
  | none=>rfl
  | some r =>
    have:r=j:=by have:=List.getElem?_eq_some_iff.1 hr; obtain ⟨h1,h2⟩:=this; simpa using h2.symm
    subst this
    simp only [Option.map_some]
    congr 2
    have:(r<k)↔(r<k+1):=by omega
    simp only [this]
theorem Xt (L:List Nd) (b:Int) (k:Nat):(Qew L b k).length=32:=by simp [Qew]
theorem QrP (L:List Nd) (b:Int) (k:Nat):(Zi L b k).length=k:=by simp [Zi]
theorem QpB (L:List Nd) (b:Int) (k:Nat):Zi L b k++[.int .i64 (Z3 L (sy (b+30+(k:Int))))]=Zi L b (k+1):=by simp [Zi,List.range_succ]
def stC (L:List Nd) (b:Int) (k:Nat) (sl:V) (sure:Bool):List V:=Qew L b k++[sl,.bool sure]
theorem Qpz (L:List Nd) (b:Int) {k:Nat} (hk:k<32) (sl:V) (sure:Bool):(stC L b k sl sure).take k++V.int .i64 (Qml L b k)::(stC L b k sl sure).drop (k+1)=stC L b (k+1) sl sure:=by
 unfold stC
 rw [List.take_append_of_le_length (by rw [Xt]; omega),List.drop_append_of_le_length (by rw [Xt]; omega)]
 rw [← QtY L b hk,List.set_eq_take_append_cons_drop,if_pos (by rw [Xt]; omega)]
 simp
def QbB (m:Nat) (params:Int):Nat:=m+(max 0 (min params 6)).toNat
theorem Qgf {fmt:Int→List UInt8} {v0 v1 v2 v3 v4:Nat} {L:List Nd} {ex:List (Option Ob)} {x0 x1 x2 x3 x4 x5:Option Ob}:(kG fmt v0 v1 v2 v3 v4 L++x0::x1::x2::x3::x4::x5::ex)[10]?=some x5:=rfl
theorem Qbv {fmt:Int→List UInt8} {v0 v1 v2 v3 v4:Nat} {L:List Nd} {ex:List (Option Ob)} {x0 x1 x2 x3 x4 x5 y:Option Ob}:(kG fmt v0 v1 v2 v3 v4 L++x0::x1::x2::x3::x4::x5::ex).set 10 y=kG fmt v0 v1 v2 v3 v4 L++x0::x1::x2::x3::x4::y::ex:=rfl
theorem Qel {fmt:Int→List UInt8} {v0 v1 v2 v3 v4:Nat} {L:List Nd}:(kG fmt v0 v1 v2 v3 v4 L).length=5:=rfl
def beH (m v0 wg wf wn wr wx:Nat) (zs:List V) (b:Int) (cs:List V):List (Option Ob):=[some (.arr wg 41 [.ptr 1 v0 0]),some (.arr wf 39 (fnC m)),some (.arr wn 2 [.int .i64 b]),some (.arr wr 47 zs),some (.arr wx 47 cs)]
abbrev beJ (F : Fmt P G) (params : Int) (m v0 v1 wg wf wn wr wx : Nat) (zs : List V) (L : List Nd) (b : Int) (sure : Bool) : Nat → Fr → H → Prop := fun i fr σ => ∃ L' t' v2' v3' v4', Ext L L' ∧ L'.length ≤ L.length + i ∧ AllR L' b i ∧ Qx fr 2 = .int .i64 params ∧ Qx fr 4 = .ptr 5 wg 0 ∧ Qx fr 5 = .ptr 6 wf 0 ∧ Qx fr 7 = .ptr 7 wn 0 ∧ Qx fr 8 = .ptr 8 wr 0 ∧ Qx fr 10 = .fn (.func 50) [] [.ptr 7 wn 0, .ptr 5 wg 0] ∧ Qx fr 11 = .ptr 9 wx 0 ∧ Qx fr 20 = .int .i64 ((i : Nat) : Int) ∧ σ = ⟨t', kG F.fmt v0 v1 v2' v3' v4' L' ++ beH m v0 wg wf wn wr wx zs (b + QcW i) (stC L' b i (.lst 0 [] true) sure)⟩
abbrev beE (F : Fmt P G) (params : Int) (m v0 v1 wg wf wn wr wx : Nat) (zs : List V) (L : List Nd) (b : Int) (sure : Bool) : AE → Fr → H → Prop := fun e fr σ => ∃ L' t' v2' v3' v4', e = .ex 0 ∧ Ext L L' ∧ L'.length ≤ L.length + 32 ∧ AllR L' b 32 ∧ Qx fr 2 = .int .i64 params ∧ Qx fr 4 = .ptr 5 wg 0 ∧ Qx fr 5 = .ptr 6 wf 0 ∧ Qx fr 7 = .ptr 7 wn 0 ∧ Qx fr 8 = .ptr 8 wr 0 ∧ Qx fr 10 = .fn (.func 50) [] [.ptr 7 wn 0, .ptr 5 wg 0] ∧ Qx fr 11 = .ptr 9 wx 0 ∧ σ = ⟨t', kG F.fmt v0 v1 v2' v3' v4' L' ++ beH m v0 wg wf wn wr wx zs (b + 30) (stC L' b 32 (.lst 0 [] true) sure)⟩
theorem AllR.succ {L:List Nd} {b:Int} {k:Nat} (h:AllR L b k) (hk:k≠2→Hs L (Qzb b k)):AllR L b (k+1):=fun r hr h2=>by
 by_cases e:r=k
 ·subst e; exact hk h2
 ·exact h r (by omega) h2
theorem Qf2 (L:List Nd) (b:Int) (k:Nat) (sl:V) (sure:Bool):(stC L b k sl sure).length=34:=by simp [stC,Xt]
theorem QwR (hT:Qw P tab) (F:Fmt P G) {params:Int} {m v0 v1 wg wf wn wr wx:Nat} {zs:List V} {L:List Nd} {b:Int} {sure:Bool} (hb:0≤b∧b≤1099511627776) (hL:L.length≤10000) {i:Nat} (hi:i<32) {fr:Fr} {σ:H} (hJ:beJ F params m v0 v1 wg wf wn wr wx zs L b sure i fr σ) :
 W P G 61 0 (AC.seq (AC.reg Qru [])   (AC.seq (AC.cond (Arg.t 21)   AC.skip   (AC.exit 0))   (AC.seq (AC.block 1 (AC.seq (AC.reg Qrt [22])   (AC.seq (AC.reg Qrs [])   (AC.block 2 (AC.seq (AC.reg Qrr [30])   (AC.cond (Arg.t 29)   (AC.reg Qrq [31, 32, 33, 34, 35])   (AC.seq (AC.reg Qmf [37])   (AC.cond (Arg.t 36)   (AC.reg Qme [38, 39, 40])   (AC.reg Qmd [24, 25, 26, 27, 28])))))))))   (AC.reg Qmc [41])))) fr σ (Qhz (fun fr σ => ∃ fr' σ', Shift G 61 0 fr σ fr' σ' ∧ beJ F params m v0 v1 wg wf wn wr wx zs L b sure (i + 1) fr' σ') (beE F params m v0 v1 wg wf wn wr wx zs L b sure)) := by
 obtain ⟨L', t', v2', v3', v4', hE, hLl, hA, f2, f4, f5, f7, f8, f10, f11, f20, rfl⟩ := hJ
 have e2:IntKind.i64.wrap ((i:Int)+1)=((i+1:Nat):Int):=QcJ (n:=33) (by omega) (by omega)
 have hlt:((i:Nat):Int)<32:=by omega
 have hsl:=Qf2 L' b i (.lst 0 [] true) sure
 simp only [beH]
 have hreg:∀ L2,V.int .i64 (Qml L2 b i)=V.int .i64 (if i=2 then -1 else Z3 L2 (Qzb b i)):=fun L2=>rfl
 by_cases h0:i=0
 ·have h0':(((i:Nat):Int)==0)=true:=by rw [beq_iff_eq]; omega
  have h0'':((i:Nat):Int)=0:=by omega
  refine QU [(2,.int .i64 params),(4,.ptr 5 wg 0),(5,.ptr 6 wf 0),(7,.ptr 7 wn 0),(8,.ptr 8 wr 0),(10,.fn (.func 50) [] [.ptr 7 wn 0,.ptr 5 wg 0]),(11,.ptr 9 wx 0),(20,.int .i64 ((i:Nat):Int))] ⟨f2,f4,f5,f7,f8,f10,f11,f20,trivial⟩  1000 ?_
  simp -implicitDefEqProofs (disch:=omega) only [go_sem,↓reduceIte,rq,Int.reduceLT,zA,decide_true,lR,beq_self_eq_true,Qru,Qrt,Qrs,Qrr,Qrq,Qmf,Qme,Qmd,Qmc,QlH,lC,lN,true_implies,and_true,h0'']
  refine call hT QbV (QpU hT F (n:=0) (by unfold i64; omega) (by omega)) 1000 fun v σ hv=>?_
  obtain ⟨L2,t2,w2,w3,w4,x1,x2,x3,x4,rfl,rfl⟩:=hv
  have hcell:stC L' b i (.lst 0 [] true) sure=stC L2 b i (.lst 0 [] true) sure:=by unfold stC; rw [Qkg hA x1]
  have hreg2:Z3 L2 (co 0)=Qml L2 b i:=by simp [Qml,Qzb,h0]
  have hst:=Qpz L2 b hi (.lst 0 [] true) sure
  have hmd:QcW (i+1)=QcW i:=by simp [QcW,h0]
  rw [hcell,hreg2]
  have hsl2:=Qf2 L2 b i (.lst 0 [] true) sure
  simp -implicitDefEqProofs (disch:=omega) only [go_sem,↓reduceIte,rq,rL,Int.reduceToNat,Int.reduceLE,zA,aZ,Nat.mul_one,nF,zL,QlG,Qc1,tZ,lC,lN,cA,nA,and_true,hsl2]
  refine ⟨_,_,Shift.refl _ _ _ _,L2,t2,w2,w3,w4,hE.trans x1,by omega,(hA.ext x1).succ fun _=>by rw [Qzb,if_pos h0]; exact x2,?_⟩
  rw [hmd]
  refine yf ?_
  rw [← hst]
  subst h0
  exact ⟨rfl,rfl⟩
 have h0':(((i:Nat):Int)==0)=false:=by rw [beq_eq_false_iff_ne]; omega
 have h0'':¬ ((i:Nat):Int)=0:=by omega
 by_cases h2:i=2
 ·have h2':(((i:Nat):Int)==2)=true:=by rw [beq_iff_eq]; omega
  have h2'':((i:Nat):Int)=2:=by omega
  have hreg2:(-1:Int)=Qml L' b i:=by simp [Qml,h2]
  have hst:=Qpz L' b hi (.lst 0 [] true) sure
  have hmd:QcW (i+1)=QcW i:=by simp [QcW,h2]
  rw [← hreg2] at hst
  refine QU [(2,.int .i64 params),(4,.ptr 5 wg 0),(5,.ptr 6 wf 0),(7,.ptr 7 wn 0),(8,.ptr 8 wr 0),(10,.fn (.func 50) [] [.ptr 7 wn 0,.ptr 5 wg 0]),(11,.ptr 9 wx 0),(20,.int .i64 ((i:Nat):Int))] ⟨f2,f4,f5,f7,f8,f10,f11,f20,trivial⟩  1000 ?_
  simp -implicitDefEqProofs (disch := omega) only [go_sem, ↓reduceIte, rA, rq, rL, Int.reduceToNat, Int.reduceLE, Int.reduceLT, Int.reduceEq, zA, aZ, Nat.mul_one, decide_true, nF, lR, zL, beq_self_eq_true, Qru, Qrt, Qrs, Qrr, Qrq, Qmf, Qme, Qmd, Qmc, QlH, QlG, Qc1, lC, lN, cA, nA, aA, false_implies, true_implies, true_and, and_true, not_false_eq_true, h2'', hsl]
  refine ⟨_, _, Shift.refl _ _ _ _, L', t', v2', v3', v4', hE, by omega, hA.succ fun h => absurd h2 h, ?_⟩
  rw [hmd]
  refine yf ?_
  rw [← hst]
  subst h2
  exact ⟨rfl,rfl⟩
 have h2':(((i:Nat):Int)==2)=false:=by rw [beq_eq_false_iff_ne]; omega
 have h2'':¬ ((i:Nat):Int)=2:=by omega
 have hmb:0≤QcW i∧QcW i≤30:=by unfold QcW; split <;> (try split) <;> omega
 have hmd:QcW (i+1)=QcW i+1:=by
  unfold QcW
  repeat' split
  all_goals omega
 have hrn:Qzb b i=sy (b+QcW i):=by
  rw [Qzb,if_neg h0]
  congr 2
  unfold QcW
  repeat' split
  all_goals omega
 refine QU [(2,.int .i64 params),(4,.ptr 5 wg 0),(5,.ptr 6 wf 0),(7,.ptr 7 wn 0),(8,.ptr 8 wr 0),(10,.fn (.func 50) [] [.ptr 7 wn 0,.ptr 5 wg 0]),(11,.ptr 9 wx 0),(20,.int .i64 ((i:Nat):Int))] ⟨f2,f4,f5,f7,f8,f10,f11,f20,trivial⟩  1000 ?_
 simp -implicitDefEqProofs (disch := omega) only [go_sem, ↓reduceIte, rq, decide_true, Qru, Qrt, Qrs, Qrr, Qrq, Qmf, Qme, Qmd, Qmc, hlt, h0', h2']
 refine QwA hT Qba (Qum hT F (X:=some (.arr wf 39 (fnC m))) (ex:=[some (.arr wr 47 zs),some (.arr wx 47 (stC L' b i (.lst 0 [] true) sure))]) (b:=b+QcW i) (by omega) (by omega) (by omega)) 1000 fun v σ hv=>?_
 obtain ⟨L2,t2,w2,w3,w4,x1,x2,x3,x4,rfl,rfl⟩:=hv
 have hcell:stC L' b i (.lst 0 [] true) sure=stC L2 b i (.lst 0 [] true) sure:=by unfold stC; rw [Qkg hA x1]
 have hreg2:Z3 L2 (sy (b+QcW i))=Qml L2 b i:=by rw [Qml,if_neg h2,hrn]
 have hst:=Qpz L2 b hi (.lst 0 [] true) sure
 rw [hcell,hreg2]
 have hsl2:=Qf2 L2 b i (.lst 0 [] true) sure
 simp -implicitDefEqProofs (disch:=omega) only [go_sem,Qf,↓reduceIte,rq,rL,zA,aZ,Nat.mul_one,nF,zL,QlG,Qc1,lC,lN,cA,nA,aA,true_and,and_true,hsl2,hi,e2,hst]
 refine ⟨_,_,Shift.refl _ _ _ _,L2,t2,w2,w3,w4,hE.trans x1,by omega,(hA.ext x1).succ fun _=>by rw [hrn]; exact x2,?_⟩
 rw [hmd,← Int.add_assoc]
 refine yf ?_
 rfl
abbrev slJ (F : Fmt P G) (m v0 v1 wg wf wn wr wx cnt : Nat) (zs : List V) (L : List Nd) (b : Int) (sure : Bool) : Nat → Fr → H → Prop := fun k fr σ => ∃ L' t' v2' v3' v4' ws, Ext L L' ∧ L'.length ≤ L.length + 32 + k ∧ AllR L' b 32 ∧ AllS L' b k ∧ Qx fr 7 = .ptr 7 wn 0 ∧ Qx fr 8 = .ptr 8 wr 0 ∧ Qx fr 10 = .fn (.func 50) [] [.ptr 7 wn 0, .ptr 5 wg 0] ∧ Qx fr 11 = .ptr 9 wx 0 ∧ Qx fr 49 = .int .i64 ((k : Nat) : Int) ∧ Qx fr 48 = .int .i64 ((cnt : Nat) : Int) ∧ σ = ⟨t', kG F.fmt v0 v1 v2' v3' v4' L' ++ (beH m v0 wg wf wn wr wx zs (b + 30 + ((k : Nat) : Int)) (stC L' b 32 (.sl 10 ws 0 1 k none) sure) ++ [some (.arr ws 44 (Zi L' b k))])⟩
abbrev slE (F : Fmt P G) (m v0 v1 wg wf wn wr wx cnt : Nat) (zs : List V) (L : List Nd) (b : Int) (sure : Bool) : AE → Fr → H → Prop := fun e fr σ => ∃ L' t' v2' v3' v4' ws, e = .ex 3 ∧ Ext L L' ∧ L'.length ≤ L.length + 60 ∧ AllR L' b 32 ∧ AllS L' b cnt ∧ Qx fr 7 = .ptr 7 wn 0 ∧ Qx fr 8 = .ptr 8 wr 0 ∧ Qx fr 10 = .fn (.func 50) [] [.ptr 7 wn 0, .ptr 5 wg 0] ∧ Qx fr 11 = .ptr 9 wx 0 ∧ σ = ⟨t', kG F.fmt v0 v1 v2' v3' v4' L' ++ (beH m v0 wg wf wn wr wx zs (b + 30 + ((cnt : Nat) : Int)) (stC L' b 32 (.sl 10 ws 0 1 cnt none) sure) ++ [some (.arr ws 44 (Zi L' b cnt))])⟩
theorem AllS.succ {L:List Nd} {b:Int} {k:Nat} (h:AllS L b k) (hk:Hs L (sy (b+30+((k:Nat):Int)))):AllS L b (k+1):=fun r hr=>by
 by_cases e:r=k
 ·subst e; exact hk
 ·exact h r (by omega)
theorem QtK {L:List Nd} {b:Int} {sl sl':V} {sure:Bool}:(stC L b 32 sl sure).take 32++sl'::(stC L b 32 sl sure).drop 33=stC L b 32 sl' sure:=by
 unfold stC
 rw [List.take_append_of_le_length (by rw [Xt]; omega),List.take_of_length_le (by rw [Xt]; omega),List.drop_append,List.drop_of_length_le (by rw [Xt]; omega),Xt]
 simp
theorem Qy7 {L:List Nd} {b:Int} {sl:V} {sure:Bool}:(stC L b 32 sl sure).getD 32 V.any=sl:=by
 unfold stC
 rw [List.getD_eq_getElem?_getD,List.getElem?_append_right (by rw [Xt]; omega),Xt]
 rfl
theorem QvY (hT:Qw P tab) (F:Fmt P G) {m v0 v1 wg wf wn wr wx cnt:Nat} {zs:List V} {L:List Nd} {b:Int} {sure:Bool} (hb:0≤b∧b≤1099511627776) (hL:L.length≤10000) (hc:cnt≤20) {k:Nat} (hk:k<cnt) {fr:Fr} {σ:H} (hJ:slJ F m v0 v1 wg wf wn wr wx cnt zs L b sure k fr σ) :
 W P G 61 0 (AC.seq (AC.reg Qqz [])   (AC.seq (AC.cond (Arg.t 50)   AC.skip   (AC.exit 3))   (AC.seq (AC.block 4 (AC.reg Qqy [51, 52, 53, 54, 55, 56, 57]))   (AC.reg Qqx [58])))) fr σ (Qhz (fun fr σ => ∃ fr' σ', Shift G 61 0 fr σ fr' σ' ∧ slJ F m v0 v1 wg wf wn wr wx cnt zs L b sure (k + 1) fr' σ') (slE F m v0 v1 wg wf wn wr wx cnt zs L b sure)) := by
 obtain ⟨L', t', v2', v3', v4', ws, hE, hLl, hA, hS, f7, f8, f10, f11, f49, f48, rfl⟩ := hJ
 have e2:IntKind.i64.wrap ((k:Int)+1)=((k+1:Nat):Int):=QcJ (n:=33) (by omega) (by omega)
 have hlt:((k:Nat):Int)<((cnt:Nat):Int):=by omega
 have hsl:=fun (L':List Nd) (s:V)=>Qf2 L' b 32 s sure
 simp only [beH,cA,nA]
 refine QU [(7,.ptr 7 wn 0),(8,.ptr 8 wr 0),(10,.fn (.func 50) [] [.ptr 7 wn 0,.ptr 5 wg 0]),(11,.ptr 9 wx 0),(49,.int .i64 ((k:Nat):Int)),(48,.int .i64 ((cnt:Nat):Int))] ⟨f7,f8,f10,f11,f49,f48,trivial⟩  1000 ?_
 simp -implicitDefEqProofs (disch:=omega) only [go_sem,↓reduceIte,rA,rq,rL,zA,decide_true,Qqz,Qqy,Qqx,QlG,true_implies,and_true,hlt,hsl,Qy7]
 with_reducible refine And.intro ?_ ?_
 all_goals (
  refine QwA hT Qba (Qum hT F (L:=L') (X:=some (.arr wf 39 (fnC m))) (ex:=[some (.arr wr 47 zs),some (.arr wx 47 (stC L' b 32 (.sl 10 ws 0 1 k none) sure)),some (.arr ws 44 (Zi L' b k))]) (b:=b+30+((k:Nat):Int)) (by omega) (by omega) (by omega)) 1000 fun v σ hv=>?_
  obtain ⟨L2,t2,w2,w3,w4,x1,x2,x3,x4,rfl,rfl⟩:=hv
  have hcell:stC L' b 32 (.sl 10 ws 0 1 k none) sure=stC L2 b 32 (.sl 10 ws 0 1 k none) sure:=by unfold stC; rw [Qkg hA x1]
  rw [hcell,QrQ hS x1]
  have hsz:=QpB L2 b k
  simp -implicitDefEqProofs (disch:=omega) only [go_sem,Qf,↓reduceIte,reduceCtorEq,rA,rq,rL,zA,Nat.mul_one,nT,nF,lR,zL,Qgf,Qbv,QlG,Qc1,tZ,lC,lN,cA,nA,aA,true_implies,true_and,and_true,hsl,Qy7,QrP,hsz,e2,QtK]
  repeat' (with_reducible refine And.intro ?_ ?_))
 all_goals (
  refine ⟨_,_,Shift.refl _ _ _ _,L2,t2+1,w2,w3,w4,t2,hE.trans x1,by omega,hA.ext x1,(hS.ext x1).succ x2,?_⟩
  rw [show b+30+((k+1:Nat):Int)=b+30+((k:Nat):Int)+1 by omega]
  refine yf ?_
  rfl)
theorem QCV (hT:Qw P tab) (F:Fmt P G) {v0 v1 v2 v3 v4 t:Nat} {L:List Nd} (m:Nat) (hm:m≤4) (params next:Int) (hn:next≤1099511627776) (hL:L.length≤10000) :
 C P G 0 QeJ [.ptr 1 v0 0,.agg (fnC m),.int .i64 params,.int .i64 next] ⟨t,kG F.fmt v0 v1 v2 v3 v4 L⟩ fun v σ=>∃ L' t' v2' v3' v4' ws,Ext L L'∧L'.length≤L.length+60∧AllR L' (max 0 next) 32∧AllS L' (max 0 next) (QbB m params) ∧
   v = .tup [.agg (stC L' (max 0 next) 32 (.sl 10 ws 0 1 (QbB m params) none) (decide (m = 0))), .int .i64 (max 0 next + 30 + (QbB m params : Nat))] ∧ σ = ⟨t', kG F.fmt v0 v1 v2' v3' v4' L' ++ [none, none, none, none, none, some (.arr ws 44 (Zi L' (max 0 next) (QbB m params)))]⟩ := by
 have hfr:((8 * (m:Int))==0)=decide (m=0):=by rw [Bool.eq_iff_iff,beq_iff_eq,decide_eq_true_eq]; omega
 have hmax:(if next > 0 then next else (0:Int))=max 0 next:=by split <;> omega
 have hmin:(if (6:Int)<params then (6:Int) else params)=min params 6:=by split <;> omega
 obtain ⟨b,hb⟩:∃ b,b=max 0 next:=⟨_,rfl⟩
 rw [← hb] at hmax ⊢
 obtain ⟨cnt,hcnt⟩:∃ cnt,cnt=QbB m params:=⟨_,rfl⟩
 rw [← hcnt]
 have hc20:cnt≤20:=by rw [hcnt]; unfold QbB; omega
 have hq:IntKind.i64.wrap (Int.tdiv (8 * (m:Int)) 8)=(m:Int):=by rw [Int.mul_tdiv_cancel_left _ (by omega),Qtx (by omega)]
 have hsum:IntKind.i64.wrap ((m:Int)+max 0 (min params 6))=(cnt:Int):=by rw [Qtx (by omega),hcnt]; unfold QbB; omega
 refine Qrp (Q := fun v σ => ∃ L' t' v2' v3' v4' ws A B C D E, Ext L L' ∧ L'.length ≤ L.length + 60 ∧ AllR L' b 32 ∧ AllS L' b cnt ∧ v = .tup [.agg (stC L' b 32 (.sl 10 ws 0 1 cnt none) (decide (m = 0))), .int .i64 (b + 30 + (cnt : Nat))] ∧ σ = ⟨t', kG F.fmt v0 v1 v2' v3' v4' L' ++ [A, B, C, D, E, some (.arr ws 44 (Zi L' b cnt))]⟩) ?_ fun v σ hv => ?_
 rotate_left
 ·obtain ⟨L', t', v2', v3', v4', ws, A, B, C', D, E, h1, h2, h3, h4, rfl, rfl⟩ := hv
  refine ⟨kG F.fmt v0 v1 v2' v3' v4' L' ++ [none, none, none, none, none, some (.arr ws 44 (Zi L' b cnt))], t', ?_, lR _, zL _, L', t', v2', v3', v4', ws, h1, h2, h3, h4, rfl, rfl⟩
  simp [Xr,kG]
 refine Xk hT Qio (by simp [QcX]) (Qu 20 ?_)
 simp only [fnC]
 simp -implicitDefEqProofs (disch:=omega) only [go_sem,↓reduceIte,reduceCtorEq,rA,rq,zA,nF,lR,zL,gt_iff_lt,QcX,zql_0,zql_1,zql_2,zql_3,zql_4,Qru,Qrt,Qrs,Qrr,Qrq,Qmf,Qme,Qmd,Qmc,QwZ,Qqz,Qqy,Qqx,QwY,Qel,QnJ,Qfv,Zk,tZ,lC,lN,cA,nA,aA,true_implies,and_true,hmax]
 iterate 20 (try (refine Qb 4 ?_; simp -implicitDefEqProofs (disch:=omega) only [go_sem,↓reduceIte,reduceCtorEq,rA,rq,rL,zA,nF,lR,zL,Qog,QlG,Qc1,Zk,tS,tZ,lC,lN,cA,nA,aA,true_implies,and_true,hfr]))
 obtain ⟨wg,hwg⟩:∃ w,w=t:=⟨_,rfl⟩
 obtain ⟨wf,hwf⟩:∃ w,w=t+1:=⟨_,rfl⟩
 obtain ⟨wn,hwn⟩:∃ w,w=t+2:=⟨_,rfl⟩
 obtain ⟨wr,hwr⟩:∃ w,w=t+3:=⟨_,rfl⟩
 obtain ⟨wx,hwx⟩:∃ w,w=t+4:=⟨_,rfl⟩
 obtain ⟨zs,hzs⟩:∃ zs:List V,zs=List.replicate 32 (.int .i64 0)++[.lst 0 [] true,.bool false]:=⟨_,rfl⟩
 have hst0:stC L b 0 (.lst 0 [] true) (decide (m=0))=List.replicate 32 (.int .i64 0)++[.lst 0 [] true,.bool (decide (m=0))]:=by simp [stC,Qew,List.map_const']
 have hm0:b+QcW 0=b:=by simp [QcW]
 refine QqN 32 (beJ F params m v0 v1 wg wf wn wr wx zs L b (decide (m=0))) (beE F params m v0 v1 wg wf wn wr wx zs L b (decide (m=0))) ⟨L,t+5,v2,v3,v4,Ext.refl L,by omega,fun r hr=>by omega,?_⟩ (fun i hi fr σ hJ=>QwR hT F (by omega) hL hi hJ) (fun i hi fr σ hJ=>?_) (fun e fr σ hE=>?_)
 ·rw [hst0,hzs,hm0]
  subst hwg hwf hwn hwr hwx
  refine ⟨rfl,rfl,rfl,rfl,rfl,rfl,rfl,rfl,?_⟩
  simp only [beH,fnC]
  rfl
 ·obtain ⟨L', t', v2', v3', v4', hE, hLl, hA, f2, f4, f5, f7, f8, f10, f11, f20, rfl⟩ := hJ
  rw [hi] at hA hLl f20
  rw [hi]
  refine QU [(2,.int .i64 params),(4,.ptr 5 wg 0),(5,.ptr 6 wf 0),(7,.ptr 7 wn 0),(8,.ptr 8 wr 0),(10,.fn (.func 50) [] [.ptr 7 wn 0,.ptr 5 wg 0]),(11,.ptr 9 wx 0),(20,.int .i64 ((32:Nat):Int))] ⟨f2,f4,f5,f7,f8,f10,f11,f20,trivial⟩ 12 ?_
  have h32:¬ (((32:Nat):Int)<32):=by omega
  simp -implicitDefEqProofs (disch:=omega) only [go_sem,↓reduceIte,rq,decide_false,h32]
  have hm30:QcW 32=30:=rfl
  rw [hm30]
  refine ⟨L', t', v2', v3', v4', rfl, hE, hLl, hA, ?_⟩
  repeat' (first | exact rfl | refine ⟨rfl,?_⟩)
 ·obtain ⟨L', t', v2', v3', v4', rfl, hE, hLl, hA, f2, f4, f5, f7, f8, f10, f11, rfl⟩ := hE
  simp only [beH,fnC]
  refine QbX [(2,.int .i64 params),(4,.ptr 5 wg 0),(5,.ptr 6 wf 0),(7,.ptr 7 wn 0),(8,.ptr 8 wr 0),(10,.fn (.func 50) [] [.ptr 7 wn 0,.ptr 5 wg 0]),(11,.ptr 9 wx 0)] ⟨f2,f4,f5,f7,f8,f10,f11,trivial⟩  12 ?_
  have hmx:(if (0:Int)<min params 6 then min params 6 else 0)=max 0 (min params 6):=by split <;> omega
  simp -implicitDefEqProofs (disch:=omega) only [go_sem,↓reduceIte,rA,rq,rL,Int.reduceEq,zA,gt_iff_lt,Qog,lC,lN,true_implies,and_true,not_false_eq_true,hq,hmin,hmx,hsum]
  iterate 20 (try (refine Qb 4 ?_; simp -implicitDefEqProofs (disch:=omega) only [go_sem]))
  have hc32:(stC L' b 32 (.lst 0 [] true) (decide (m=0)))[32]?=some (.lst 0 [] true):=by
   unfold stC; rw [List.getElem?_append_right (by rw [Xt]; omega),Xt]; rfl
  refine QgQ (HShift.shift (HShift.ownAt 1 44 (k:=9) (p:=32) (v:=wx) (T':=47) (cs:=stC L' b 32 (.lst 0 [] true) (decide (m=0))) (zL _) rfl hc32)) ?_
  have hcs:∀ s:V,(stC L' b 32 (.lst 0 [] true) (decide (m=0))).set 32 s=stC L' b 32 s (decide (m=0)):=fun s=>by
   unfold stC; rw [List.set_append_right _ _ (by rw [Xt]; omega),Xt]; rfl
  simp only [Qc1,Zk,Qbw,lC,lN,cA,nA,rA,hcs]
  refine QqN cnt (slJ F m v0 v1 wg wf wn wr wx cnt zs L b (decide (m = 0))) (slE F m v0 v1 wg wf wn wr wx cnt zs L b (decide (m = 0))) ⟨L', t' + 1, v2', v3', v4', t', hE, by omega, hA, fun i hi => by omega, ?_⟩ (fun k hk fr σ hJ => QvY hT F (by omega) hL hc20 hk hJ) (fun k hk fr σ hJ => ?_) (fun e fr σ hE => ?_)
  ·rw [show b+30+((0:Nat):Int)=b+30 by omega]
   refine yf ?_
   exact ⟨rfl,rfl⟩
  ·obtain ⟨L2,t2,w2,w3,w4,ws,hE2,hL2,hA2,hS2,f7,f8,f10,f11,f49,f48,rfl⟩:=hJ
   rw [hk] at hS2 hL2 f49
   rw [hk]
   refine QU [(7,.ptr 7 wn 0),(8,.ptr 8 wr 0),(10,.fn (.func 50) [] [.ptr 7 wn 0,.ptr 5 wg 0]),(11,.ptr 9 wx 0),(49,.int .i64 ((cnt:Nat):Int)),(48,.int .i64 ((cnt:Nat):Int))] ⟨f7,f8,f10,f11,f49,f48,trivial⟩ 12 ?_
   simp -implicitDefEqProofs (disch:=omega) only [go_sem,↓reduceIte,rq,decide_false,Int.lt_irrefl]
   refine ⟨L2,t2,w2,w3,w4,ws,rfl,hE2,by omega,hA2,hS2,?_⟩
   repeat' (first | exact rfl | refine ⟨rfl,?_⟩)
  ·obtain ⟨L2,t2,w2,w3,w4,ws,rfl,hE2,hL2,hA2,hS2,f7,f8,f10,f11,rfl⟩:=hE
   simp only [beH,cA,nA]
   refine QbX [(7,.ptr 7 wn 0),(8,.ptr 8 wr 0),(10,.fn (.func 50) [] [.ptr 7 wn 0,.ptr 5 wg 0]),(11,.ptr 9 wx 0)] ⟨f7,f8,f10,f11,trivial⟩  12 ?_
   have hsl:=Qf2 L2 b 32 (.sl 10 ws 0 1 cnt none) (decide (m=0))
   have htk:List.take 34 (stC L2 b 32 (.sl 10 ws 0 1 cnt none) (decide (m=0)))=stC L2 b 32 (.sl 10 ws 0 1 cnt none) (decide (m=0)):=List.take_of_length_le (by omega)
   have hzl:zs.length=34:=by rw [hzs]; simp
   have hdz:List.drop 34 zs=[]:=List.drop_of_length_le (by omega)
   have hon:ones (stC L2 b 32 (.sl 10 ws 0 1 cnt none) (decide (m=0))):=by
    unfold stC Qew
    intro c hc
    simp only [List.mem_append,List.mem_map,List.mem_cons,List.not_mem_nil,or_false] at hc
    rcases hc with ⟨r,_,rfl⟩ | rfl | rfl <;> rfl
   simp -implicitDefEqProofs (disch:=omega) only [go_sem,↓reduceIte,reduceCtorEq,rq,zA,nF,lR,zL,QnJ,Qof,QlG,QeM,tZ,lC,lN,nA,false_implies,true_implies,and_true,hsl,htk,hdz,hzl,hon,List.append_nil]
   refine ⟨L2,t2,w2,w3,w4,ws,_,_,_,_,_,hE2,hL2,hA2,hS2,rfl,rfl,rfl⟩
def upV (up:List (Pr × Pr)):List (V × V):=up.map fun p=>(prV p.1,prV p.2)
theorem QBR (up:List (Pr × Pr)) (x:Pr):Qlu [Kd.i,Kd.i,Kd.i] (V.agg [.int .i64 x.v,.int .u8 x.k,.int .i64 x.n]) (upV up)=(Go.Re.look up x).map prV:=by
 show Qlu [Kd.i,Kd.i,Kd.i] (prV x) (upV up)=_
 unfold Qlu upV Go.Re.look
 induction up with
 | nil=>rfl
 | cons p up ih =>
   simp only [List.map_cons,List.find?_cons,Qmm]
   by_cases h:x=p.1
   ·subst h; simp
   ·have h':¬ p.1=x:=fun e=>h e.symm
    simp only [h, h', decide_false]
    exact ih
theorem up_ok (up:List (Pr × Pr)) (x:Pr):Qb7 true [Kd.i,Kd.i,Kd.i] (V.agg [.int .i64 x.v,.int .u8 x.k,.int .i64 x.n]) (upV up)=True:=by
 refine eq_true ⟨⟨rfl,rfl⟩,fun p hp=>?_⟩
 simp only [upV,List.mem_map] at hp
 obtain ⟨b,_,rfl⟩:=hp
 exact ⟨rfl,rfl⟩
theorem up_put (up:List (Pr × Pr)) (x y:Pr) (h:Go.Re.look up x=none):Qm5 [Kd.i,Kd.i,Kd.i] (V.agg [.int .i64 x.v,.int .u8 x.k,.int .i64 x.n]) (V.agg [.int .i64 y.v,.int .u8 y.k,.int .i64 y.n]) (upV up)=upV (up++[(x,y)]):=by
 show Qm5 [Kd.i,Kd.i,Kd.i] (prV x) (prV y) (upV up)=_
 have h':=Qky.1 h
 clear h
 unfold upV
 induction up with
 | nil=>rfl
 | cons p up ih =>
   simp only [List.map_cons,Qm5,Qmm,cA]
   have hp:¬ x=p.1:=fun e=>h' p (by simp) e.symm
   simp only [hp,decide_false,Bool.false_eq_true,if_false]
   rw [ih fun q hq=>h' q (by simp [hq])]
theorem ga0 {α:Type} (o l:List α):(o++l)[o.length]?=l[0]?:=by rw [List.getElem?_append_right (lR _),Nat.sub_self]
theorem ga {α:Type} (o l:List α) (i:Nat):(o++l)[o.length+i]?=l[i]?:=by rw [List.getElem?_append_right (by omega),Nat.add_sub_cancel_left]
theorem sa {α:Type} (o l:List α) (i:Nat) (x:α):(o++l).set (o.length+i) x=o++l.set i x:=by rw [List.set_append_right _ _ (by omega),Nat.add_sub_cancel_left]
theorem Qmu (hT:Qw P tab) {base k w t:Nat} {o:List (Option Ob)} {up:List (Pr × Pr)} (hf:Fst up) (x:Pr) (hk:k<o.length) (ho:o[k]?=some (some (.map w (upV up)))) (hb:base≤o.length) :
 C P G base XO [.agg [.mp k w], prV x] ⟨t, o⟩ fun v σ => v = prV (Qj up x) ∧ ∃ t', t ≤ t' ∧ σ = ⟨t', o⟩ := by
 refine Ym o.length hb (Xk hT Qo (by simp [QE]) (Qu 20 ?_))
 simp only [prV,prC]
 simp -implicitDefEqProofs (disch:=omega) only [go_sem,↓reduceIte,reduceCtorEq,rA,rq,zA,QE,QyZ,QyY,QyX,QyW,QyV,lA,aA,cA,nA,lC,lN,Nat.add_assoc]
 have hok:∀ l:List (Option Ob),(o++l)[k]?=some (some (.map w (upV up))):=fun l=>by rw [List.getElem?_append_left hk,ho]
 have htk:∀ l:List (Option Ob),List.take o.length (o++l)=o:=fun l=>by simp
 obtain ⟨wb,hwb⟩:∃ wb,wb=t+1:=⟨_,rfl⟩
 obtain ⟨wc,hwc⟩:∃ wc,wc=t+2:=⟨_,rfl⟩
 obtain ⟨wa,hwa⟩:∃ wa,wa=t:=⟨_,rfl⟩
 rw [← hwb,← hwc]
 refine Qfc (fun m fr σ => ∃ y t', Qj up y = Qj up x ∧ m = far up y ∧ wc + 1 ≤ t' ∧ Qx fr 2 = .ptr o.length wa 0 ∧ Qx fr 3 = .ptr (o.length + 1) wb 0 ∧ Qx fr 4 = .ptr (o.length + 2) wc 0 ∧ σ = ⟨t', o ++ [some (.arr wa 96 [.mp k w]), some (.arr wb 100 (prC y)), some (.arr wc 100 [.int .i64 0, .int .u8 0, .int .i64 0])]⟩)
  (fun e fr σ => ∃ t' X Y Z, e = .ret ∧ wc + 1 ≤ t' ∧ Qx fr 2 = .ptr o.length wa 0 ∧ Qx fr 3 = .ptr (o.length + 1) wb 0 ∧ Qx fr 4 = .ptr (o.length + 2) wc 0 ∧ σ = ⟨t', o ++ [X, Y, some (.arr wc 100 (prC (Qj up x))), Z]⟩)
  (m0:=far up x) ⟨x,wc+1,rfl,rfl,lR _,?_⟩ (fun m fr σ hJ=>?_) (fun e fr σ hE=>?_)
 ·simp -implicitDefEqProofs (disch:=omega) only [go_sem,↓reduceIte,reduceCtorEq,rq,prC]
  subst hwa hwb hwc
  try simp
 ·obtain ⟨y, t', hy, rfl, ht, f2, f3, f4, rfl⟩ := hJ
  have hfd:=QBR up y
  have hkk:=up_ok up y
  simp only [prC]
  cases hl:Go.Re.look up y with
  | none =>
    rw [hl,Option.map_none] at hfd
    have hr:y=Qj up x:=by rw [← hy]; exact (QmT hl).symm
    refine QU [(2,.ptr o.length wa 0),(3,.ptr (o.length+1) wb 0),(4,.ptr (o.length+2) wc 0)] ⟨f2,f3,f4,trivial⟩  12 ?_
    refine ye ?_
    iterate 10 (try (refine Qb 4 ?_; simp -implicitDefEqProofs (disch:=omega) only [go_sem,Qf,↓reduceIte,reduceCtorEq,rA,rq,zA,nF,lR,ga,sa,cA,nA,lC,lN,List.getElem?_cons_zero,List.getElem?_cons_succ,List.set_cons_zero,List.set_cons_succ,tS,tZ,tN,List.drop_succ_cons,List.drop_zero,List.drop_nil]))
    rw [← hr]
    exact ⟨t'+1,_,_,_,by omega,rfl,rfl⟩
  | some z =>
    obtain ⟨_,_,hrz,_⟩:=Qob hf hl
    have hfar:=far_lt hf hl
    rw [hl,Option.map_some] at hfd
    simp only [prV,prC] at hfd
    refine QU [(2,.ptr o.length wa 0),(3,.ptr (o.length+1) wb 0),(4,.ptr (o.length+2) wc 0)] ⟨f2,f3,f4,trivial⟩  12 ?_
    refine ye ?_
    iterate 10 (try (refine Qb 4 ?_; simp -implicitDefEqProofs (disch:=omega) only [go_sem,Qf,↓reduceIte,reduceCtorEq,rA,rq,zA,nT,nF,lR,ga,sa,cA,nA,lC,lN,List.getElem?_cons_zero,List.getElem?_cons_succ,List.set_cons_zero,List.set_cons_succ,tS,tZ,tN,List.drop_succ_cons,List.drop_zero,List.drop_nil]))
    refine ⟨far up z,_,_,hfar,Shift.drop (o':=o++[some (.arr wa 96 [.mp k w]),some (.arr wb 100 (prC z)),some (.arr wc 100 [.int .i64 0,.int .u8 0,.int .i64 0])]) (t':=t'+1) ?_ (lR _) (by simp; omega),z,t'+1,by rw [← hrz]; exact hy,rfl,by omega,?_⟩
    ·have:=ZQ (o.length+3) (o++[some (.arr wa 96 [.mp k w]),some (.arr wb 100 (prC z)),some (.arr wc 100 [.int .i64 0,.int .u8 0,.int .i64 0]),some (.arr t' 100 (prC z))])
     rw [List.take_append,List.take_of_length_le (by omega),Nat.add_sub_cancel_left] at this
     exact this
    ·refine ya ?_
     rfl
 ·obtain ⟨t', X, Y, Z, rfl, ht, f2, f3, f4, rfl⟩ := hE
  refine Qb 12 ?_
  simp -implicitDefEqProofs (disch:=omega) only [go_sem,↓reduceIte,reduceCtorEq,rA,rq,zA,lR,ga,lA,lC,lN,List.getElem?_cons_zero,List.getElem?_cons_succ,tS,tN,List.drop_zero,f4,htk,prC]
  exact ⟨by omega, t', by omega, rfl⟩
theorem c_join (hT:Qw P tab) {base k w t:Nat} {o:List (Option Ob)} {up:List (Pr × Pr)} (hf:Fst up) (x y:Pr) (hk:k<o.length) (hbk:base≤k) (ho:o[k]?=some (some (.map w (upV up)))) :
 C P G base XP [.agg [.mp k w], prV x, prV y] ⟨t, o⟩ fun v σ => v = .tup [] ∧ ∃ t', t ≤ t' ∧ σ = ⟨t', o.set k (some (.map w (upV (joinL up x y))))⟩ := by
 have hb:base≤o.length:=by omega
 refine Ym o.length hb (Xk hT XN (by simp [Qv]) (Qu 30 ?_))
 have hok:∀ l:List (Option Ob),(o++l)[k]?=some (some (.map w (upV up))):=fun l=>by rw [List.getElem?_append_left hk,ho]
 have htk:∀ l:List (Option Ob),List.take o.length (o++l)=o:=fun l=>by simp
 have hst:∀ (l:List (Option Ob)) (X:Option Ob),(o++l).set k X=o.set k X++l:=fun l X=>by rw [List.set_append_left _ _ hk]
 have htk2:∀ (l:List (Option Ob)) (X:Option Ob),List.take o.length (o.set k X++l)=o.set k X:=fun l X=>by
  rw [List.take_append_of_le_length (by simp),List.take_of_length_le (by simp)]
 have hos:o.set k (some (.map w (upV up)))=o:=by
  obtain ⟨h1,h2⟩:=List.getElem?_eq_some_iff.1 ho
  rw [← h2,List.set_getElem_self]
 have hkk:=up_ok up (Qj up x)
 have hpp:=up_put up (Qj up x) (Qj up y) (Qui hf x)
 have hnl:Qe (V.agg [.int .i64 (Qj up x).v,.int .u8 (Qj up x).k,.int .i64 (Qj up x).n])=true:=rfl
 simp only [prV,prC] at hpp ⊢
 by_cases he:Qj up x=Qj up y
 ·have hE:((Qj up x).v==(Qj up y).v&&((Qj up x).k==(Qj up y).k&&(Qj up x).n==(Qj up y).n))=true:=by rw [Qnh]; exact decide_eq_true he
  have hj:joinL up x y=up:=if_pos he
  rw [hj,hos]
  refine yi ?_
  repeat' (first | with_reducible refine And.intro ?_ ?_ | (refine call hT Qo (Qmu hT hf x (by simp only [lA,lC,lN]; omega) (by rw [List.getElem?_append_left hk,ho]) (by simp only [lA,lC,lN]; omega)) 12 fun v σ hv=>?_; obtain ⟨rfl,t1,ht1,rfl⟩:=hv; simp only [prV,prC]; simp -implicitDefEqProofs (disch:=omega) only [go_sem,↓reduceIte,reduceCtorEq,rA,rq,zA,lA,aA,cA,nA,lC,lN,Nat.add_assoc]) | (refine call hT Qo (Qmu hT hf y (by simp only [lA,lC,lN]; omega) (by rw [List.getElem?_append_left hk,ho]) (by simp only [lA,lC,lN]; omega)) 12 fun v σ hv=>?_; obtain ⟨rfl,t1,ht1,rfl⟩:=hv; simp only [prV,prC]; simp -implicitDefEqProofs (disch:=omega) only [go_sem,Qf,↓reduceIte,reduceCtorEq,rA,rq,zA,nT,nF,lR,ga,sa,lA,aA,cA,nA,lC,lN,Nat.add_assoc,List.getElem?_cons_zero,List.getElem?_cons_succ,List.set_cons_zero,List.set_cons_succ,tS,tZ,tN,List.drop_succ_cons,List.drop_zero,List.drop_nil,htk,hE]) | (refine Qb 6 ?_; simp -implicitDefEqProofs (disch:=omega) only [go_sem,↓reduceIte,reduceCtorEq,rA,rq,zA,lA,lC,lN,htk]))
  all_goals (first | omega | exact ⟨_,by omega,rfl⟩ | (simp only [List.length_set]; omega))
 ·have hE:((Qj up x).v==(Qj up y).v&&((Qj up x).k==(Qj up y).k&&(Qj up x).n==(Qj up y).n))=false:=by rw [Qnh]; exact decide_eq_false he
  have hj:joinL up x y=up++[(Qj up x,Qj up y)]:=if_neg he
  rw [hj]
  refine yi ?_
  repeat' (first | with_reducible refine And.intro ?_ ?_ | (refine call hT Qo (Qmu hT hf x (by simp only [lA,lC,lN]; omega) (by rw [List.getElem?_append_left hk,ho]) (by simp only [lA,lC,lN]; omega)) 12 fun v σ hv=>?_; obtain ⟨rfl,t1,ht1,rfl⟩:=hv; simp only [prV,prC]; simp -implicitDefEqProofs (disch:=omega) only [go_sem,↓reduceIte,reduceCtorEq,rA,rq,zA,lA,aA,cA,nA,lC,lN,Nat.add_assoc]) | (refine call hT Qo (Qmu hT hf y (by simp only [lA,lC,lN]; omega) (by rw [List.getElem?_append_left hk,ho]) (by simp only [lA,lC,lN]; omega)) 12 fun v σ hv=>?_; obtain ⟨rfl,t1,ht1,rfl⟩:=hv; simp only [prV,prC]; simp -implicitDefEqProofs (disch:=omega) only [go_sem,Qf,↓reduceIte,reduceCtorEq,rA,rq,zA,aZ,nF,lR,ga,sa,lA,aA,cA,nA,lC,lN,Nat.add_assoc,List.getElem?_cons_zero,List.getElem?_cons_succ,List.set_cons_zero,List.set_cons_succ,tS,tZ,tN,List.drop_succ_cons,List.drop_zero,List.drop_nil,hE]) | (refine Qb 6 ?_; simp -implicitDefEqProofs (disch:=omega) only [go_sem,Qf,↓reduceIte,reduceCtorEq,rA,rq,zA,aZ,nF,lR,ga0,ga,lA,lC,lN,List.getElem?_cons_zero,List.getElem?_cons_succ,tS,tN,List.drop_zero,hok,hst,htk2,hkk,hpp,hnl]))
  all_goals (first | omega | exact ⟨_,by omega,rfl⟩ | (simp only [List.length_set]; omega))
def QsF (n:Int):Bool:=decide (1≤n∧n≤31∧n≠2)
theorem c_reg (hT:Qw P tab) (n:Int):Am.Pure P G Qiy [.int .i64 n] fun u=>u=.bool (QsF n):=by
 refine fun t=>Ym 0 (zL _) (Xk hT Qin (by simp [Xo]) ?_)
 by_cases h1:1≤n
 ·by_cases h2:n≤31
  ·by_cases h3:n=2
   ·have h3':(n != 2)=false:=by simp [h3]
    have hr:QsF n=false:=by simp [QsF,h3]
    rw [hr]
    refine Qu 30 ?_
    refine yn ?_
    iterate 12 (try (refine Qb 2 ?_; simp -implicitDefEqProofs (disch:=omega) only [go_sem,Qf,↓reduceIte,reduceCtorEq,rA,rq,rL,rT,Nat.reduceSub,Nat.reduceMul,Int.reduceToNat,Int.reduceLE,Int.reduceLT,Int.reduceEq,Int.reduceNe,Nat.succ_ne_zero,zA,aZ,Nat.mul_one,Nat.one_mul,Nat.zero_mul,decide_true,decide_false,nT,nF,lR,zL,ge_iff_le,gt_iff_lt,Nat.reduceBEq,Nat.reduceBNe,beq_self_eq_true,bne_self_eq_false,Option.isSome_some,Option.isSome_none,Option.getD_some,Option.getD_none,Xo,QgE,QgD,false_implies,true_implies,true_and,and_true,not_true_eq_false,not_false_eq_true,Int.reduceBEq,nT,nF,decide_true,decide_false,lC,lN,cA,nA,aA,lA,List.getElem?_cons_zero,List.getElem?_cons_succ,List.set_cons_zero,List.set_cons_succ,tS,tZ,tN,h1,h2,h3']))
    try simp
   ·have h3':(n != 2)=true:=by simpa using h3
    have hr:QsF n=true:=by simp [QsF,h1,h2,h3]
    rw [hr]
    refine Qu 30 ?_
    refine yn ?_
    iterate 12 (try (refine Qb 2 ?_; simp -implicitDefEqProofs (disch:=omega) only [go_sem,Qf,↓reduceIte,reduceCtorEq,rA,rq,rL,rT,Nat.reduceSub,Nat.reduceMul,Int.reduceToNat,Int.reduceLE,Int.reduceLT,Int.reduceEq,Int.reduceNe,Nat.succ_ne_zero,zA,aZ,Nat.mul_one,Nat.one_mul,Nat.zero_mul,decide_true,decide_false,nT,nF,lR,zL,ge_iff_le,gt_iff_lt,Nat.reduceBEq,Nat.reduceBNe,beq_self_eq_true,bne_self_eq_false,Option.isSome_some,Option.isSome_none,Option.getD_some,Option.getD_none,Xo,QgE,QgD,false_implies,true_implies,true_and,and_true,not_true_eq_false,not_false_eq_true,Int.reduceBEq,nT,nF,decide_true,decide_false,lC,lN,cA,nA,aA,lA,List.getElem?_cons_zero,List.getElem?_cons_succ,List.set_cons_zero,List.set_cons_succ,tS,tZ,tN,h1,h2,h3']))
    try simp
  ·have hr:QsF n=false:=by simp [QsF,h2]
   rw [hr]
   refine Qu 30 ?_
   simp -implicitDefEqProofs (disch:=omega) only [go_sem,↓reduceIte,reduceCtorEq,rA,rq,decide_true,decide_false,lR,ge_iff_le,Xo,QgE,QgD,and_true,decide_true,decide_false,lN,h1,h2]
   iterate 12 (try (refine Qb 2 ?_; simp -implicitDefEqProofs (disch:=omega) only [go_sem,Qf,↓reduceIte,reduceCtorEq,rA,rq,rL,rT,Nat.reduceSub,Nat.reduceMul,Int.reduceToNat,Int.reduceLE,Int.reduceLT,Int.reduceEq,Int.reduceNe,Nat.succ_ne_zero,zA,aZ,Nat.mul_one,Nat.one_mul,Nat.zero_mul,decide_true,decide_false,nT,nF,lR,zL,ge_iff_le,gt_iff_lt,Nat.reduceBEq,Nat.reduceBNe,beq_self_eq_true,bne_self_eq_false,Option.isSome_some,Option.isSome_none,Option.getD_some,Option.getD_none,Xo,QgE,QgD,false_implies,true_implies,true_and,and_true,not_true_eq_false,not_false_eq_true,Int.reduceBEq,nT,nF,decide_true,decide_false,lC,lN,cA,nA,aA,lA,List.getElem?_cons_zero,List.getElem?_cons_succ,List.set_cons_zero,List.set_cons_succ,tS,tZ,tN,h1,h2]))
   try simp
 ·have hr:QsF n=false:=by simp [QsF,h1]
  rw [hr]
  refine Qu 30 ?_
  simp -implicitDefEqProofs (disch:=omega) only [go_sem,↓reduceIte,reduceCtorEq,rq,decide_false,lR,ge_iff_le,Xo,QgE,QgD,and_true,decide_false,lN,h1]
  iterate 12 (try (refine Qb 2 ?_; simp -implicitDefEqProofs (disch:=omega) only [go_sem,Qf,↓reduceIte,reduceCtorEq,rA,rq,rL,rT,Nat.reduceSub,Nat.reduceMul,Int.reduceToNat,Int.reduceLE,Int.reduceLT,Int.reduceEq,Int.reduceNe,Nat.succ_ne_zero,zA,aZ,Nat.mul_one,Nat.one_mul,Nat.zero_mul,decide_true,decide_false,nT,nF,lR,zL,ge_iff_le,gt_iff_lt,Nat.reduceBEq,Nat.reduceBNe,beq_self_eq_true,bne_self_eq_false,Option.isSome_some,Option.isSome_none,Option.getD_some,Option.getD_none,Xo,QgE,QgD,false_implies,true_implies,true_and,and_true,not_true_eq_false,not_false_eq_true,Int.reduceBEq,nT,nF,decide_true,decide_false,lC,lN,cA,nA,aA,lA,List.getElem?_cons_zero,List.getElem?_cons_succ,List.set_cons_zero,List.set_cons_succ,tS,tZ,tN,h1]))
  try simp
def Zq (vars:Int) (cnt:Nat) (p:Pr):Bool:=decide (-1≤p.v∧p.v<vars)&&(if p.k=1 then QsF p.n else if p.k=2 then decide (0≤p.n∧p.n<cnt) else decide (p.k=3))
theorem QCR (hT:Qw P tab) (p:Pr) (vars:Int) (cnt:Nat):Am.Pure P G QfT [prV p,.int .i64 vars,.int .i64 cnt] fun u=>u=.bool (Zq vars cnt p):=by
 refine fun t=>Ym 0 (zL _) (Xk hT QfJ (by simp [QW]) ?_)
 have hR:=c_reg (P:=P) (G:=G) hT p.n
 simp only [prV,prC]
 by_cases h1:p.v < -1
 ·have hr:Zq vars cnt p=false:=by simp [Zq]; omega
  rw [hr]
  refine Qu 30 ?_
  simp -implicitDefEqProofs (disch:=omega) only [go_sem,↓reduceIte,reduceCtorEq,rA,rq,rL,zA,aZ,decide_true,zL,QW,QfH,QfG,QfF,QfE,QfD,QfC,QfB,QfA,Qfz,true_implies,and_true,decide_true,lC,lN,nA,List.getElem?_cons_zero,h1]
  iterate 20 (try (refine Qb 2 ?_; simp -implicitDefEqProofs (disch:=omega) only [go_sem,Qf,↓reduceIte,reduceCtorEq,rA,rq,rL,rT,Nat.reduceSub,Nat.reduceMul,Int.reduceToNat,Int.reduceLE,Int.reduceLT,Int.reduceEq,Int.reduceNe,Nat.succ_ne_zero,zA,aZ,Nat.mul_one,Nat.one_mul,Nat.zero_mul,decide_true,decide_false,nT,nF,lR,zL,ge_iff_le,gt_iff_lt,Nat.reduceBEq,Nat.reduceBNe,beq_self_eq_true,bne_self_eq_false,Option.isSome_some,Option.isSome_none,Option.getD_some,Option.getD_none,QW,QfH,QfG,QfF,QfE,QfD,QfC,QfB,QfA,Qfz,false_implies,true_implies,true_and,and_true,not_true_eq_false,not_false_eq_true,Int.reduceBEq,nT,nF,decide_true,decide_false,lC,lN,cA,nA,aA,lA,List.getElem?_cons_zero,List.getElem?_cons_succ,List.set_cons_zero,List.set_cons_succ,tS,tZ,tN,h1]))
  try simp
 by_cases h2:vars≤p.v
 ·have hr:Zq vars cnt p=false:=by simp [Zq]; omega
  rw [hr]
  refine Qu 30 ?_
  refine yb ?_
  iterate 20 (try (refine Qb 2 ?_; simp -implicitDefEqProofs (disch:=omega) only [go_sem,Qf,↓reduceIte,reduceCtorEq,rA,rq,rL,rT,Nat.reduceSub,Nat.reduceMul,Int.reduceToNat,Int.reduceLE,Int.reduceLT,Int.reduceEq,Int.reduceNe,Nat.succ_ne_zero,zA,aZ,Nat.mul_one,Nat.one_mul,Nat.zero_mul,decide_true,decide_false,nT,nF,lR,zL,ge_iff_le,gt_iff_lt,Nat.reduceBEq,Nat.reduceBNe,beq_self_eq_true,bne_self_eq_false,Option.isSome_some,Option.isSome_none,Option.getD_some,Option.getD_none,QW,QfH,QfG,QfF,QfE,QfD,QfC,QfB,QfA,Qfz,false_implies,true_implies,true_and,and_true,not_true_eq_false,not_false_eq_true,Int.reduceBEq,nT,nF,decide_true,decide_false,lC,lN,cA,nA,aA,lA,List.getElem?_cons_zero,List.getElem?_cons_succ,List.set_cons_zero,List.set_cons_succ,tS,tZ,tN,h1,h2]))
  try simp
 have hd:decide (-1≤p.v∧p.v<vars)=true:=decide_eq_true ⟨by omega,by omega⟩
 by_cases k1:p.k=1
 ·have k1':(p.k==1)=true:=by simpa using k1
  have hr:Zq vars cnt p=QsF p.n:=by simp [Zq,hd,k1]
  rw [hr]
  refine Qu 30 ?_
  simp -implicitDefEqProofs (disch:=omega) only [go_sem,↓reduceIte,reduceCtorEq,rA,rq,rL,zA,aZ,decide_false,ge_iff_le,QW,QfH,QfG,QfF,QfE,QfD,QfC,QfB,QfA,Qfz,true_implies,and_true,decide_false,lC,lN,nA,List.getElem?_cons_zero,h1,h2,k1]
  iterate 20 (try (refine Qb 2 ?_; simp -implicitDefEqProofs (disch:=omega) only [go_sem,↓reduceIte,reduceCtorEq,rA,rq,zA,lR,beq_self_eq_true,true_implies,and_true,lC,lN,List.getElem?_cons_zero]))
  refine Q3 hT Qin hR rfl 12 ?_
  simp -implicitDefEqProofs (disch:=omega) only [go_sem,↓reduceIte,reduceCtorEq,rq,zA,zL,and_true,lC,lN]
  try simp
 have k1':(p.k==1)=false:=by simpa using k1
 by_cases k2:p.k=2
 ·have k2':(p.k==2)=true:=by simpa using k2
  by_cases n1:0≤p.n
  ·by_cases n2:p.n<cnt
   ·have hr:Zq vars cnt p=true:=by simp [Zq,k2,n1,n2]; omega
    rw [hr]
    refine Qu 30 ?_
    refine yb ?_
    iterate 20 (try (refine Qb 2 ?_; simp -implicitDefEqProofs (disch := omega) only [go_sem, ↓reduceIte, reduceCtorEq, rA, rq, zA, decide_true, lR, zL, ge_iff_le, true_implies, and_true, decide_true, lC, lN, List.getElem?_cons_zero, k1', k2', n1, n2]))
    try simp [n2]
   ·have hr:Zq vars cnt p=false:=by simp [Zq,k2,n2]
    rw [hr]
    refine Qu 30 ?_
    refine yb ?_
    iterate 20 (try (refine Qb 2 ?_; simp -implicitDefEqProofs (disch := omega) only [go_sem, ↓reduceIte, reduceCtorEq, rA, rq, zA, decide_true, decide_false, lR, zL, ge_iff_le, true_implies, and_true, decide_true, decide_false, lC, lN, List.getElem?_cons_zero, k1', k2', n1, n2]))
    try simp [n2]
  ·have hr:Zq vars cnt p=false:=by simp [Zq,k2,n1]
   rw [hr]
   refine Qu 30 ?_
   refine yb ?_
   iterate 20 (try (refine Qb 2 ?_; simp -implicitDefEqProofs (disch := omega) only [go_sem, ↓reduceIte, reduceCtorEq, rA, rq, zA, decide_false, lR, zL, ge_iff_le, true_implies, and_true, decide_false, lC, lN, List.getElem?_cons_zero, k1', k2', n1]))
   try simp
 have k2':(p.k==2)=false:=by simpa using k2
 have hr:Zq vars cnt p=decide (p.k=3):=by simp [Zq,hd,k1,k2]
 have k3':(p.k==3)=decide (p.k=3):=by rw [Bool.eq_iff_iff]; simp
 rw [hr]
 refine Qu 30 ?_
 refine yb ?_
 iterate 20 (try (refine Qb 2 ?_; simp -implicitDefEqProofs (disch := omega) only [go_sem, ↓reduceIte, reduceCtorEq, rA, rq, rL, zA, aZ, zL, true_implies, and_true, lC, lN, List.getElem?_cons_zero, k1', k2', k3']))
 try simp
end Go.Proofs.YtfgccihafnjalaaGreatDoor
