/- The law RelateAll: what is picked. -/
import Derived.Test.YtfgccihafnjalaaGreatDoorJ17
import Derived.Test.YtfgccihafnjalaaGreatDoorY
open Nat renaming reduceEqDiff → rq, reduceAdd → rA, reduceLeDiff → rL, reduceLT → rT, zero_add → zA, le_refl → lR, zero_le → zL, add_zero → aZ
open List renaming length_cons → lC, length_nil → lN, take_succ_cons → tS, length_append → lA, nil_append → nA, cons_append → cA, append_assoc → aA, take_nil → tN, take_zero → tZ, length_map → lM
open Bool renaming not_false → nF, not_true → nT
namespace Go.Proofs.YtfgccihafnjalaaGreatDoor
open Go Go.Am Go.Re
set_option maxRecDepth 100000
variable {P:Program} {G:Nat→Option V}
set_option maxHeartbeats 4000000
section
attribute [local go_sem] nF aA cA List.getD_cons_zero lC lN nA aZ lR Nat.mul_one zA zL and_true decide_false decide_true gt_iff_lt Qj Qnz QgB Qrb Qra QjV QjU Qz not_false_eq_true QeZ QeY QeX QeW QeV QeU QeT QeS QeR Qlo Qln true_and true_implies
def u8s (l:List Int):List V:=l.map (V.int .u8)
theorem QF (l:List Int):(u8s l).length=l.length:=by simp [u8s]
variable {x lk:Int} {i kV ws n cnt:Nat}
theorem QHJ {c:List Int} (h:c[i]?=some x):(u8s c).getD i V.any=.int .u8 x:=by simp [u8s,List.getD_eq_getElem?_getD,h]
theorem Qpn {l:List Int} (h:i<l.length) (x:Int):(ints l).take i++V.int .i64 x::(ints l).drop (i+1)=ints (l.set i x):=by
 unfold ints
 rw [List.set_eq_take_append_cons_drop,if_pos h,List.map_append,List.map_cons,List.map_take,List.map_drop]
def peW (kV wV ws:Nat) (vs:List Int) (lk:Int) (rs ss:List Int) (sure:Bool):List V:=.sl kV wV 0 1 vs.length none::.int .i64 lk::(ints rs++[.sl 10 ws 0 1 ss.length none,.bool sure])
variable {sure:Bool} {vs rs ss:List Int}
theorem Yn {wV:Nat} (hr:rs.length=32):(peW kV wV ws vs lk rs ss sure).length=36:=by simp [peW,Qj,hr]
theorem QjH {wV:Nat} (hr:rs.length=32):(peW kV wV ws vs lk rs ss sure).getD 34 V.any=.sl 10 ws 0 1 ss.length none:=Qz6 hr _ _
theorem Qpo {wV:Nat} (h:i<rs.length) (x:Int):(peW kV wV ws vs lk rs ss sure).take (2+i)++V.int .i64 x::(peW kV wV ws vs lk rs ss sure).drop (2+i+1)=peW kV wV ws vs lk (rs.set i x) ss sure:=by
 unfold peW
 rw [show 2+i=i+2 by omega,show i+2+1=(i+1)+2 by omega]
 simp only [tS,List.drop_succ_cons,cA]
 rw [List.take_append_of_le_length (by rw [Qj]; omega),List.drop_append_of_le_length (by rw [Qj]; omega),← Qpn h x]
 simp
theorem QEU {wV:Nat} (x:Int):(peW kV wV ws vs lk rs ss sure).take 1++V.int .i64 x::(peW kV wV ws vs lk rs ss sure).drop 2=peW kV wV ws vs x rs ss sure:=rfl
theorem Quk {wV:Nat} (i:Nat) (x:Int):peW kV wV ws (vs.set i x) lk rs ss sure=peW kV wV ws vs lk rs ss sure:=by simp [peW]
theorem Qul {wV:Nat} (i:Nat) (x:Int):peW kV wV ws vs lk rs (ss.set i x) sure=peW kV wV ws vs lk rs ss sure:=by simp [peW]
def peH (alt:Bool) (fmt:Int→List UInt8) (v0 v1 v2 v3 v4 t ws wV wW:Nat) (L:List Nd) (X:Option Ob) (vs:List Int) (lk:Int) (rs ss:List Int) (sure:Bool):Am.H:=⟨t,kG fmt v0 v1 v2 v3 v4 L++[none,none,none,none,none,some (.arr ws 44 (ints ss)),X,
 (if alt then some (.arr wV 44 (ints vs)) else some (.arr wW 49 (peW 13 wV ws vs lk rs ss sure))),(if alt then some (.arr wW 49 (peW 12 wV ws vs lk rs ss sure)) else some (.arr wV 44 (ints vs)))]⟩
variable {L:List Nd}
theorem WOk.setV (h:WOk L n cnt vs lk rs ss) (hx:OkId L x) (i:Nat):WOk L n cnt (vs.set i x) lk rs ss :=
 ⟨by rw [List.length_set]; exact h.vl,h.rl,h.sl,fun y hy=>(List.mem_or_eq_of_mem_set hy).elim (h.v y) (fun e=>e▸hx),h.l,h.r,h.s⟩
theorem WOk.setL (h:WOk L n cnt vs lk rs ss) (hx:OkId L x):WOk L n cnt vs x rs ss:=⟨h.vl,h.rl,h.sl,h.v,hx,h.r,h.s⟩
theorem WOk.setS (h:WOk L n cnt vs lk rs ss) (hx:OkId L x) (i:Nat):WOk L n cnt vs lk rs (ss.set i x) :=
 ⟨h.vl,h.rl,by rw [List.length_set]; exact h.sl,h.v,h.l,h.r,fun y hy=>(List.mem_or_eq_of_mem_set hy).elim (h.s y) (fun e=>e▸hx)⟩
theorem WOk.setR (h:WOk L n cnt vs lk rs ss) (hx:OkId L x) (i:Nat):WOk L n cnt vs lk (rs.set i x) ss :=
 ⟨h.vl,by rw [List.length_set]; exact h.rl,h.sl,h.v,h.l,fun r h1 h2 h3=>by
  rw [List.getD_eq_getElem?_getD,List.getElem?_set]
  split
  ·split
   ·exact hx
   ·rename_i h4; exact absurd (by rw [h.rl]; omega) h4
  ·rw [← List.getD_eq_getElem?_getD]; exact h.r r h1 h2 h3,h.s⟩
abbrev peJ (alt:Bool) (fmt:Int→List UInt8) (v0 v1 v2 v3 v4 t ws wV wW:Nat) (L:List Nd) (X:Option Ob) (n cnt:Nat) (sure:Bool) (picks:List Int) (tg:Bool) (params:Int) (fn:List V) (terms:List Int):Nat→Fr→H→Prop:=fun k fr σ=>∃ vs lk rs ss,WOk L n cnt vs lk rs ss∧Qf fr 0=.lst 1 (u8s picks) tg∧Qf fr 3=.int .i64 params∧Qf fr 9=.int .i64 ((n:Nat):Int)∧Qf fr 10=.ref (.agg fn) 0∧Qf fr 11=.ptr 1 v0 0∧Qf fr 14=.lst 1 (ints terms) true∧Qf fr 15=.ptr (if alt then 13 else 12) wW 0∧Qf fr 16=.int .i64 ((k:Nat):Int)∧σ=peH alt fmt v0 v1 v2 v3 v4 t ws wV wW L X vs lk rs ss sure
abbrev peE (alt:Bool) (fmt:Int→List UInt8) (v0 v1 v2 v3 v4 t ws wV wW:Nat) (L:List Nd) (X:Option Ob) (n cnt:Nat) (sure:Bool) (params:Int) (fn:List V):AE→Fr→H→Prop:=fun e fr σ=>∃ vs lk rs ss,e=.ex 0∧WOk L n cnt vs lk rs ss∧Qf fr 3=.int .i64 params∧Qf fr 9=.int .i64 ((n:Nat):Int)∧Qf fr 10=.ref (.agg fn) 0∧Qf fr 11=.ptr 1 v0 0∧Qf fr 15=.ptr (if alt then 13 else 12) wW 0∧σ=peH alt fmt v0 v1 v2 v3 v4 t ws wV wW L X vs lk rs ss sure
theorem QAj (hT:Qh P tab) {alt:Bool} {fmt:Int→List UInt8} {v0 v1 v2 v3 v4 t wV wW:Nat} {X:Option Ob} {picks:List Int} {tg:Bool} {params:Int} {fn:List V} {terms:List Int} (hn:n≤8) (hc:cnt≤20) (htl:terms.length=6) (hte:∀ x∈terms,OkId L x) {k:Nat} {b:Int} (hb:picks[k]?=some b) (hb0:0≤b∧b≤255) (hk:k<60) {fr:Fr} {σ:Am.H} (hJ:peJ alt fmt v0 v1 v2 v3 v4 t ws wV wW L X n cnt sure picks tg params fn terms k fr σ) :
 W P G 214 0 wi fr σ (YH (fun fr σ=>∃ fr' σ',Shift G 214 0 fr σ fr' σ'∧peJ alt fmt v0 v1 v2 v3 v4 t ws wV wW L X n cnt sure picks tg params fn terms (k+1) fr' σ') (peE alt fmt v0 v1 v2 v3 v4 t ws wV wW L X n cnt sure params fn)):=by
 obtain ⟨vs,lk,rs,ss,hW0,f0,f3,f9,f10,f11,f14,f15,f16,rfl⟩:=hJ
 have hkl:=(List.getElem?_eq_some_iff.1 hb).1
 have hD:=QHJ hb
 have hk60:((k:Nat):Int)<60:=by omega
 have e2:IntKind.i64.wrap (((k:Nat):Int)+1)=((k+1:Nat):Int):=by rw [QcU (by omega)]; rfl
 have hq8:IntKind.u8.wrap (b.tdiv 8)=b / 8:=by
  rw [Int.tdiv_eq_ediv_of_nonneg hb0.1,Zl]
  ·simp [IntKind.min,IntKind.signed]; omega
  ·simp [IntKind.max,IntKind.signed,IntKind.bits]; omega
 have hq9:IntKind.i64.wrap (b / 8)=b / 8:=QcU (by omega)
 have hq6:(b / 8).tmod ((terms.length:Nat):Int)=b / 8 % 6:=by rw [htl,Int.tmod_eq_emod_of_nonneg (by omega)]; rfl
 have hix:(b / 8 % 6).toNat<terms.length:=by omega
 obtain ⟨x,hx⟩:∃ x,x=terms.getD (b / 8 % 6).toNat 0:=⟨_,rfl⟩
 have hxo:OkId L x:=by
  rw [hx,List.getD_eq_getElem?_getD,List.getElem?_eq_getElem hix]
  exact hte _ (List.getElem_mem _)
 have hgx:=QbR hix
 rw [← hx] at hgx
 have hi0:0≤b / 8 % 6:=by omega
 have ht6:((terms.length:Nat):Int)≠0:=by omega
 have hix2:b / 8 % 6<((terms.length:Nat):Int):=by omega
 have hvl:=hW0.vl
 have hsl:=hW0.sl
 have hrl:=hW0.rl
 by_cases h1:k<n
 ·have h1':((k:Nat):Int)<((n:Nat):Int):=by omega
  have hkv:k<vs.length:=by omega
  have hpv:=Qpn hkv x
  cases alt with
  | true =>
    refine Qe [(0,.lst 1 (u8s picks) tg),(3,.int .i64 params),(9,.int .i64 ((n:Nat):Int)),(10,.ref (.agg fn) 0),(11,.ptr 1 v0 0),(14,.lst 1 (ints terms) true),(15,.ptr 13 wW 0),(16,.int .i64 ((k:Nat):Int))] ⟨f0,f3,f9,f10,f11,f14,f15,f16,trivial⟩ 12 ?_
    simp only [peH,if_true]
    have hg36:=Yn (kV:=12) (wV:=wV) (ws:=ws) (vs:=vs) (lk:=lk) (ss:=ss) (sure:=sure) hrl
    have hg0:(peW 12 wV ws vs lk rs ss sure).getD 0 V.any=.sl 12 wV 0 1 vs.length none:=rfl
    simp -implicitDefEqProofs (disch:=omega) only [go_sem,↓reduceIte,reduceCtorEq,rA,rq,QF,hkl,hk60]
    iterate 30 (try (refine Qa 4 ?_; simp -implicitDefEqProofs (disch:=omega) only [go_sem,↓reduceIte,reduceCtorEq,rq,rL,Int.reduceEq,QF,hkl,hD,hq8,hq9,hq6,hgx,hi0,hix,ht6,hg36,h1',hg0,hkv,hpv,e2]))
    refine ⟨_,_,Shift.refl _ _ _ _,vs.set k x,lk,rs,ss,hW0.setV hxo k,?_⟩
    simp only [peH,Quk,if_true]
    exact yb
  | false =>
    refine Qe [(0,.lst 1 (u8s picks) tg),(3,.int .i64 params),(9,.int .i64 ((n:Nat):Int)),(10,.ref (.agg fn) 0),(11,.ptr 1 v0 0),(14,.lst 1 (ints terms) true),(15,.ptr 12 wW 0),(16,.int .i64 ((k:Nat):Int))] ⟨f0,f3,f9,f10,f11,f14,f15,f16,trivial⟩ 12 ?_
    simp only [peH,if_false,Bool.false_eq_true]
    have hg36:=Yn (kV:=13) (wV:=wV) (ws:=ws) (vs:=vs) (lk:=lk) (ss:=ss) (sure:=sure) hrl
    have hg0:(peW 13 wV ws vs lk rs ss sure).getD 0 V.any=.sl 13 wV 0 1 vs.length none:=rfl
    simp -implicitDefEqProofs (disch:=omega) only [go_sem,↓reduceIte,reduceCtorEq,rA,rq,QF,hkl,hk60]
    iterate 30 (try (refine Qa 4 ?_; simp -implicitDefEqProofs (disch:=omega) only [go_sem,↓reduceIte,reduceCtorEq,rq,rL,Int.reduceEq,QF,hkl,hD,hq8,hq9,hq6,hgx,hi0,hix,ht6,hg36,h1',hg0,hkv,hpv,e2]))
    refine ⟨_,_,Shift.refl _ _ _ _,vs.set k x,lk,rs,ss,hW0.setV hxo k,?_⟩
    simp only [peH,Quk,if_false,Bool.false_eq_true]
    exact yb
 have h1':¬ ((k:Nat):Int)<((n:Nat):Int):=by omega
 by_cases h2:k=n
 ·have h2':(((k:Nat):Int)==((n:Nat):Int))=true:=by simp [h2]
  cases alt with
  | true =>
    refine Qe [(0,.lst 1 (u8s picks) tg),(3,.int .i64 params),(9,.int .i64 ((n:Nat):Int)),(10,.ref (.agg fn) 0),(11,.ptr 1 v0 0),(14,.lst 1 (ints terms) true),(15,.ptr 13 wW 0),(16,.int .i64 ((k:Nat):Int))] ⟨f0,f3,f9,f10,f11,f14,f15,f16,trivial⟩ 12 ?_
    simp only [peH,if_true]
    have hg36:=Yn (kV:=12) (wV:=wV) (ws:=ws) (vs:=vs) (lk:=lk) (ss:=ss) (sure:=sure) hrl
    have hpl:=QEU (kV:=12) (wV:=wV) (ws:=ws) (vs:=vs) (lk:=lk) (rs:=rs) (ss:=ss) (sure:=sure) x
    simp -implicitDefEqProofs (disch:=omega) only [go_sem,↓reduceIte,reduceCtorEq,rA,rq,QF,hkl,hk60]
    iterate 30 (try (refine Qa 4 ?_; simp -implicitDefEqProofs (disch:=omega) only [go_sem,↓reduceIte,reduceCtorEq,rA,rq,rL,Int.reduceEq,QF,hkl,hD,hq8,hq9,hq6,hgx,hi0,hix,ht6,hg36,h1',h2',hpl,e2]))
    refine ⟨_,_,Shift.refl _ _ _ _,vs,x,rs,ss,hW0.setL hxo,?_⟩
    simp only [peH,if_true]
    exact yb
  | false =>
    refine Qe [(0,.lst 1 (u8s picks) tg),(3,.int .i64 params),(9,.int .i64 ((n:Nat):Int)),(10,.ref (.agg fn) 0),(11,.ptr 1 v0 0),(14,.lst 1 (ints terms) true),(15,.ptr 12 wW 0),(16,.int .i64 ((k:Nat):Int))] ⟨f0,f3,f9,f10,f11,f14,f15,f16,trivial⟩ 12 ?_
    simp only [peH,if_false,Bool.false_eq_true]
    have hg36:=Yn (kV:=13) (wV:=wV) (ws:=ws) (vs:=vs) (lk:=lk) (ss:=ss) (sure:=sure) hrl
    have hpl:=QEU (kV:=13) (wV:=wV) (ws:=ws) (vs:=vs) (lk:=lk) (rs:=rs) (ss:=ss) (sure:=sure) x
    simp -implicitDefEqProofs (disch:=omega) only [go_sem,↓reduceIte,reduceCtorEq,rA,rq,QF,hkl,hk60]
    iterate 30 (try (refine Qa 4 ?_; simp -implicitDefEqProofs (disch:=omega) only [go_sem,↓reduceIte,reduceCtorEq,rA,rq,rL,Int.reduceEq,QF,hkl,hD,hq8,hq9,hq6,hgx,hi0,hix,ht6,hg36,h1',h2',hpl,e2]))
    refine ⟨_,_,Shift.refl _ _ _ _,vs,x,rs,ss,hW0.setL hxo,?_⟩
    simp only [peH,if_false,Bool.false_eq_true]
    exact yb
 have h2':(((k:Nat):Int)==((n:Nat):Int))=false:=by simp; omega
 have hsub:IntKind.i64.wrap (((k:Nat):Int) - ((n:Nat):Int))=((k:Nat):Int) - ((n:Nat):Int):=QcU (by omega)
 have regs:(((((k:Nat):Int) - ((n:Nat):Int)).tmod 3==0)=false∨((((k:Nat):Int) - ((n:Nat):Int)).tmod 3==0)=true∧¬ (0:Int)<((ss.length:Nat):Int))→W P G 214 0 wi fr (peH alt fmt v0 v1 v2 v3 v4 t ws wV wW L X vs lk rs ss sure) (YH (fun fr σ=>∃ fr' σ',Shift G 214 0 fr σ fr' σ'∧peJ alt fmt v0 v1 v2 v3 v4 t ws wV wW L X n cnt sure picks tg params fn terms (k+1) fr' σ') (peE alt fmt v0 v1 v2 v3 v4 t ws wV wW L X n cnt sure params fn)):=by
  intro hor
  by_cases h4:k<32
  ·have h4':((k:Nat):Int)<32:=by omega
   by_cases h5:k=2
   ·have h5':(((k:Nat):Int) != 2)=false:=by simp [h5]
    rcases hor with h3 | ⟨h3,h3'⟩
    ·cases alt with
     | true =>
       refine Qe [(0,.lst 1 (u8s picks) tg),(3,.int .i64 params),(9,.int .i64 ((n:Nat):Int)),(10,.ref (.agg fn) 0),(11,.ptr 1 v0 0),(14,.lst 1 (ints terms) true),(15,.ptr 13 wW 0),(16,.int .i64 ((k:Nat):Int))] ⟨f0,f3,f9,f10,f11,f14,f15,f16,trivial⟩ 12 ?_
       simp only [peH,if_true]
       have hg36:=Yn (kV:=12) (wV:=wV) (ws:=ws) (vs:=vs) (lk:=lk) (ss:=ss) (sure:=sure) hrl
       simp -implicitDefEqProofs (disch:=omega) only [go_sem,↓reduceIte,reduceCtorEq,rA,rq,QF,hkl,hk60]
       iterate 30 (try (refine Qa 4 ?_; simp -implicitDefEqProofs (disch:=omega) only [go_sem,↓reduceIte,reduceCtorEq,rA,rq,Int.reduceEq,QF,hkl,hD,hq8,hq9,hq6,hgx,hi0,hix,ht6,h1',h2',hsub,h3,h4',h5',e2]))
       refine ⟨_,_,Shift.refl _ _ _ _,vs,lk,rs,ss,hW0,?_⟩
       simp only [peH,if_true]
       exact yb
     | false =>
       refine Qe [(0,.lst 1 (u8s picks) tg),(3,.int .i64 params),(9,.int .i64 ((n:Nat):Int)),(10,.ref (.agg fn) 0),(11,.ptr 1 v0 0),(14,.lst 1 (ints terms) true),(15,.ptr 12 wW 0),(16,.int .i64 ((k:Nat):Int))] ⟨f0,f3,f9,f10,f11,f14,f15,f16,trivial⟩ 12 ?_
       simp only [peH,if_false,Bool.false_eq_true]
       have hg36:=Yn (kV:=13) (wV:=wV) (ws:=ws) (vs:=vs) (lk:=lk) (ss:=ss) (sure:=sure) hrl
       simp -implicitDefEqProofs (disch:=omega) only [go_sem,↓reduceIte,reduceCtorEq,rA,rq,QF,hkl,hk60]
       iterate 30 (try (refine Qa 4 ?_; simp -implicitDefEqProofs (disch:=omega) only [go_sem,↓reduceIte,reduceCtorEq,rA,rq,Int.reduceEq,QF,hkl,hD,hq8,hq9,hq6,hgx,hi0,hix,ht6,h1',h2',hsub,h3,h4',h5',e2]))
       refine ⟨_,_,Shift.refl _ _ _ _,vs,lk,rs,ss,hW0,?_⟩
       simp only [peH,if_false,Bool.false_eq_true]
       exact yb
    ·cases alt with
     | true =>
       refine Qe [(0,.lst 1 (u8s picks) tg),(3,.int .i64 params),(9,.int .i64 ((n:Nat):Int)),(10,.ref (.agg fn) 0),(11,.ptr 1 v0 0),(14,.lst 1 (ints terms) true),(15,.ptr 13 wW 0),(16,.int .i64 ((k:Nat):Int))] ⟨f0,f3,f9,f10,f11,f14,f15,f16,trivial⟩ 12 ?_
       simp only [peH,if_true]
       have hg36:=Yn (kV:=12) (wV:=wV) (ws:=ws) (vs:=vs) (lk:=lk) (ss:=ss) (sure:=sure) hrl
       have hg34:=QjH (kV:=12) (wV:=wV) (ws:=ws) (vs:=vs) (lk:=lk) (ss:=ss) (sure:=sure) hrl
       simp -implicitDefEqProofs (disch:=omega) only [go_sem,↓reduceIte,reduceCtorEq,rA,rq,QF,hkl,hk60]
       iterate 30 (try (refine Qa 4 ?_; simp -implicitDefEqProofs (disch:=omega) only [go_sem,↓reduceIte,reduceCtorEq,rA,rq,rL,Int.reduceEq,QF,hkl,hD,hq8,hq9,hq6,hgx,hi0,hix,ht6,hg36,h1',h2',hsub,h3,h3',hg34,h4',h5',e2]))
       refine ⟨_,_,Shift.refl _ _ _ _,vs,lk,rs,ss,hW0,?_⟩
       simp only [peH,if_true]
       exact yb
     | false =>
       refine Qe [(0,.lst 1 (u8s picks) tg),(3,.int .i64 params),(9,.int .i64 ((n:Nat):Int)),(10,.ref (.agg fn) 0),(11,.ptr 1 v0 0),(14,.lst 1 (ints terms) true),(15,.ptr 12 wW 0),(16,.int .i64 ((k:Nat):Int))] ⟨f0,f3,f9,f10,f11,f14,f15,f16,trivial⟩ 12 ?_
       simp only [peH,if_false,Bool.false_eq_true]
       have hg36:=Yn (kV:=13) (wV:=wV) (ws:=ws) (vs:=vs) (lk:=lk) (ss:=ss) (sure:=sure) hrl
       have hg34:=QjH (kV:=13) (wV:=wV) (ws:=ws) (vs:=vs) (lk:=lk) (ss:=ss) (sure:=sure) hrl
       simp -implicitDefEqProofs (disch:=omega) only [go_sem,↓reduceIte,reduceCtorEq,rA,rq,QF,hkl,hk60]
       iterate 30 (try (refine Qa 4 ?_; simp -implicitDefEqProofs (disch:=omega) only [go_sem,↓reduceIte,reduceCtorEq,rA,rq,rL,Int.reduceEq,QF,hkl,hD,hq8,hq9,hq6,hgx,hi0,hix,ht6,hg36,h1',h2',hsub,h3,h3',hg34,h4',h5',e2]))
       refine ⟨_,_,Shift.refl _ _ _ _,vs,lk,rs,ss,hW0,?_⟩
       simp only [peH,if_false,Bool.false_eq_true]
       exact yb
   ·have h5':(((k:Nat):Int) != 2)=true:=by simp; omega
    have h6':(0:Int)<((k:Nat):Int):=by omega
    have hkr:k<rs.length:=by omega
    rcases hor with h3 | ⟨h3,h3'⟩
    ·cases alt with
     | true =>
       refine Qe [(0,.lst 1 (u8s picks) tg),(3,.int .i64 params),(9,.int .i64 ((n:Nat):Int)),(10,.ref (.agg fn) 0),(11,.ptr 1 v0 0),(14,.lst 1 (ints terms) true),(15,.ptr 13 wW 0),(16,.int .i64 ((k:Nat):Int))] ⟨f0,f3,f9,f10,f11,f14,f15,f16,trivial⟩ 12 ?_
       simp only [peH,if_true]
       have hg36:=Yn (kV:=12) (wV:=wV) (ws:=ws) (vs:=vs) (lk:=lk) (ss:=ss) (sure:=sure) hrl
       have hpr:=Qpo (kV:=12) (wV:=wV) (ws:=ws) (vs:=vs) (lk:=lk) (ss:=ss) (sure:=sure) hkr x
       simp -implicitDefEqProofs (disch:=omega) only [go_sem,↓reduceIte,reduceCtorEq,rA,rq,QF,hkl,hk60]
       iterate 30 (try (refine Qa 4 ?_; simp -implicitDefEqProofs (disch:=omega) only [go_sem,↓reduceIte,reduceCtorEq,rA,rq,rL,Int.reduceEq,QF,hkl,hD,hq8,hq9,hq6,hgx,hi0,hix,ht6,hg36,h1',h2',hsub,h3,h4',h5',h6',hpr,e2]))
       refine ⟨_,_,Shift.refl _ _ _ _,vs,lk,rs.set k x,ss,hW0.setR hxo k,?_⟩
       simp only [peH,if_true]
       exact yb
     | false =>
       refine Qe [(0,.lst 1 (u8s picks) tg),(3,.int .i64 params),(9,.int .i64 ((n:Nat):Int)),(10,.ref (.agg fn) 0),(11,.ptr 1 v0 0),(14,.lst 1 (ints terms) true),(15,.ptr 12 wW 0),(16,.int .i64 ((k:Nat):Int))] ⟨f0,f3,f9,f10,f11,f14,f15,f16,trivial⟩ 12 ?_
       simp only [peH,if_false,Bool.false_eq_true]
       have hg36:=Yn (kV:=13) (wV:=wV) (ws:=ws) (vs:=vs) (lk:=lk) (ss:=ss) (sure:=sure) hrl
       have hpr:=Qpo (kV:=13) (wV:=wV) (ws:=ws) (vs:=vs) (lk:=lk) (ss:=ss) (sure:=sure) hkr x
       simp -implicitDefEqProofs (disch:=omega) only [go_sem,↓reduceIte,reduceCtorEq,rA,rq,QF,hkl,hk60]
       iterate 30 (try (refine Qa 4 ?_; simp -implicitDefEqProofs (disch:=omega) only [go_sem,↓reduceIte,reduceCtorEq,rA,rq,rL,Int.reduceEq,QF,hkl,hD,hq8,hq9,hq6,hgx,hi0,hix,ht6,hg36,h1',h2',hsub,h3,h4',h5',h6',hpr,e2]))
       refine ⟨_,_,Shift.refl _ _ _ _,vs,lk,rs.set k x,ss,hW0.setR hxo k,?_⟩
       simp only [peH,if_false,Bool.false_eq_true]
       exact yb
    ·cases alt with
     | true =>
       refine Qe [(0,.lst 1 (u8s picks) tg),(3,.int .i64 params),(9,.int .i64 ((n:Nat):Int)),(10,.ref (.agg fn) 0),(11,.ptr 1 v0 0),(14,.lst 1 (ints terms) true),(15,.ptr 13 wW 0),(16,.int .i64 ((k:Nat):Int))] ⟨f0,f3,f9,f10,f11,f14,f15,f16,trivial⟩ 12 ?_
       simp only [peH,if_true]
       have hg36:=Yn (kV:=12) (wV:=wV) (ws:=ws) (vs:=vs) (lk:=lk) (ss:=ss) (sure:=sure) hrl
       have hg34:=QjH (kV:=12) (wV:=wV) (ws:=ws) (vs:=vs) (lk:=lk) (ss:=ss) (sure:=sure) hrl
       have hpr:=Qpo (kV:=12) (wV:=wV) (ws:=ws) (vs:=vs) (lk:=lk) (ss:=ss) (sure:=sure) hkr x
       simp -implicitDefEqProofs (disch:=omega) only [go_sem,↓reduceIte,reduceCtorEq,rA,rq,QF,hkl,hk60]
       iterate 30 (try (refine Qa 4 ?_; simp -implicitDefEqProofs (disch:=omega) only [go_sem,↓reduceIte,reduceCtorEq,rA,rq,rL,Int.reduceEq,QF,hkl,hD,hq8,hq9,hq6,hgx,hi0,hix,ht6,hg36,h1',h2',hsub,h3,h3',hg34,h4',h5',h6',hpr,e2]))
       refine ⟨_,_,Shift.refl _ _ _ _,vs,lk,rs.set k x,ss,hW0.setR hxo k,?_⟩
       simp only [peH,if_true]
       exact yb
     | false =>
       refine Qe [(0,.lst 1 (u8s picks) tg),(3,.int .i64 params),(9,.int .i64 ((n:Nat):Int)),(10,.ref (.agg fn) 0),(11,.ptr 1 v0 0),(14,.lst 1 (ints terms) true),(15,.ptr 12 wW 0),(16,.int .i64 ((k:Nat):Int))] ⟨f0,f3,f9,f10,f11,f14,f15,f16,trivial⟩ 12 ?_
       simp only [peH,if_false,Bool.false_eq_true]
       have hg36:=Yn (kV:=13) (wV:=wV) (ws:=ws) (vs:=vs) (lk:=lk) (ss:=ss) (sure:=sure) hrl
       have hg34:=QjH (kV:=13) (wV:=wV) (ws:=ws) (vs:=vs) (lk:=lk) (ss:=ss) (sure:=sure) hrl
       have hpr:=Qpo (kV:=13) (wV:=wV) (ws:=ws) (vs:=vs) (lk:=lk) (ss:=ss) (sure:=sure) hkr x
       simp -implicitDefEqProofs (disch:=omega) only [go_sem,↓reduceIte,reduceCtorEq,rA,rq,QF,hkl,hk60]
       iterate 30 (try (refine Qa 4 ?_; simp -implicitDefEqProofs (disch:=omega) only [go_sem,↓reduceIte,reduceCtorEq,rA,rq,rL,Int.reduceEq,QF,hkl,hD,hq8,hq9,hq6,hgx,hi0,hix,ht6,hg36,h1',h2',hsub,h3,h3',hg34,h4',h5',h6',hpr,e2]))
       refine ⟨_,_,Shift.refl _ _ _ _,vs,lk,rs.set k x,ss,hW0.setR hxo k,?_⟩
       simp only [peH,if_false,Bool.false_eq_true]
       exact yb
  ·have h4':¬ ((k:Nat):Int)<32:=by omega
   rcases hor with h3 | ⟨h3,h3'⟩
   ·cases alt with
    | true =>
      refine Qe [(0,.lst 1 (u8s picks) tg),(3,.int .i64 params),(9,.int .i64 ((n:Nat):Int)),(10,.ref (.agg fn) 0),(11,.ptr 1 v0 0),(14,.lst 1 (ints terms) true),(15,.ptr 13 wW 0),(16,.int .i64 ((k:Nat):Int))] ⟨f0,f3,f9,f10,f11,f14,f15,f16,trivial⟩ 12 ?_
      simp only [peH,if_true]
      have hg36:=Yn (kV:=12) (wV:=wV) (ws:=ws) (vs:=vs) (lk:=lk) (ss:=ss) (sure:=sure) hrl
      simp -implicitDefEqProofs (disch:=omega) only [go_sem,↓reduceIte,reduceCtorEq,rA,rq,QF,hkl,hk60]
      iterate 30 (try (refine Qa 4 ?_; simp -implicitDefEqProofs (disch:=omega) only [go_sem,↓reduceIte,reduceCtorEq,rq,Int.reduceEq,QF,hkl,hD,hq8,hq9,hq6,hgx,hi0,hix,ht6,h1',h2',hsub,h3,h4',e2]))
      refine ⟨_,_,Shift.refl _ _ _ _,vs,lk,rs,ss,hW0,?_⟩
      simp only [peH,if_true]
      exact yb
    | false =>
      refine Qe [(0,.lst 1 (u8s picks) tg),(3,.int .i64 params),(9,.int .i64 ((n:Nat):Int)),(10,.ref (.agg fn) 0),(11,.ptr 1 v0 0),(14,.lst 1 (ints terms) true),(15,.ptr 12 wW 0),(16,.int .i64 ((k:Nat):Int))] ⟨f0,f3,f9,f10,f11,f14,f15,f16,trivial⟩ 12 ?_
      simp only [peH,if_false,Bool.false_eq_true]
      have hg36:=Yn (kV:=13) (wV:=wV) (ws:=ws) (vs:=vs) (lk:=lk) (ss:=ss) (sure:=sure) hrl
      simp -implicitDefEqProofs (disch:=omega) only [go_sem,↓reduceIte,reduceCtorEq,rA,rq,QF,hkl,hk60]
      iterate 30 (try (refine Qa 4 ?_; simp -implicitDefEqProofs (disch:=omega) only [go_sem,↓reduceIte,reduceCtorEq,rq,Int.reduceEq,QF,hkl,hD,hq8,hq9,hq6,hgx,hi0,hix,ht6,h1',h2',hsub,h3,h4',e2]))
      refine ⟨_,_,Shift.refl _ _ _ _,vs,lk,rs,ss,hW0,?_⟩
      simp only [peH,if_false,Bool.false_eq_true]
      exact yb
   ·cases alt with
    | true =>
      refine Qe [(0,.lst 1 (u8s picks) tg),(3,.int .i64 params),(9,.int .i64 ((n:Nat):Int)),(10,.ref (.agg fn) 0),(11,.ptr 1 v0 0),(14,.lst 1 (ints terms) true),(15,.ptr 13 wW 0),(16,.int .i64 ((k:Nat):Int))] ⟨f0,f3,f9,f10,f11,f14,f15,f16,trivial⟩ 12 ?_
      simp only [peH,if_true]
      have hg36:=Yn (kV:=12) (wV:=wV) (ws:=ws) (vs:=vs) (lk:=lk) (ss:=ss) (sure:=sure) hrl
      have hg34:=QjH (kV:=12) (wV:=wV) (ws:=ws) (vs:=vs) (lk:=lk) (ss:=ss) (sure:=sure) hrl
      simp -implicitDefEqProofs (disch:=omega) only [go_sem,↓reduceIte,reduceCtorEq,rA,rq,QF,hkl,hk60]
      iterate 30 (try (refine Qa 4 ?_; simp -implicitDefEqProofs (disch:=omega) only [go_sem,↓reduceIte,reduceCtorEq,rA,rq,rL,Int.reduceEq,QF,hkl,hD,hq8,hq9,hq6,hgx,hi0,hix,ht6,hg36,h1',h2',hsub,h3,h3',hg34,h4',e2]))
      refine ⟨_,_,Shift.refl _ _ _ _,vs,lk,rs,ss,hW0,?_⟩
      simp only [peH,if_true]
      exact yb
    | false =>
      refine Qe [(0,.lst 1 (u8s picks) tg),(3,.int .i64 params),(9,.int .i64 ((n:Nat):Int)),(10,.ref (.agg fn) 0),(11,.ptr 1 v0 0),(14,.lst 1 (ints terms) true),(15,.ptr 12 wW 0),(16,.int .i64 ((k:Nat):Int))] ⟨f0,f3,f9,f10,f11,f14,f15,f16,trivial⟩ 12 ?_
      simp only [peH,if_false,Bool.false_eq_true]
      have hg36:=Yn (kV:=13) (wV:=wV) (ws:=ws) (vs:=vs) (lk:=lk) (ss:=ss) (sure:=sure) hrl
      have hg34:=QjH (kV:=13) (wV:=wV) (ws:=ws) (vs:=vs) (lk:=lk) (ss:=ss) (sure:=sure) hrl
      simp -implicitDefEqProofs (disch:=omega) only [go_sem,↓reduceIte,reduceCtorEq,rA,rq,QF,hkl,hk60]
      iterate 30 (try (refine Qa 4 ?_; simp -implicitDefEqProofs (disch:=omega) only [go_sem,↓reduceIte,reduceCtorEq,rA,rq,rL,Int.reduceEq,QF,hkl,hD,hq8,hq9,hq6,hgx,hi0,hix,ht6,hg36,h1',h2',hsub,h3,h3',hg34,h4',e2]))
      refine ⟨_,_,Shift.refl _ _ _ _,vs,lk,rs,ss,hW0,?_⟩
      simp only [peH,if_false,Bool.false_eq_true]
      exact yb
 cases h3:((((k:Nat):Int) - ((n:Nat):Int)).tmod 3==0) with
 | false=>exact regs (.inl h3)
 | true =>
   by_cases hs0:(0:Int)<((ss.length:Nat):Int)
   ·have hsm:(((k:Nat):Int)).tmod ((ss.length:Nat):Int)=((k % ss.length:Nat):Int):=by rw [Int.tmod_eq_emod_of_nonneg (by omega)]; rfl
    have hsi:k % ss.length<ss.length:=Nat.mod_lt _ (by omega)
    have hs1:((ss.length:Nat):Int)≠0:=by omega
    have hps:=Qpn hsi x
    cases alt with
    | true =>
      refine Qe [(0,.lst 1 (u8s picks) tg),(3,.int .i64 params),(9,.int .i64 ((n:Nat):Int)),(10,.ref (.agg fn) 0),(11,.ptr 1 v0 0),(14,.lst 1 (ints terms) true),(15,.ptr 13 wW 0),(16,.int .i64 ((k:Nat):Int))] ⟨f0,f3,f9,f10,f11,f14,f15,f16,trivial⟩ 12 ?_
      simp only [peH,if_true]
      have hg36:=Yn (kV:=12) (wV:=wV) (ws:=ws) (vs:=vs) (lk:=lk) (ss:=ss) (sure:=sure) hrl
      have hg34:=QjH (kV:=12) (wV:=wV) (ws:=ws) (vs:=vs) (lk:=lk) (ss:=ss) (sure:=sure) hrl
      simp -implicitDefEqProofs (disch:=omega) only [go_sem,↓reduceIte,reduceCtorEq,rA,rq,QF,hkl,hk60]
      iterate 30 (try (refine Qa 4 ?_; simp -implicitDefEqProofs (disch:=omega) only [go_sem,↓reduceIte,reduceCtorEq,rA,rq,rL,Int.reduceEq,QF,hkl,hD,hq8,hq9,hq6,hgx,hi0,hix,ht6,hg36,h1',h2',hsub,h3,hs0,hs1,hg34,hsm,hsi,hps,e2]))
      refine ⟨_,_,Shift.refl _ _ _ _,vs,lk,rs,ss.set (k % ss.length) x,hW0.setS hxo _,?_⟩
      simp only [peH,Qul,if_true]
      exact yb
    | false =>
      refine Qe [(0,.lst 1 (u8s picks) tg),(3,.int .i64 params),(9,.int .i64 ((n:Nat):Int)),(10,.ref (.agg fn) 0),(11,.ptr 1 v0 0),(14,.lst 1 (ints terms) true),(15,.ptr 12 wW 0),(16,.int .i64 ((k:Nat):Int))] ⟨f0,f3,f9,f10,f11,f14,f15,f16,trivial⟩ 12 ?_
      simp only [peH,if_false,Bool.false_eq_true]
      have hg36:=Yn (kV:=13) (wV:=wV) (ws:=ws) (vs:=vs) (lk:=lk) (ss:=ss) (sure:=sure) hrl
      have hg34:=QjH (kV:=13) (wV:=wV) (ws:=ws) (vs:=vs) (lk:=lk) (ss:=ss) (sure:=sure) hrl
      simp -implicitDefEqProofs (disch:=omega) only [go_sem,↓reduceIte,reduceCtorEq,rA,rq,QF,hkl,hk60]
      iterate 30 (try (refine Qa 4 ?_; simp -implicitDefEqProofs (disch:=omega) only [go_sem,↓reduceIte,reduceCtorEq,rA,rq,rL,Int.reduceEq,QF,hkl,hD,hq8,hq9,hq6,hgx,hi0,hix,ht6,hg36,h1',h2',hsub,h3,hs0,hs1,hg34,hsm,hsi,hps,e2]))
      refine ⟨_,_,Shift.refl _ _ _ _,vs,lk,rs,ss.set (k % ss.length) x,hW0.setS hxo _,?_⟩
      simp only [peH,Qul,if_false,Bool.false_eq_true]
      exact yb
   ·exact regs (.inr ⟨h3,hs0⟩)
end
section
attribute [local go_sem] zA and_true QcM Xj QFJ QFI QFH QFG QFF QFE QFD
variable {L:List Nd} {v0 v1 v2 v3 v4 t:Nat}
theorem k_atN (hT:Qh P tab) (F:Fmt P G) (vs:List Int) (lk:Int) (rs ss:List Int) (sure:Bool) (hr:rs.length=32) {n:Int} (hn:i64 n) (hL:L.length≤100000) :
 C P G 0 X7 [.ptr 1 v0 0,.agg (wV vs lk rs ss sure),.int .u8 3,.int .i64 n] ⟨t,kG F.fmt v0 v1 v2 v3 v4 L⟩ fun u σ=>∃ L2 t2 w2 w3 w4,Ext L L2∧Hs L2 (co n)∧L2.length≤L.length+1∧u=.int .i64 (Xc L2 (co n))∧σ=⟨t2,kG F.fmt v0 v1 w2 w3 w4 L2⟩:=by
 refine QoP (Q:=fun u σ=>∃ L2 t2 w2 w3 w4,∃ ex:List (Option Ob),Ext L L2∧Hs L2 (co n)∧L2.length≤L.length+1∧u=.int .i64 (Xc L2 (co n))∧σ=⟨t2,kG F.fmt v0 v1 w2 w3 w4 L2++ex⟩) ?_ fun u σ' hq=>?_
 rotate_left
 ·obtain ⟨L2,t2,w2,w3,w4,ex,h1,h2,h3,rfl,rfl⟩:=hq
  exact ⟨kG F.fmt v0 v1 w2 w3 w4 L2,t2,XK _ _,lR _,zL _,L2,t2,w2,w3,w4,h1,h2,h3,rfl,rfl⟩
 refine Q0 hT X5 (by simp [Xj]) (Ql 16 ?_)
 have ho:ones (wV vs lk rs ss sure)=True:=eq_true fun u hu=>by
  rcases List.mem_cons.1 hu with rfl | hu
  ·rfl
  rcases List.mem_cons.1 hu with rfl | hu
  ·rfl
  exact (of_eq_true (QgI rs ss sure)) u hu
 simp -implicitDefEqProofs (disch:=omega) only [go_sem,↓reduceIte,reduceCtorEq,rA,rq,Int.reduceBEq,ho]
 iterate 6 (try (refine Qa 4 ?_; simp -implicitDefEqProofs (disch:=omega) only [go_sem,↓reduceIte,reduceCtorEq,rq,Int.reduceBEq]))
 refine call hT XD (QdA hT F (n:=n) hn (by omega)) 8 fun v σ hv=>?_
 obtain ⟨L2,t2,u2,u3,u4,x1,x2,x3,x4,rfl,rfl⟩:=hv
 refine ya ?_
 exact ⟨L2,_,u2,u3,u4,_,x1,x2,x3,rfl,rfl,rfl⟩
theorem c_atP (hT:Qh P tab) (F:Fmt P G) {L1:List Nd} {n cnt:Nat} {vs:List Int} {lk:Int} {rs ss:List Int} {sure:Bool} {l:List Pr} (hW0:WOk L1 n cnt vs lk rs ss) (hl:∀ p,p∈l↔Qp7 L1 vs lk (plA rs ss) p) (hE:Ext L1 L) (hL:L.length≤100000) {p:Pr} (ht:QQ ((n:Nat):Int) cnt p=true) (hn64:i64 p.n) :
 C P G 0 X7 [.ptr 1 v0 0,.agg (wV vs lk rs ss sure),.int .u8 p.k,.int .i64 p.n] ⟨t,kG F.fmt v0 v1 v2 v3 v4 L⟩ fun u σ=>∃ x L2 t2 w2 w3 w4,Ext L L2∧L2.length≤L.length+1∧(x==hW vs lk p.v)=decide (p∈l)∧u=.int .i64 x∧σ=⟨t2,kG F.fmt v0 v1 w2 w3 w4 L2⟩:=by
 have hm:=hl p
 rw [Qim hW0.vl hW0.sl] at hm
 simp only [ht,true_and] at hm
 have hv:=(YS.1 ht).1
 have hok:=hW0.hw hv.2
 rcases (YS.1 ht).2 with ⟨k1,a1,a2,a3⟩ | ⟨k2,a1,a2⟩ | k3
 ·refine (k_at (gp:=.ptr 1 v0 0) (o:=kG F.fmt v0 v1 v2 v3 v4 L) hT vs lk rs ss sure hW0.rl (x:=rs.getD p.n.toNat 0) (.inl ⟨k1,by omega,by omega,rfl⟩)).conseq fun u σ hu=>?_
  obtain ⟨rfl,t',_,rfl⟩:=hu
  refine ⟨_,L,t',v2,v3,v4,Ext.refl L,by omega,?_,rfl,rfl⟩
  rw [if_neg (by omega)] at hm
  unfold plH at hm
  rw [if_pos (show (pE p).k=1 from k1)] at hm
  rw [Bool.eq_iff_iff,beq_iff_eq,decide_eq_true_eq,hm]
  exact eq_comm
 ·refine (k_at (gp:=.ptr 1 v0 0) (o:=kG F.fmt v0 v1 v2 v3 v4 L) hT vs lk rs ss sure hW0.rl (x:=ss.getD p.n.toNat 0) (.inr ⟨k2,by omega,by rw [hW0.sl]; omega,rfl⟩)).conseq fun u σ hu=>?_
  obtain ⟨rfl,t',_,rfl⟩:=hu
  refine ⟨_,L,t',v2,v3,v4,Ext.refl L,by omega,?_,rfl,rfl⟩
  rw [if_neg (by omega)] at hm
  unfold plH at hm
  have hk2:¬ (pE p).k=1:=by show ¬ p.k=1; omega
  rw [if_neg hk2] at hm
  rw [Bool.eq_iff_iff,beq_iff_eq,decide_eq_true_eq,hm]
  exact eq_comm
 ·rw [k3]
  refine (k_atN hT F vs lk rs ss sure hW0.rl hn64 hL).conseq fun u σ hu=>?_
  obtain ⟨L2,t2,w2,w3,w4,h1,h2,h3,rfl,rfl⟩:=hu
  refine ⟨_,L2,t2,w2,w3,w4,h1,h3,?_,rfl,rfl⟩
  rw [if_pos k3] at hm
  have hok2:=(hok.ext hE).ext h1
  have e1:=Quq hok hE
  have e2:=Quq (hok.ext hE) h1
  rw [Bool.eq_iff_iff,beq_iff_eq,decide_eq_true_eq,hm,← e1,← e2,Qs2 hok2]
  exact ⟨fun h=>⟨h2,h.symm⟩,fun h=>h.2.symm⟩
end
section
attribute [local go_sem] nF nT aA cA List.drop_nil List.drop_succ_cons List.drop_zero List.getD_cons_succ List.getD_cons_zero lA lC lN nA List.set_cons_succ List.set_cons_zero tN tS tZ aZ lR Nat.mul_one Nat.one_mul Nat.succ_ne_zero zA zL Nat.zero_mul Option.getD_none Option.getD_some Option.isSome_none Option.isSome_some and_true beq_self_eq_true bne_self_eq_false decide_false decide_true false_implies ge_iff_le gt_iff_lt Qj Qkg Qnh Qsl Qeb QcM Qbc QdB Qg0 Qh2 Qai Qz not_false_eq_true not_true_eq_false proofmarklaw25_RelateAll Qsu Qst QeZ QeY QeX QeW QeV QeU QeT QeS QeR Qlr Qss Qlq QhF QhE QeQ QeP Qcl Qck Qbx Qbw Qbv Qsr Qcj QeO QhD Qlp Qjp Qsq Qsp Qso Qsn Qlo Qln Qk true_and true_implies
theorem ra_Z (hT:Qh P tab) (F:Fmt P G) (hS:Qb0 P G) (hW:Works P G) {v0 v1 v2 v3 v4 t:Nat} {L L1:List Nd} {l:List Pr} {m n cnt:Nat} {params lk:Int} {vs rs ss:List Int} (hm:m≤4) (hn:n≤8) (hcnt:cnt=Zk m params) (hW0:WOk L1 n cnt vs lk rs ss) (hl:∀ p,p∈l↔Qp7 L1 vs lk (plA rs ss) p) (hs:Srt l) (hll:l.length≤1000) (hl64:∀ x∈l,i64 x.n) (hL:L.length≤9000) {Q:V→Am.H→Prop} (hQ:∀ σ,Q (.bool true) σ) :
 W P G 214 0 (XJ 10 proofmarklaw25_RelateAll.body) [(3,.int .i64 params),(9,.int .i64 ((n:Nat):Int)),(10,.ref (.agg (fnC m)) 0),(11,.ptr 1 v0 0),(18,.lst 3 (prs l) false)] ⟨t,kG F.fmt v0 v1 v2 v3 v4 L⟩ (QoH G proofmarklaw25_RelateAll.res Q):=by
 have hW':Am.Pure P G Xh [] fun u=>u=.bool true:=hW
 have hc20:cnt≤20:=by rw [hcnt]; unfold Zk; omega
 have hlf:(fnC m).length=5:=rfl
 have htf:List.take 5 (fnC m)=fnC m:=List.take_of_length_le (by rw [hlf]; omega)
 have hth:∀ p∈l,QQ ((n:Nat):Int) cnt p=true:=fun p hp=>((Qim hW0.vl hW0.sl p).1 ((hl p).1 hp)).1
 show W P G 214 0 (.seq (.reg Qlp [190,191,192,193,194,195,189,196,197,25]) (.seq (.reg Qjp [198,199,200,201,202,203,204,205,206,207,208,209,210,211,212,213]) .ret)) _ _ _
 obtain ⟨T,hTT⟩:∃ c:AC,c=.seq (.reg Qjp [198,199,200,201,202,203,204,205,206,207,208,209,210,211,212,213]) .ret:=⟨_,rfl⟩
 rw [← hTT]
 refine Ql 14 ?_
 refine yw ?_
 refine call hT Zg (QpY (P:=P) (G:=G) hT F hS (v0:=v0) (v1:=v1) (v2:=v2) (v3:=v3) (v4:=v4) (L:=L) l false hll hl64 n m (by omega) hm params 200 (by omega) (by omega) []) 1 fun v σ hv=>?_
 obtain ⟨L0,L',t2,u2,u3,u4,ps,hps,b,hb,h1,h2,h3,h4,h5,h6,rfl,rfl⟩:=hv
 rw [← hcnt] at hps hb h3
 rw [Qxs hs hth] at hps
 subst hps
 have e200:max (0:Int) 200=200:=rfl
 rw [e200] at hb h2 h3
 rw [← hcnt,e200]
 have hlen:(frV L0 L' 200 ps b n cnt m).length=36:=by simp [frV,woF,Xs]
 have hones:ones (frV L0 L' 200 ps b n cnt m)=True:=eq_true (by
  intro c hc
  simp only [frV,woF,QK,List.mem_cons,List.mem_append,List.mem_map,List.not_mem_nil,or_false] at hc
  rcases hc with rfl | rfl | ⟨r,_,rfl⟩ | rfl | rfl <;> rfl)
 have hnlw:=QuF L0 L' 200 ps b n cnt m
 have hwv:=QE9 L0 L' 200 ps b n cnt m
 have hall:=Qy7 (b:=b) (nx:=200) (Lm:=L') (L0:=L0) hW0 hl h6 h2 h3 h4 hb
 have hA:=fun t=>c_All (P:=P) (G:=G) hT hS (fmt:=F.fmt) (v0:=v0) (v1:=v1) (v2:=u2) (v3:=u3) (v4:=u4) (t:=t) (L:=L') (vs:=vsW L' ps b n) (rs:=rsW L0 L' ps b 200 n) (ss:=ssW L0 L' ps b 200 n cnt) (lk:=hvW L' ps b n (-1)) (sure:=decide (m=0)) (Qdq _ _ _ _ _ _ _) (by rw [Qly]; omega) (by rw [Qdq]; omega) (fun v a1 a2=>by
  rw [Qly] at a2
  rw [QjX ⟨a1,a2⟩]
  obtain ⟨d,_,q2,q3⟩:=Qfs h6 (v:=v) ⟨a1,a2⟩
  have:=Qfr q3
  rw [q2]
  exact ⟨this.1,by have:=(List.getElem?_eq_some_iff.1 this.2).1; omega⟩)
 rw [← hwv] at hA
 obtain ⟨wo,hwo⟩:∃ wo,wo=frV L0 L' 200 ps b n cnt m:=⟨_,rfl⟩
 rw [← hwo] at hlen hones hnlw hA ⊢
 have htk:List.take 36 wo=wo:=List.take_of_length_le (by omega)
 have hnew:¬ wo=[]:=fun e=>by rw [e] at hlen; cases hlen
 simp -implicitDefEqProofs (disch:=omega) only [go_sem,↓reduceIte,rq,List.append_nil]
 iterate 20 (try (refine Qa 1 ?_; simp -implicitDefEqProofs (disch:=omega) only [go_sem,↓reduceIte,rA,rq,rT,hlen,hones,List.append_nil]))
 refine Qd3 (Xv [(11,.ptr 1 v0 0),(18,.lst 3 (prs ps) false),(24,.ptr 5 t2 0)] ⟨rfl,rfl,rfl,trivial⟩ ?_)
 have hsh2:Shift G 214 0 [(11,.ptr 1 v0 0),(18,.lst 3 (prs ps) false),(24,.ptr 5 t2 0)] ⟨t2+1,kG F.fmt v0 v1 u2 u3 u4 L'++[some (.arr t2 49 wo)]⟩ [(11,.ptr 1 v0 0),(18,.lst 3 (prs ps) false),(24,.ref (.agg wo) 0)] ⟨t2+1,kG F.fmt v0 v1 u2 u3 u4 L'⟩:=by
  refine (Shift.freeze (k:=5) (zL _) rfl hnlw).trans ?_
  have e:(kG F.fmt v0 v1 u2 u3 u4 L'++[some (Ob.arr t2 49 wo)]).set 5 none=kG F.fmt v0 v1 u2 u3 u4 L'++[none]:=rfl
  rw [e,Z4 (by decide)]
  simp only [QC,QW,X8,hnew,QA,rq,false_and,and_self,if_true,if_false,Option.map_none]
  exact Shift.drop (XK _ _) (lR _) (zL _)
 refine QfS hsh2 ?_
 rw [hTT]
 have hnp:∀ tg,Qb [V.lst 3 (prs ps) tg]=true:=fun tg=>by simp [Qb,Qd]
 have hnp2:∀ (a c:List Pr) ta tb,Qb [V.lst 3 (prs a) ta,V.lst 3 (prs c) tb]=true:=fun a c ta tb=>by simp [Qb,Qd]
 have hsame:=QFp (P:=P) (G:=G) hT ps (srt ps) false false (by omega)
 rw [QxB hs,decide_eq_true rfl] at hsame
 have hsrt:=QrY (P:=P) (G:=G) hT ps false (by omega)
 rw [QxB hs] at hsrt
 refine Ql 14 ?_
 refine ya ?_
 refine QX hT Qw (Qja hT ps false (by omega)) (hnp _) 4 ?_
 refine ya ?_
 refine QX hT X3 hsrt (hnp _) 4 ?_
 refine ya ?_
 refine QX hT YL hsame (hnp2 _ _ _ _) 4 ?_
 simp -implicitDefEqProofs (disch:=omega) only [go_sem,↓reduceIte,reduceCtorEq,rA,rq,hlen,htk]
 iterate 8 (try (refine Qa 4 ?_; simp -implicitDefEqProofs (disch:=omega) only [go_sem,↓reduceIte,reduceCtorEq,rA,rq,rL,rT,Nat.reduceSub,Nat.reduceMul,Int.reduceToNat,Int.reduceLE,Int.reduceLT,Int.reduceEq,Int.reduceNe,Nat.reduceBEq,Nat.reduceBNe,Int.reduceBEq,List.getElem?_cons_zero,List.getElem?_cons_succ,hlen,htk]))
 refine call hT Qe6 (hA _) 4 fun v σ hv=>?_
 obtain ⟨out2,t3,ho2,_,rfl,rfl⟩:=hv
 have hso:srt out2=ps:=QxC (Qpe out2) hs fun p=>by rw [Qma,ho2,hall]
 have hsame2:=QFp (P:=P) (G:=G) hT ps ps false false (by omega)
 rw [decide_eq_true rfl] at hsame2
 rw [hso]
 refine ya ?_
 refine QX hT Qw (Qja hT ps false (by omega)) (hnp _) 4 ?_
 refine ya ?_
 refine QX hT YL hsame2 (hnp2 _ _ _ _) 4 ?_
 refine ya ?_
 refine QX hT Xe hW' rfl 8 ?_
 refine ya ?_
 exact hQ _
end
section
attribute [local go_sem] nF nT aA cA List.drop_nil List.drop_succ_cons List.drop_zero List.getD_cons_succ List.getD_cons_zero lA lC lN nA List.set_cons_succ List.set_cons_zero tN tS tZ aZ lR Nat.mul_one Nat.one_mul Nat.succ_ne_zero zA zL Nat.zero_mul Option.getD_none Option.getD_some Option.isSome_none Option.isSome_some and_true beq_self_eq_true bne_self_eq_false decide_false decide_true false_implies ge_iff_le gt_iff_lt Qj Qkg Qnh Qsl Qeb QcM Qbc QdB Qg0 Qh2 Qai Qz not_false_eq_true not_true_eq_false proofmarklaw25_RelateAll Qsu Qst QeZ QeY QeX QeW QeV QeU QeT QeS QeR Qlr Qss Qlq QhF QhE QeQ QeP Qcl Qck Qbx Qbw Qbv Qsr Qcj QeO QhD Qlp Qjp Qsq Qsp Qso Qsn Qlo Qln Qk true_and true_implies
abbrev r3J (F:Fmt P G) (v0 v1:Nat) (L:List Nd) (l:List Pr) (n:Nat) (params:Int) (fn wv:List V) (v q:Int) (B:Nat):Nat→Fr→H→Prop:=fun k fr σ=>∃ L' t' w2 w3 w4,∃ u:Int,u=((k:Nat):Int) - 1∧Ext L L'∧L'.length≤B+k∧Qf fr 3=.int .i64 params∧Qf fr 9=.int .i64 ((n:Nat):Int)∧Qf fr 10=.ref (.agg fn) 0∧Qf fr 11=.ptr 1 v0 0∧Qf fr 15=.ref (.agg wv) 0∧Qf fr 18=.lst 3 (prs l) false∧Qf fr 19=.int .i64 v∧Qf fr 20=.int .u8 q∧Qf fr 21=.int .i64 u∧σ=⟨t',kG F.fmt v0 v1 w2 w3 w4 L'⟩
abbrev r3E (F:Fmt P G) (v0 v1:Nat) (L:List Nd) (l:List Pr) (n:Nat) (params:Int) (fn wv:List V) (v q:Int) (B:Nat):AE→Fr→H→Prop:=fun e fr σ=>∃ L' t' w2 w3 w4,e=.ex 7∧Ext L L'∧L'.length≤B+33∧Qf fr 3=.int .i64 params∧Qf fr 9=.int .i64 ((n:Nat):Int)∧Qf fr 10=.ref (.agg fn) 0∧Qf fr 11=.ptr 1 v0 0∧Qf fr 15=.ref (.agg wv) 0∧Qf fr 18=.lst 3 (prs l) false∧Qf fr 19=.int .i64 v∧Qf fr 20=.int .u8 q∧σ=⟨t',kG F.fmt v0 v1 w2 w3 w4 L'⟩
theorem QAa (hT:Qh P tab) (F:Fmt P G) {v0 v1:Nat} {L1 L:List Nd} {l:List Pr} {n cnt:Nat} {params lk v q:Int} {vs rs ss:List Int} {sure:Bool} {fn wv:List V} {B:Nat} (hwv:wv=wV vs lk rs ss sure) (hn:n≤8) (hc20:cnt≤20) (hW0:WOk L1 n cnt vs lk rs ss) (hl:∀ p,p∈l↔Qp7 L1 vs lk (plA rs ss) p) (hll:l.length≤1000) (hE1:Ext L1 L) (hB:B≤9000) (hv:-1≤v∧v<n) (hq:1≤q∧q≤3) {k:Nat} (hk:k<33) {fr:Fr} {σ:Am.H} (hJ:r3J F v0 v1 L l n params fn wv v q B k fr σ) :
 W P G 214 0 wR fr σ (YH (fun fr σ=>∃ fr' σ',Shift G 214 0 fr σ fr' σ'∧r3J F v0 v1 L l n params fn wv v q B (k+1) fr' σ') (r3E F v0 v1 L l n params fn wv v q B)):=by
 obtain ⟨L',t',w2,w3,w4,u,hu,hE,hLl,f3,f9,f10,f11,f15,f18,f19,f20,f21,rfl⟩:=hJ
 have hlt:u<32:=by omega
 have e2:IntKind.i64.wrap (u+1)=u+1:=QcU (by omega)
 have hwl:wv.length=36:=by rw [hwv]; simp [wV,Qj,hW0.rl]
 have htk:List.take 36 wv=wv:=List.take_of_length_le (by omega)
 have g34:wv.getD 34 V.any=.lst 1 (ints ss) false:=hwv▸QzK hW0.rl
 have hsl:=hW0.sl
 have hH:=QuP (P:=P) (G:=G) hT ⟨v,q,u⟩ ((n:Nat):Int) cnt
 have hnt:Qb [V.agg [V.int .i64 v,V.int .u8 q,V.int .i64 u],.int .i64 ((n:Nat):Int),.int .i64 ((cnt:Nat):Int)]=true:=by simp [Qb,Qd]
 have hpp:=Qja (P:=P) (G:=G) hT [⟨v,q,u⟩] true (by simp)
 have hpn:Qb [V.lst 3 (prs [⟨v,q,u⟩]) true]=true:=by simp [Qb,Qd]
 simp only [prV,prC,prs,List.map_cons,List.map_nil] at hH hpp hpn
 show W P G 214 0 (.seq (.seq (.reg Qcl [148]) (.cond (.t 149) .skip (.exit 7))) (.seq (.block 8 (.seq (.reg Qck [152,153,154,155,156]) (.seq (.reg Qbx [157,158,159,160,161,162,163,164,165,166,167]) (.seq (.reg Qbw [168,169,170,171,172,173,174,175,176,177,178,179,180,181,182,183,184,185,186,187]) (.cond (.t 188) (.seq (.reg Qbv []) .ret) .skip))))) (.reg Qcj [150,151]))) _ _ _
 obtain ⟨T,hTT⟩:∃ c:AC,c=.seq (.reg Qbx [157,158,159,160,161,162,163,164,165,166,167]) (.seq (.reg Qbw [168,169,170,171,172,173,174,175,176,177,178,179,180,181,182,183,184,185,186,187]) (.cond (.t 188) (.seq (.reg Qbv []) .ret) .skip)):=⟨_,rfl⟩
 rw [← hTT]
 refine Qe [(3,.int .i64 params),(9,.int .i64 ((n:Nat):Int)),(10,.ref (.agg fn) 0),(11,.ptr 1 v0 0),(15,.ref (.agg wv) 0),(18,.lst 3 (prs l) false),(19,.int .i64 v),(20,.int .u8 q),(21,.int .i64 u)] ⟨f3,f9,f10,f11,f15,f18,f19,f20,f21,trivial⟩  12 ?_
 refine yc ?_
 iterate 20 (try (refine Qa 1 ?_; simp -implicitDefEqProofs (disch:=omega) only [go_sem,↓reduceIte,rA,rq,rL]))
 have hsh:Shift G 214 0 [(3,.int .i64 params),(9,.int .i64 ((n:Nat):Int)),(10,.ref (.agg fn) 0),(11,.ptr 1 v0 0),(15,.ref (.agg wv) 0),(18,.lst 3 (prs l) false),(19,.int .i64 v),(20,.int .u8 q),(21,.int .i64 u),(149,.bool true),(22,.ptr 5 t' 0)] ⟨t'+1,kG F.fmt v0 v1 w2 w3 w4 L'++[some (.arr t' 64 [.int .i64 v,.int .u8 q,.int .i64 u])]⟩ [(3,.int .i64 params),(9,.int .i64 ((n:Nat):Int)),(10,.ref (.agg fn) 0),(11,.ptr 1 v0 0),(15,.ref (.agg wv) 0),(18,.lst 3 (prs l) false),(19,.int .i64 v),(20,.int .u8 q),(21,.int .i64 u),(149,.bool true),(22,.ref (.agg [.int .i64 v,.int .u8 q,.int .i64 u]) 0)] ⟨t'+1,kG F.fmt v0 v1 w2 w3 w4 L'⟩:=by
  refine (Shift.freeze (k:=5) (zL _) rfl rfl).trans ?_
  have e:(kG F.fmt v0 v1 w2 w3 w4 L'++[some (Ob.arr t' 64 [V.int .i64 v,V.int .u8 q,V.int .i64 u])]).set 5 none=kG F.fmt v0 v1 w2 w3 w4 L'++[none]:=rfl
  rw [e,Z4 (by decide)]
  simp only [QC,QW,X8,QA,rq,false_and,and_self,if_true,if_false,Option.map_none,reduceCtorEq]
  exact Shift.drop (XK _ _) (lR _) (zL _)
 refine Xf hsh ?_
 rw [hTT]
 refine Qa 12 ?_
 simp -implicitDefEqProofs (disch:=omega) only [go_sem,↓reduceIte,reduceCtorEq,rA,rq,rL,hwl,g34,hsl]
 refine QX hT Qw hpp hpn 12 ?_
 refine ya ?_
 iterate 3 (try (refine Qa 4 ?_; simp -implicitDefEqProofs (disch:=omega) only [go_sem,↓reduceIte,reduceCtorEq,rA,rq,rL,rT,Nat.reduceSub,Nat.reduceMul,Int.reduceToNat,Int.reduceLE,Int.reduceLT,Int.reduceEq,Int.reduceNe,Nat.reduceBEq,Nat.reduceBNe,Int.reduceBEq,List.getElem?_cons_zero,List.getElem?_cons_succ,hwl,g34,hsl]))
 cases ht:QQ ((n:Nat):Int) cnt ⟨v,q,u⟩ with
 | false =>
   rw [ht] at hH
   refine QX hT Xd hH hnt 12 ?_
   refine ya ?_
   repeat' (first | with_reducible refine And.intro ?_ ?_ | (refine Qa 8 ?_; simp -implicitDefEqProofs (disch:=omega) only [go_sem,↓reduceIte,rq,e2]))
   all_goals
    refine ⟨_,_,Shift.refl _ _ _ _,L',t'+1,w2,w3,w4,u+1,by omega,hE,by omega,?_⟩
    exact yb
 | true =>
   rw [ht] at hH
   refine QX hT Xd hH hnt 12 ?_
   have hat:=fun (t:Nat)=>c_atP (P:=P) (G:=G) hT F (v0:=v0) (v1:=v1) (v2:=w2) (v3:=w3) (v4:=w4) (t:=t) (L:=L') (sure:=sure) hW0 hl (hE1.trans hE) (by omega) (p:=⟨v,q,u⟩) ht (show i64 u by unfold i64; omega)
   have hhe:=QuR (P:=P) (G:=G) hT vs lk rs ss sure hW0.rl (v:=v) hv.1 (by rw [hW0.vl]; exact hv.2)
   rw [← hwv] at hat hhe
   have hwn:Qb wv=true:=by rw [hwv]; exact QsC _ _ _ _ _
   have hhn:Qb [V.agg wv,.int .i64 v]=true:=by simp [Qb,Qd,hwn]
   have hpl:=Qja (P:=P) (G:=G) hT l false (by omega)
   have hpln:Qb [V.lst 3 (prs l) false]=true:=by simp [Qb,Qd]
   have hHas:=c_Has (P:=P) (G:=G) hT l false ⟨v,q,u⟩ (by omega)
   obtain ⟨D,hD⟩:∃ D,D=decide ((⟨v,q,u⟩:Pr)∈l):=⟨_,rfl⟩
   rw [← hD] at hat hHas
   simp only [prV,prC] at hHas
   have hHn:Qb [V.lst 3 (prs l) false,V.agg [V.int .i64 v,V.int .u8 q,V.int .i64 u]]=true:=by simp [Qb,Qd]
   obtain ⟨h0,hh0⟩:∃ h0,h0=hW vs lk v:=⟨_,rfl⟩
   rw [← hh0] at hat hhe
   have hDD:(D != D)=false:=by simp
   refine yq ?_
   repeat' (first
    | with_reducible refine And.intro ?_ ?_
    | (refine QX hT QM hhe hhn 4 ?_; first | simp -implicitDefEqProofs (disch:=omega) only [go_sem,↓reduceIte,reduceCtorEq,rA,rq,x3] | simp -implicitDefEqProofs (disch:=omega) only [go_sem,↓reduceIte,reduceCtorEq,rA,rq,rL,rT,Nat.reduceSub,Nat.reduceMul,Int.reduceToNat,Int.reduceLE,Int.reduceLT,Int.reduceEq,Int.reduceNe,Nat.reduceBEq,Nat.reduceBNe,Int.reduceBEq,List.getElem?_cons_zero,List.getElem?_cons_succ,hwl,htk])
    | (refine QX hT Qw hpl hpln 4 ?_; first | simp -implicitDefEqProofs (disch:=omega) only [go_sem,↓reduceIte,reduceCtorEq,rA,rq] | simp -implicitDefEqProofs (disch:=omega) only [go_sem,↓reduceIte,reduceCtorEq,rA,rq,rL,rT,Nat.reduceSub,Nat.reduceMul,Int.reduceToNat,Int.reduceLE,Int.reduceLT,Int.reduceEq,Int.reduceNe,Nat.reduceBEq,Nat.reduceBNe,Int.reduceBEq,List.getElem?_cons_zero,List.getElem?_cons_succ,hwl,htk])
    | (refine QX hT Qw hpp hpn 4 ?_; first | simp -implicitDefEqProofs (disch:=omega) only [go_sem,↓reduceIte,reduceCtorEq,rA,rq,rT,Int.reduceToNat,Int.reduceLE] | simp -implicitDefEqProofs (disch:=omega) only [go_sem,↓reduceIte,reduceCtorEq,rA,rq,rL,rT,Nat.reduceSub,Nat.reduceMul,Int.reduceToNat,Int.reduceLE,Int.reduceLT,Int.reduceEq,Int.reduceNe,Nat.reduceBEq,Nat.reduceBNe,Int.reduceBEq,List.getElem?_cons_zero,List.getElem?_cons_succ,hwl,htk])
    | (refine QX hT XV hHas hHn 4 ?_; first | simp -implicitDefEqProofs (disch:=omega) only [go_sem,↓reduceIte,rA,rq] | simp -implicitDefEqProofs (disch:=omega) only [go_sem,↓reduceIte,reduceCtorEq,rA,rq,rL,rT,Nat.reduceSub,Nat.reduceMul,Int.reduceToNat,Int.reduceLE,Int.reduceLT,Int.reduceEq,Int.reduceNe,Nat.reduceBEq,Nat.reduceBNe,Int.reduceBEq,List.getElem?_cons_zero,List.getElem?_cons_succ,hwl,htk])
    | (refine CV.use 4 (CV.of hT X5 (hat _)) fun v9 σ9 hv9=>?_; obtain ⟨x,L2,t2,y2,y3,y4,x1,x2,x3,rfl,rfl⟩:=hv9; simp -implicitDefEqProofs (disch:=omega) only [go_sem,↓reduceIte,reduceCtorEq,rA,rq,hwl,htk])
    | (refine Qa 4 ?_; first | simp -implicitDefEqProofs (disch:=omega) only [go_sem,↓reduceIte,reduceCtorEq,rA,rq,hwl,htk,e2] | simp -implicitDefEqProofs (disch:=omega) only [go_sem,↓reduceIte,reduceCtorEq,rA,rq,hwl,htk]))
   all_goals
    refine ⟨_,_,Shift.refl _ _ _ _,L2,t2,y2,y3,y4,u+1,by omega,hE.trans x1,by omega,?_⟩
    exact yb
end
end Go.Proofs.YtfgccihafnjalaaGreatDoor
