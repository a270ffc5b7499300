/- Ours. -/
import Derived.Test.YtbdhjeojcpgblaaGreatDoorJ16
import Derived.Test.YtbdhjeojcpgblaaGreatDoorJ12
import Derived.Test.YtbdhjeojcpgblaaGreatDoorJ10
import Derived.Test.YtbdhjeojcpgblaaGreatDoorJ13
import Derived.Test.YtbdhjeojcpgblaaGreatDoorY
open Nat renaming reduceEqDiff → rq, reduceAdd → rA, reduceLeDiff → rL, reduceLT → rT, zero_add → zA, le_refl → lR, zero_le → zL, add_zero → aZ
open List renaming length_cons → lC, length_nil → lN, take_succ_cons → tSq, length_append → lA, nil_append → nA, cons_append → cA, append_assoc → aA, take_nil → tN, take_zero → tZ, length_map → lM
open Bool renaming not_false → nF, not_true → nT
namespace Go.Proofs.YtbdhjeojcpgblaaGreatDoor
open Go Go.Am Go.Rv Go.Rg
set_option maxRecDepth 100000
set_option maxHeartbeats 2000000
section
attribute [local go_sem] nF nT cA lM nA aZ lR Nat.mul_one Nat.one_mul Nat.succ_ne_zero zA zL Nat.zero_mul Option.getD_none Option.getD_some Option.isSome_none Option.isSome_some V.cells and_true beq_self_eq_true bne_self_eq_false decide_false decide_true false_implies ge_iff_le gt_iff_lt inC Qu not_false_eq_true not_true_eq_false XJ QQL QQK Qq0 QvZ QyU QQJ QEh QEg QEf QyT QyS QyR QyQ true_and true_implies
def lsV (ls:List (List In)):V:=.lst 1 (ls.map Y9) false
def QRx (s:List UInt8 × Int):List V:=[.str s.1,.int .i64 s.2]
def Qwg (l:List (List UInt8 × Int)):List V:=(l.map QRx).flatten
theorem QBM (l:List (List UInt8 × Int)) (s:List UInt8 × Int):Qwg (l++[s])=Qwg l++QRx s:=by simp [Qwg]
theorem Qwf (l:List (List UInt8 × Int)):(Qwg l).length=2 * l.length:=by
 induction l with
 | nil=>rfl
 | cons x c ih =>
   show (QRx x++Qwg c).length=_
   rw [lA,ih,lC]
   simp [QRx]; omega
theorem chunkS (l:List (List UInt8 × Int)):Za 2 l.length (Qwg l)=l.map Qn8:=by
 induction l with
 | nil=>rfl
 | cons x c ih =>
   show Za 2 (c.length+1) (QRx x++Qwg c)=_
   unfold Za
   rw [List.map_cons,← ih]
   rfl
theorem QRF (l:List (List UInt8 × Int)):Qb (Qwg l)=true:=by
 induction l with
 | nil=>rfl
 | cons x c ih =>
   show Qb (QRx x++Qwg c)=true
   rw [XP,ih]; rfl
def QnW (l:List Int):List V:=l.map (V.int .u32)
theorem QBL:∀ l:List Int,Qb (QnW l)=true
 | []=>rfl
 | n::c=>by have:=QBL c; simpa [QnW,Qb,Qd] using this
variable {x:In} {k i v0 v1:Nat} {l:List In}
theorem QC2 (h:l[k]?=some x):encs (l.take (k+1))=encs (l.take k)++if (enc T x).2=0 then [(enc T x).1] else []:=by
 rw [List.take_add_one,h]
 unfold encs
 rw [List.filterMap_append]
 congr 1
 simp only [Option.toList_some,List.filterMap_cons,List.filterMap_nil]
 split <;> simp_all
abbrev imH (v0 v1 ws wc:Nat) (d:Int) (S:List (List UInt8 × Int)) (C:List Int):List (Option Ob) :=
 [some (.arr v0 25 [.int .i64 0,.lst 0 [] true,.lst 0 [] true]),some (.arr v1 25 [.int .i64 d,.sl 2 ws 0 2 S.length none,.sl 3 wc 0 1 C.length none]),some (.arr ws 122 (Qwg S)),some (.arr wc 108 (QnW C))]
abbrev ikJ (ls:List (List In)) (i v0 v1:Nat) (d:Int) (S:List (List UInt8 × Int)) (C0:List Int) (l:List In):Nat→Fr→H→Prop:=fun k fr σ=>∃ t ws wc C,C=C0++encs (l.take k)∧Ql fr 0=lsV ls∧Ql fr 4=.ptr 0 v0 0∧Ql fr 5=.ptr 1 v1 0∧Ql fr 6=.int .i64 ((i:Nat):Int)∧Ql fr 7=.int .i64 ((k:Nat):Int)∧σ=⟨t,imH v0 v1 ws wc d S C⟩
abbrev ikE (ls:List (List In)) (i v0 v1:Nat) (d:Int) (S:List (List UInt8 × Int)) (C0:List Int) (l:List In):AE→Fr→H→Prop:=fun e fr σ=>∃ t ws wc C,e=.ex 2∧C=C0++encs l∧Ql fr 0=lsV ls∧Ql fr 4=.ptr 0 v0 0∧Ql fr 5=.ptr 1 v1 0∧Ql fr 6=.int .i64 ((i:Nat):Int)∧σ=⟨t,imH v0 v1 ws wc d S C⟩
variable {σ:H} {fr:Fr} {d:Int} {ls:List (List In)}
theorem QFr (hT:Qf Tryz.prog tab) {S:List (List UInt8 × Int)} {C0:List Int} (hi:ls[i]?=some l) (hl:l.length≤100000) (hC0:C0.length≤1000000) (hok:∀ x∈l,QqN x) (hx:l[k]?=some x) (hJ:ikJ ls i v0 v1 d S C0 l k fr σ) :
 W Tryz.prog G0 69 0 (.seq (zg QyT [40,41,42,43,44,45] (zw 46 .skip (.exit 2))) (.seq (.block 3 (zg QyS [50,51,52,53,54,55,56,57,49,58,59] (zg QyR [60] (zw 61 (.reg QyQ [62,63,64,65,66,67]) .skip)))) (.reg Qq0 [47,48]))) fr σ (QgX (fun fr σ=>∃ fr' σ',Shift G0 69 0 fr σ fr' σ'∧ikJ ls i v0 v1 d S C0 l (k+1) fr' σ') (ikE ls i v0 v1 d S C0 l)):=by
 obtain ⟨t,ws,wc,C,hC,f0,f4,f5,f6,f7,rfl⟩:=hJ
 have hil:=(List.getElem?_eq_some_iff.1 hi).1
 have hlt:=(List.getElem?_eq_some_iff.1 hx).1
 have hDi:(ls.map Y9).getD i V.any=.lst 5 (l.map fun x=>V.agg (inC x)) false:=by simp [List.getD_eq_getElem?_getD,hi,Y9]
 have hDk:=QaI hx
 have hE:=QqA hT x (hok x (List.mem_of_getElem? hx))
 have hen:=QC2 hx
 have e2:=Qe9 hlt (by omega)
 have hCl:C.length≤2000000:=by
  rw [hC,lA]
  have:=Qu2 (l.take k)
  rw [List.length_take] at this
  omega
 simp only [inC] at hE hDi hDk
 generalize enc T x=e at *
 obtain ⟨w,er⟩:=e
 simp only at hE hen
 by_cases h0:er=0
 ·have h0':(er==0)=true:=by simp [h0]
  rw [if_pos h0] at hen
  have hsn:QnW (C++[w])=QnW C++[.int .u32 w]:=by simp [QnW]
  have hln:C.length+1=(C++[w]).length:=by simp
  have hCn:C++[w]=C0++encs (l.take (k+1)):=by rw [hen,hC,aA]
  refine Qt [(0,lsV ls),(4,.ptr 0 v0 0),(5,.ptr 1 v1 0),(6,.int .i64 ((i:Nat):Int)),(7,.int .i64 ((k:Nat):Int))] ⟨f0,f4,f5,f6,f7,trivial⟩  60 ?_
  simp -implicitDefEqProofs (disch:=omega) only [go_sem,↓reduceIte,reduceCtorEq,rA,rq,lsV,hil,hlt,hDi,hDk]
  refine Qj hT Qa2 hE rfl 60 ?_
  simp -implicitDefEqProofs (disch:=omega) only [go_sem,↓reduceIte,reduceCtorEq,rA,rq,rL,rT,imH,h0']
  have hrl:(QnW C).length=C.length:=by simp [QnW]
  iterate 4 (try (refine Qa 9 ?_; simp -implicitDefEqProofs (disch:=omega) only [go_sem,↓reduceIte,reduceCtorEq,rA,rq,rL,rT,Nat.reduceSub,Nat.reduceMul,Int.reduceToNat,Int.reduceLE,Int.reduceLT,Int.reduceEq,Int.reduceNe,Nat.reduceBEq,Nat.reduceBNe,lsV,Int.reduceBEq,Int.reduceBNe,imH,h0',hrl]))
  refine ⟨⟨hrl.symm,by omega,by omega⟩,_,_,Shift.refl _ _ _ _,t+1,ws,t,C++[w],hCn,?_⟩
  simp -implicitDefEqProofs (disch:=omega) only [go_sem,↓reduceIte,reduceCtorEq,rq,lsV,e2,imH,hsn,hln]
  try simp
 ·have h0':(er==0)=false:=by simp [h0]
  rw [if_neg h0,List.append_nil] at hen
  rw [← hen] at hC
  refine Qt [(0,lsV ls),(4,.ptr 0 v0 0),(5,.ptr 1 v1 0),(6,.int .i64 ((i:Nat):Int)),(7,.int .i64 ((k:Nat):Int))] ⟨f0,f4,f5,f6,f7,trivial⟩  60 ?_
  simp -implicitDefEqProofs (disch:=omega) only [go_sem,↓reduceIte,reduceCtorEq,rA,rq,lsV,hil,hlt,hDi,hDk]
  refine Qj hT Qa2 hE rfl 60 ?_
  simp -implicitDefEqProofs (disch:=omega) only [go_sem,↓reduceIte,reduceCtorEq,rA,rq,rT,imH,h0']
  iterate 4 (try (refine Qa 9 ?_; simp -implicitDefEqProofs (disch:=omega) only [go_sem,↓reduceIte,reduceCtorEq,rA,rq,rL,rT,Nat.reduceSub,Nat.reduceMul,Int.reduceToNat,Int.reduceLE,Int.reduceLT,Int.reduceEq,Int.reduceNe,Nat.reduceBEq,Nat.reduceBNe,lsV,Int.reduceBEq,Int.reduceBNe,imH,h0']))
  refine ⟨_,_,Shift.refl _ _ _ _,t,ws,wc,C,hC,?_⟩
  simp -implicitDefEqProofs (disch:=omega) only [go_sem,↓reduceIte,reduceCtorEq,rq,lsV,e2,imH]
  try simp
theorem Qr7 (h:ls[i]?=some l):QeC (ls.take (i+1)) d=QuT (QeC (ls.take i) d) l:=by
 unfold QeC
 rw [List.take_add_one,h]
 simp
theorem Qp6 {ls:List (List In)} {d:Int}:∀ {i:Nat},i≤ls.length→(QeC (ls.take i) d).syms.length=i∧(QeC (ls.take i) d).data=d
 | 0,_=>⟨rfl,rfl⟩
 | i+1,h=>by
   obtain ⟨l,hl⟩:∃ l,ls[i]?=some l:=⟨_,List.getElem?_eq_getElem (by omega)⟩
   rw [Qr7 hl]
   have:=Qp6 (ls:=ls) (d:=d) (i:=i) (by omega)
   simp [QuT,this.1,this.2]
abbrev ioJ (ls:List (List In)) (v0 v1:Nat) (d:Int):Nat→Fr→H→Prop:=fun i fr σ=>∃ t ws wc S C,S=(QeC (ls.take i) d).syms∧C=(QeC (ls.take i) d).code∧C.length≤i * 1000∧Ql fr 0=lsV ls∧Ql fr 4=.ptr 0 v0 0∧Ql fr 5=.ptr 1 v1 0∧Ql fr 6=.int .i64 ((i:Nat):Int)∧σ=⟨t,imH v0 v1 ws wc d S C⟩
abbrev ioE (ls:List (List In)) (v0 v1:Nat) (d:Int):AE→Fr→H→Prop:=fun e fr σ=>∃ t ws wc,e=.ex 0∧Ql fr 4=.ptr 0 v0 0∧Ql fr 5=.ptr 1 v1 0∧σ=⟨t,imH v0 v1 ws wc d (QeC ls d).syms (QeC ls d).code⟩
theorem QFm (hT:Qf Tryz.prog tab) (hln:ls.length≤100) (hi:ls[i]?=some l) (hl:l.length≤1000) (hok:∀ x∈l,QqN x) (hJ:ioJ ls v0 v1 d i fr σ) :
 W Tryz.prog G0 69 0 (.seq (zg QEh [12,13,14] (zw 15 .skip (.exit 0))) (.seq (.block 1 (zg QEg [18,19,20,21,22,23,24,25,26,27,28,29,30,31,32,33,34,35,36,37,38,39] (zg QEf [] (.block 2 (.loop (.seq (zg QyT [40,41,42,43,44,45] (zw 46 .skip (.exit 2))) (.seq (.block 3 (zg QyS [50,51,52,53,54,55,56,57,49,58,59] (zg QyR [60] (zw 61 (.reg QyQ [62,63,64,65,66,67]) .skip)))) (.reg Qq0 [47,48])))))))) (.reg QvZ [16,17]))) fr σ (QgX (fun fr σ=>∃ fr' σ',Shift G0 69 0 fr σ fr' σ'∧ioJ ls v0 v1 d (i+1) fr' σ') (ioE ls v0 v1 d)):=by
 obtain ⟨t,ws,wc,S,C,hS,hC,hCl,f0,f4,f5,f6,rfl⟩:=hJ
 have hlt:=(List.getElem?_eq_some_iff.1 hi).1
 have hSl:S.length=i:=by rw [hS]; exact (Qp6 (by omega)).1
 have e2:=Qe9 hlt (by omega)
 have hDi:(ls.map Y9).getD i V.any=.lst 5 (l.map fun x=>V.agg (inC x)) false:=by simp [List.getD_eq_getElem?_getD,hi,Y9]
 have hnx:=Qr7 (d:=d) hi
 have hrl:=Qwf S
 have w1:IntKind.i64.wrap (97+(i:Int).tmod 26)=((97+i % 26:Nat):Int):=by
  rw [show (i:Int).tmod 26=((i % 26:Nat):Int) by rw [Int.tmod_eq_emod_of_nonneg (by omega)]; rfl,Yz (by omega)]; rfl
 have w2:IntKind.i64.wrap ((i:Int).tdiv 26)=((i / 26:Nat):Int):=by
  rw [show (i:Int).tdiv 26=((i / 26:Nat):Int) by rw [Int.tdiv_eq_ediv_of_nonneg (by omega)]; rfl,Yz (by omega)]
 have w3:IntKind.i64.wrap (97+((i / 26:Nat):Int))=((97+i / 26:Nat):Int):=by rw [Yz (by omega)]; rfl
 have w4:IntKind.i64.wrap (4 * (C.length:Int))=4 * (C.length:Int):=Yz (by omega)
 have c32:∀ n:Nat,n<128→IntKind.i32.wrap (n:Int)=(n:Int):=fun n h=>by
  rw [Qas]
  ·simp [IntKind.min,IntKind.signed,IntKind.bits]; try omega
  ·simp [IntKind.max,IntKind.signed,IntKind.bits]; try omega
 have w5:=c32 (97+i % 26) (by omega)
 have w6:=c32 (97+i / 26) (by omega)
 have b1:(0≤((97+i % 26:Nat):Int)∧((97+i % 26:Nat):Int)<128)=True:=eq_true (by omega)
 have b2:(0≤((97+i / 26:Nat):Int)∧((97+i / 26:Nat):Int)<128)=True:=eq_true (by omega)
 have hrC:(QnW C).length=C.length:=by simp [QnW]
 simp only [inC] at hDi
 generalize ha:97+i % 26=na at *
 generalize hb:97+i / 26=nb at *
 have t1:((na:Nat):Int).toNat=na:=rfl
 have t2:((nb:Nat):Int).toNat=nb:=rfl
 refine Qt [(0,lsV ls),(4,.ptr 0 v0 0),(5,.ptr 1 v1 0),(6,.int .i64 ((i:Nat):Int))] ⟨f0,f4,f5,f6,trivial⟩  60 ?_
 simp -implicitDefEqProofs (disch:=omega) only [go_sem,↓reduceIte,reduceCtorEq,rA,rq,rL,Int.reduceEq,lsV,hlt,imH,w1,w2,w3,w4,w5,w6,b1,b2,hrl,t1,t2]
 have hnm:nameAt i=[102,UInt8.ofNat na,UInt8.ofNat nb]:=by rw [← ha,← hb]; rfl
 have hsn:=QBM S (nameAt i,4 * (C.length:Int))
 rw [hnm] at hsn
 simp only [QRx] at hsn
 have hSn:S++[([102,UInt8.ofNat na,UInt8.ofNat nb],4 * (C.length:Int))]=(QeC (ls.take (i+1)) d).syms:=by
  rw [hnx,← hnm]; unfold QuT; simp only; rw [← hS,← hC,hSl]
 have hCn:C++encs l=(QeC (ls.take (i+1)) d).code:=by rw [hnx]; unfold QuT; simp only; rw [← hC]
 have hle:=Qu2 l
 have hln1:S.length+1=(S++[(([102,UInt8.ofNat na,UInt8.ofNat nb]:List UInt8),4 * (C.length:Int))]).length:=by simp
 refine ZJ l (ikJ ls i v0 v1 d (S++[([102,UInt8.ofNat na,UInt8.ofNat nb],4 * (C.length:Int))]) C l) (ikE ls i v0 v1 d (S++[([102,UInt8.ofNat na,UInt8.ofNat nb],4 * (C.length:Int))]) C l) ⟨t+1,t,wc,C,by simp [encs],?_⟩ (fun k x hx fr σ hJ=>QFr hT hi (by omega) (by omega) hok hx hJ) (fun k hk fr σ hJ=>?_) (fun e fr σ hE=>?_)
 ·simp -implicitDefEqProofs (disch:=omega) only [go_sem,↓reduceIte,reduceCtorEq,rq,lsV,imH,hsn]
  try simp
 ·obtain ⟨t2,ws2,wc2,C2,hC2,f0,f4,f5,f6,f7,rfl⟩:=hJ
  rw [hk,List.take_length] at hC2
  refine Qt [(0,lsV ls),(4,.ptr 0 v0 0),(5,.ptr 1 v1 0),(6,.int .i64 ((i:Nat):Int)),(7,.int .i64 ((k:Nat):Int))] ⟨f0,f4,f5,f6,f7,trivial⟩  60 ?_
  simp -implicitDefEqProofs (disch:=omega) only [go_sem,↓reduceIte,reduceCtorEq,rq,lsV,hlt,hDi,hk,Nat.lt_irrefl]
  exact ⟨t2,ws2,wc2,C2,rfl,hC2,rfl,rfl,rfl,rfl,rfl⟩
 ·obtain ⟨t2,ws2,wc2,C2,rfl,hC2,f0,f4,f5,f6,rfl⟩:=hE
  refine QrB [(0,lsV ls),(4,.ptr 0 v0 0),(5,.ptr 1 v1 0),(6,.int .i64 ((i:Nat):Int))] ⟨f0,f4,f5,f6,trivial⟩ 12 ?_
  simp -implicitDefEqProofs (disch:=omega) only [go_sem,↓reduceIte,reduceCtorEq,rq,lsV,e2]
  refine ⟨_,_,Shift.refl _ _ _ _,t2,ws2,wc2,_,C2,hSn,by rw [hC2]; exact hCn,by rw [hC2,lA]; omega,?_⟩
  simp -implicitDefEqProofs (disch:=omega) only [go_sem,↓reduceIte,reduceCtorEq,rq,lsV,imH]
  try simp
end
section
attribute [local go_sem] nF cA lM nA lR zA zL V.cells and_true decide_false false_implies lsV XJ QQL QQK Qq0 QvZ QyU QQJ QEh QEg QEf QyT QyS QyR QyQ true_and
theorem QEI {k w:Nat} {cs:List V} (l:List Int):(QnW l).map (XR k w cs)=QnW l:=by simp [QnW,XR]
variable {d:Int} {ls:List (List In)}
theorem QF4 (hT:Qf Tryz.prog tab) (hln:ls.length≤100) (hl:∀ l∈ls,l.length≤1000) (hok:∀ l∈ls,∀ x∈l,QqN x) (t:Nat) :
 C Tryz.prog G0 0 Yr [lsV ls,.int .i64 d] ⟨t,[]⟩ fun v σ=>∃ t' ws wc A B,v=.agg [.int .i64 d,.sl 2 ws 0 2 (QeC ls d).syms.length none,.sl 3 wc 0 1 (QeC ls d).code.length none]∧σ=⟨t',[A,B,some (.arr ws 122 (Qwg (QeC ls d).syms)),some (.arr wc 108 (QnW (QeC ls d).code))]⟩:=by
 refine Qk hT Qb6 (by simp [XJ]) (Qg 11 ?_)
 refine yn ?_
 refine Xr (HShift.shift (HShift.ownAt 2 122 (base:=0) (k:=1) (v:=t+1) (T':=25) (p:=1) (z:=0) (cs:=[.int .i64 d,.lst 0 [] true,.lst 0 [] true]) (zL _) rfl rfl)) ?_
 simp only [List.set_cons_succ,List.set_cons_zero,lC,lN,cA,nA]
 refine Xr (HShift.shift (HShift.ownAt 1 108 (base:=0) (k:=1) (v:=t+1) (T':=25) (p:=2) (z:=0) (cs:=[.int .i64 d,.sl 2 (t+1+1) 0 2 0 none,.lst 0 [] true]) (zL _) rfl rfl)) ?_
 simp only [List.set_cons_succ,List.set_cons_zero,lC,lN,cA,nA]
 generalize t+1=v1
 refine Qa 12 ?_
 refine ya ?_
 refine ZJ ls (ioJ ls t v1 d) (ioE ls t v1 d) ⟨v1+1+1+1,v1+1,v1+1+1,[],[],rfl,rfl,by simp,?_⟩ (fun i l hi fr σ hJ=>QFm hT hln hi (hl l (List.mem_of_getElem? hi)) (hok l (List.mem_of_getElem? hi)) hJ) (fun i hi fr σ hJ=>?_) (fun e fr σ hE=>?_)
 ·simp -implicitDefEqProofs (disch:=omega) only [go_sem,↓reduceIte,reduceCtorEq,rq,imH]
  try simp [Qwg,QnW]
 ·obtain ⟨t2,ws,wc,S,C,hS,hC,hCl,f0,f4,f5,f6,rfl⟩:=hJ
  rw [hi,List.take_length] at hS hC
  subst hS hC
  refine Qt [(0,lsV ls),(4,.ptr 0 t 0),(5,.ptr 1 v1 0),(6,.int .i64 ((i:Nat):Int))] ⟨f0,f4,f5,f6,trivial⟩  12 ?_
  refine yi ?_
  exact ⟨t2,ws,wc,rfl,rfl,rfl,rfl⟩
 ·obtain ⟨t2,ws,wc,rfl,f4,f5,rfl⟩:=hE
  refine Qcd [(4,.ptr 0 t 0),(5,.ptr 1 v1 0)] ⟨f4,f5,trivial⟩ 20 ?_
  simp -implicitDefEqProofs (disch:=omega) only [go_sem,↓reduceIte,reduceCtorEq,rA,rq,imH]
  exact ⟨t2,ws,wc,_,_,rfl,rfl,rfl⟩
theorem QTg (hT:Qf Tryz.prog tab) (hln:ls.length≤100) (hl:∀ l∈ls,l.length≤1000) (hok:∀ l∈ls,∀ x∈l,QqN x) :
 Am.Pure Tryz.prog G0 Yr [lsV ls,.int .i64 d] fun v=>v=QhI (QeC ls d):=by
 intro t
 have hdat:(QeC ls d).data=d:=by have:=(Qp6 (ls:=ls) (d:=d) (i:=ls.length) (lR _)).2; rwa [List.take_length] at this
 refine (Qjf (Q:=fun v σ=>∃ t' wc A B,v=.agg [.int .i64 d,Xe (QeC ls d).syms,.sl 3 wc 0 1 (QeC ls d).code.length none]∧σ=⟨t',[A,B,none,some (.arr wc 108 (QnW (QeC ls d).code))]⟩) (Qjf (QF4 hT hln hl hok t) fun v σ hv=>?_) fun v σ hv=>?_).conseq fun v σ hv=>hv
 ·obtain ⟨t',ws,wc,A,B,rfl,rfl⟩:=hv
  have hle:(QeC ls d).syms.length * 2≤(Qwg (QeC ls d).syms).length:=by rw [Qwf]; omega
  refine .inr ⟨2,ws,122,Qwg (QeC ls d).syms,zL _,rfl,QRF _,?_⟩
  refine ⟨t',wc,_,_,?_,by simp [QN,Ob.mapV,QEI]; exact ⟨rfl,rfl⟩⟩
  simp [XR,Qp9,Qd1,Xe,chunkS,hle]
 ·obtain ⟨t',wc,A,B,rfl,rfl⟩:=hv
  have hlu:(QnW (QeC ls d).code).length=(QeC ls d).code.length:=by simp [QnW]
  refine .inr ⟨3,wc,108,QnW (QeC ls d).code,zL _,rfl,QBL _,?_,?_⟩
  ·simp [XR,Qp9,Qd1,Xe,Qd,Qb,hlu]
  ·have hle:(QeC ls d).code.length≤(QnW (QeC ls d).code).length:=by rw [hlu]; exact lR _
   have ht:List.take (QeC ls d).code.length (QnW (QeC ls d).code)=QnW (QeC ls d).code:=List.take_of_length_le (by rw [hlu]; exact lR _)
   simp [XR,Qp9,Qd1,Xe,QhI,QbF,Xs,hdat,hle,ht]
   rfl
end
end Go.Proofs.YtbdhjeojcpgblaaGreatDoor
namespace Go.Proofs.YtbdhjeojcpgblaaGreatDoor
open Go Go.Am
set_option maxRecDepth 100000
variable {P:Program} {G:Nat→Option V}
set_option maxHeartbeats 2000000
section
attribute [local go_sem] nF aA cA lA lC lN nA List.set_cons_zero tN tSq tZ aZ lR zA zL and_true decide_false decide_true false_implies ge_iff_le Qh XI Qx Qbv zqs_0 zqs_1 ZW QNX QNW ZV QNZ QNY Qgj zqo_0 zqo_1 true_and true_implies
variable {L:List Nd} {v0 v1 v2 v3 v4 t:Nat}
theorem QCv (hT:Qf P tab) (F:Fmt P G) {ex:List (Option Ob)} {n:Int} (hn:i64 n) (hL:L.length≤1000000) :
 C P G 0 Qe3 [mk v0,.int .i64 n] ⟨t,kG F.fmt v0 v1 v2 v3 v4 L++ex⟩ (Qc1 F.fmt (Qdo L n) v0 v1 ex t):=by
 refine Qi (5+ex.length) (zL _) (Qk hT Z4 (by simp [ZV]) (Qg 1000 ?_))
 refine ya ?_
 refine call hT Qah (Qnk hT F hn hL) 1000 fun v σ hv=>?_
 obtain ⟨rfl,t',v2',v3',v4',ht,rfl⟩:=hv
 refine ya ?_
 exact ⟨by omega,rfl,t',v2',v3',v4',by omega,rfl⟩
theorem QCw (hT:Qf P tab) (F:Fmt P G) (hP:Bits P G) (f:Nat) {ex:List (Option Ob)} {op x y:Int} (hok:okN L) (h0:0≤op∧op≤255) {r:GR} (hr:r.2.length≤1000000) (h:QqW f L op x y=some r) :
 C P G 0 Qe4 [mk v0,.int .u8 op,.int .i64 x,.int .i64 y] ⟨t,kG F.fmt v0 v1 v2 v3 v4 L++ex⟩ (Qc1 F.fmt r v0 v1 ex t):=by
 refine Qi (5+ex.length) (zL _) (Qk hT Z5 (by simp [ZW]) (Qg 1000 ?_))
 refine ya ?_
 refine call hT Qcn (QCz hT F hP f hok h0 hr h) 1000 fun v σ hv=>?_
 obtain ⟨rfl,t',v2',v3',v4',ht,rfl⟩:=hv
 refine ya ?_
 exact ⟨by omega,rfl,t',v2',v3',v4',by omega,rfl⟩
theorem QcY (hT:Qf P tab) (op a b:Int):Pure P G Qhq [.int .u8 op,.int .u8 a,.int .u8 b] fun v=>v=.bool (decide (a≤op∧op≤b)):=by
 intro t
 refine Qi 0 (zL _) (Qk hT Q1 (by simp [Qbv]) (Qg 1000 ?_))
 by_cases h1:a≤op
 ·have h1':decide (op≥a)=true:=decide_eq_true h1
  by_cases h2:op≤b
  ·have h2':decide (op≤b)=true:=decide_eq_true h2
   refine yu ?_
   try simp [h1,h2]
  ·have h2':decide (op≤b)=false:=decide_eq_false h2
   refine yu ?_
   try simp [h1,h2]
 ·have h1':decide (op≥a)=false:=decide_eq_false h1
  refine ym ?_
  try simp [h1]
def eff (k to n x y rd:Int):V:=.agg [.int .u8 k,.int .i64 to,.int .i64 n,.int .i64 x,.int .i64 y,.int .u8 rd]
theorem QQk (hT:Qf P tab) (k:Int):Pure P G Qm5 [.int .u8 k] fun v=>v=eff k 0 0 (-1) (-1) 0:=by
 intro t
 refine Qi 0 (zL _) (Qk hT Qcz (by simp [Qgj]) (Qg 1000 ?_))
 refine ya ?_
 exact rfl
end
section
attribute [local go_sem] nF nT lR zA zL decide_false decide_true ge_iff_le Qnc Qec QK9 QK8 QK7 QN1 QN0 Qu QB QLb QLa QL QIA QIz QIy QIx QIw QIv QIu QIt
def QDZ (P:Program) (G:Nat→Option V) (base:Nat) (f:V) (o:List (Option Ob)) (q:Int→Bool) (l:List Int):Prop :=
 ∀ t p,p∈l→CV P G base f [.int .i64 p] ⟨t,o⟩ fun v σ=>v=.bool (q p)∧∃ t',t≤t'∧σ=⟨t',o⟩
def QxG (q:Int→Bool):List Int→Nat→Int
 | [],_=>-1
 | n::c,i=>if q n then i else QxG q c (i+1)
theorem QwJ {q:Int→Bool}:∀ {c:List Int} {i:Nat},(∀ n∈c,q n=false)→QxG q c i=-1
 | [],_,_=>rfl
 | n::c,i,h=>by rw [QxG,h n (by simp),if_neg (by simp),QwJ fun m hm=>h m (by simp [hm])]
theorem QCP {q:Int→Bool}:∀ {c:List Int} {i k:Nat} {n:Int},(∀ m∈c.take k,q m=false)→c[k]?=some n→q n=true→QxG q c i=((i+k:Nat):Int)
 | [],_,_,_,_,h,_=>by simp at h
 | m::c,i,0,n,_,h,hp=>by simp at h; subst h; simp [QxG,hp]
 | m::c,i,k+1,n,h,hk,hp=>by
   rw [QxG,h m (by simp),if_neg (by simp),QCP (k:=k) (fun m hm=>h m (by simp [hm])) (by simpa using hk) hp]
   congr 1; omega
theorem QwK {q:Int→Bool}:∀ {c:List Int} {i:Nat},decide (0≤QxG q c i)=c.any q
 | [],_=>by simp [QxG]
 | n::c,i=>by
   unfold QxG
   cases h:q n
   ·simp [h,QwK (c:=c)]
   ·simp [h]
theorem Qxf {α:Type} {l:List α} {k:Nat} {x:α} (h:l[k]?=some x):l.take (k+1)=l.take k++[x]:=by rw [List.take_add_one,h]; rfl
variable {c:List Int} {q:Int→Bool} {f:V} {o:List (Option Ob)} {base t v0 v1 v2 v3 v4:Nat}
theorem QF2 (hT:Qf P tab) (hp:QDZ P G base f o q c) (hl:c.length≤1000000) (tg:Bool) :
 C P G base Yj [.lst 1 (Xg c) tg,f] ⟨t,o⟩ fun v σ=>v=.int .i64 (QxG q c 0)∧∃ t',t≤t'∧σ=⟨t',o⟩:=by
 refine Qk hT Yi (by simp [QL]) (Qg 1000 ?_)
 simp -implicitDefEqProofs (disch:=omega) only [go_sem,↓reduceIte,reduceCtorEq,rq,Xl]
 refine ZJ c (fun i fr σ=>∃ t',(∀ n∈c.take i,q n=false)∧t≤t'∧Ql fr 0=.lst 1 (Xg c) tg∧Ql fr 1=f∧Ql fr 7=.int .i64 c.length∧Ql fr 8=.int .i64 ((i:Nat):Int)∧σ=⟨t',o⟩)
  (fun e fr σ=>∃ t',t≤t'∧σ=⟨t',o⟩∧((e=.ret∧Ql fr 4=.int .i64 (QxG q c 0))∨(e=.ex 0∧QxG q c 0=-1)))
  ⟨t,by simp,by omega,?_⟩ (fun i n hn fr σ hJ=>?_) (fun i hi fr σ hJ=>?_) (fun e fr σ hE=>?_)
 ·refine ya ?_
  try simp
 ·obtain ⟨t',hno,ht,f0,f1,f7,f8,rfl⟩:=hJ
  have hlt:=(List.getElem?_eq_some_iff.1 hn).1
  have hD:=QmV hn
  have e2:=w_nx hlt (by omega)
  have hq:=hp t' n (List.mem_of_getElem? hn)
  refine Qt [(0,.lst 1 (Xg c) tg),(1,f),(7,.int .i64 c.length),(8,.int .i64 ((i:Nat):Int))] ⟨f0,f1,f7,f8,trivial⟩  1000 ?_
  simp -implicitDefEqProofs (disch:=omega) only [go_sem,↓reduceIte,reduceCtorEq,rq,Xl,hlt,hD]
  refine CV.use 1000 hq fun v σ hv=>?_
  obtain ⟨rfl,t2,ht2,rfl⟩:=hv
  cases hpn:q n with
  | true =>
    refine ya ?_
    rw [QCP hno hn hpn]
    exact ⟨t2,by omega,rfl,by simp⟩
  | false =>
    simp -implicitDefEqProofs (disch:=omega) only [go_sem,↓reduceIte,reduceCtorEq,rq,e2]
    refine ⟨_,_,Shift.refl _ _ _ _,t2,fun m hm=>?_,by omega,?_⟩
    ·rw [Qxf hn] at hm
     simp at hm
     rcases hm with hm | rfl
     ·exact hno m hm
     ·exact hpn
    ·exact yb
 ·obtain ⟨t',hno,ht,f0,f1,f7,f8,rfl⟩:=hJ
  refine Qt [(0,.lst 1 (Xg c) tg),(1,f),(7,.int .i64 c.length),(8,.int .i64 ((i:Nat):Int))] ⟨f0,f1,f7,f8,trivial⟩  12 ?_
  refine yi ?_
  rw [hi,List.take_length] at hno
  exact ⟨t',ht,rfl,QwJ hno⟩
 ·obtain ⟨t',ht,rfl,hE⟩:=hE
  rcases hE with ⟨rfl,f4⟩ | ⟨rfl,hh⟩
  ·refine Qa 1000 ?_
   refine yv ?_
   exact ⟨t',ht,rfl⟩
  ·refine Qa 1000 ?_
   simp -implicitDefEqProofs (disch:=omega) only [go_sem,↓reduceIte,hh]
   exact ⟨t',ht,rfl⟩
theorem Qvx (hT:Qf P tab) (hp:QDZ P G base f o q c) (hl:c.length≤1000000) (tg:Bool) :
 C P G base X5 [.lst 1 (Xg c) tg,f] ⟨t,o⟩ fun v σ=>v=.bool (c.any q)∧∃ t',t≤t'∧σ=⟨t',o⟩:=by
 refine Qk hT XS (by simp [QB]) (Qg 1000 ?_)
 refine ya ?_
 refine call hT Yi (QF2 hT hp hl tg) 1000 fun v σ hv=>?_
 obtain ⟨rfl,t',ht,rfl⟩:=hv
 have e:decide (QxG q c 0≥0)=c.any q:=QwK
 simp -implicitDefEqProofs (disch:=omega) only [go_sem,↓reduceIte,reduceCtorEq,rq,e]
 exact ⟨t',ht,rfl⟩
variable {L:List Nd} {fmt:Int→List UInt8}
theorem Qwz {ex zs:List (Option Ob)} {y:Option Ob}:(kG fmt v0 v1 v2 v3 v4 L++(ex++y::zs)).take (5+(ex.length+1))=kG fmt v0 v1 v2 v3 v4 L++(ex++[y]):=by
 have:=Qx (fmt:=fmt) (v0:=v0) (v1:=v1) (v2:=v2) (v3:=v3) (v4:=v4) (L:=L) (ex:=ex++[y]) (zs:=zs)
 simpa using this
theorem c_isS (hT:Qf P tab) {w:Nat} {ex:List (Option Ob)} {ids:List Int} :
 QDZ P G 0 (.fn (.func QkS) [] [.ptr (5+ex.length) w 0]) (kG fmt v0 v1 v2 v3 v4 L++(ex++[some (.arr w 34 [.ptr 1 v0 0])])) (fun x=>decide (¬ inG L x)) ids:=by
 intro t x hx
 refine CV.of hT QkD ?_
 refine Qi (5+(ex.length+1)) (zL _) (Qk hT QkD (by simp [Qec]) (Qg 1000 ?_))
 simp -implicitDefEqProofs (disch:=omega) only [go_sem,↓reduceIte,reduceCtorEq,rq,XI,lC,lN,cA,nA,true_implies,and_true]
 refine call hT QF (Qgn hT) 1000 fun v σ hv=>?_
 obtain ⟨rfl,t1,ht1,rfl⟩:=hv
 by_cases hi:inG L x
 ·have hi':0≤x∧x<L.length:=hi
  have e:decide (¬ inG L x)=false:=by simp [hi]
  rw [if_pos hi',e]
  generalize L.getD x.toNat zeroNd=d
  simp -implicitDefEqProofs (disch:=omega) only [go_sem,↓reduceIte,reduceCtorEq,rA,rq,rT,Qh,Qam,Qba,lA,lC,lN,aA,cA,nA,tZ,true_and,and_true,Nd.cells,Qwz]
  exact ⟨by omega,t1+1,by omega,rfl⟩
 ·have hi':¬ (0≤x∧x<L.length):=hi
  have e:decide (¬ inG L x)=true:=by simp [hi]
  rw [if_neg hi',e]
  simp -implicitDefEqProofs (disch:=omega) only [go_sem,↓reduceIte,reduceCtorEq,rA,rq,rT,Qh,Qam,Qba,lA,lC,lN,aA,cA,nA,tZ,true_and,and_true,Nd.cells,zeroNd,Qwz]
  exact ⟨by omega,t1+1,by omega,rfl⟩
theorem k_is (hT:Qf P tab) {ex:List (Option Ob)} (ids:List Int) (tg:Bool) (hl:ids.length≤1000000) :
 C P G 0 QrY [.ptr 1 v0 0,.lst 1 (Xg ids) tg] ⟨t,kG fmt v0 v1 v2 v3 v4 L++ex⟩ fun v σ=>v=.bool (ids.all fun x=>decide (inG L x))∧∃ t',t≤t'∧σ=⟨t',kG fmt v0 v1 v2 v3 v4 L++ex⟩:=by
 refine Qi (5+ex.length) (zL _) (Qk hT Qij (by simp [Qnc]) (Qg 1000 ?_))
 simp -implicitDefEqProofs (disch:=omega) only [go_sem,↓reduceIte,reduceCtorEq,rq,Qh,lA,aA,and_true]
 refine call hT XS (Qvx hT (c_isS hT) hl tg) 1000 fun v σ hv=>?_
 obtain ⟨rfl,t1,ht1,rfl⟩:=hv
 have e:(!ids.any fun x=>decide (¬ inG L x))=ids.all fun x=>decide (inG L x):=by
  rw [List.not_any_eq_all_not]; congr 1; funext x; simp
 simp -implicitDefEqProofs (disch:=omega) only [go_sem,↓reduceIte,reduceCtorEq,rq,Qh,Qx,lA,lC,lN,true_and,and_true,e]
 exact ⟨by omega,t1,by omega,rfl⟩
end
section
attribute [local go_sem] aA lA lC lN tN tSq lR zA and_true false_implies Qh XI Qx
structure On (L:List Nd) (r:GR):Prop where
 le:L.length≤r.2.length
 ok:okN r.2
 pre:L <+: r.2
theorem On.trans {L:List Nd} {r s:GR} (h:On L r) (k:On r.2 s):On L s:=⟨Nat.le_trans h.le k.le,k.ok,h.pre.trans k.pre⟩
variable {L:List Nd}
theorem QRQ (h:okN L) (x:Int):On L (x,L):=⟨lR _,h,List.prefix_rfl⟩
theorem QmP (h:okN L) {n:Int} (hn:i64 n):On L (Qdo L n) :=
 ⟨QfU (Qix L n).2.2.1,Ql7 h hn (show i64 0 by unfold i64; omega),(Qix L n).2.2.1⟩
variable {r:GR} {x:Int} {f:Nat}
theorem Qiv (h:okN L) {op y:Int} (hr:QqW f L op x y=some r):On L r :=
 ⟨(Qmk h hr).1,(Qmk h hr).2.1,(Qmk h hr).2.2⟩
theorem QB4 (h:okN L) (hr:QEX f L x=some r):On L r:=by
 unfold QEX at hr
 split at hr
 ·exact (QmP h (n:=0) (by unfold i64; omega)).trans (Qiv (QmP h (n:=0) (by unfold i64; omega)).ok hr)
 ·cases hr; exact QRQ h _
end
section
attribute [local go_sem] nF nT aA cA List.getD_cons_succ List.getD_cons_zero lA lC lN nA tN tSq tZ aZ lR zA zL Option.getD_none Option.getD_some Option.isSome_none Option.isSome_some and_true beq_self_eq_true false_implies Qh XI Qam Qba Qx Qco zqw_0 zqw_1 QGF QGE QGD QGC QGB QGA QGz QGy QGx QGw zqw_2 QGv QGu QGt QGs QGr QGq QGp QGo QGn zqw_3 zqw_4 zqw_5 zqw_6 zqw_7 zqw_8 zqw_9 true_implies
def OfC (P:Program) (G:Nat→Option V) (fmt:Int→List UInt8) (L:List Nd) (a:Int):Prop :=
 ∀ (v0 v1 v2 v3 v4 t:Nat) (ex:List (Option Ob)),C P G 0 QrX [.ptr 1 v0 0,.int .i64 a] ⟨t,kG fmt v0 v1 v2 v3 v4 L++ex⟩ (Qc1 fmt (a,L) v0 v1 ex t)
def QPL (o:Option Int):V:=.tup [.int .u8 (o.getD 0),.bool o.isSome]
def immW (x:Int):Bool:=decide (22≤x∧x≤30) || decide (41≤x∧x≤44)
def wrdW (x:Int):Bool:=decide (41≤x∧x≤49) || decide (58≤x∧x≤62)
abbrev ins (op rd r1 r2 imm:Int):List V:=[.int .u8 op,.int .u8 rd,.int .u8 r1,.int .u8 r2,.int .i64 imm]
def allG (L:List Nd) (a b:Int):Bool:=decide (inG L a)&&decide (inG L b)
theorem QvO (L:List Nd) (a b:Int):([a,b].all fun x=>decide (inG L x))=allG L a b:=by simp [allG]
theorem vo0:(Value.pointer none).oneCell'=true:=rfl
variable {rd r1 r2 pc a b:Int} {L:List Nd} {v0 v1 v2 v3 v4 t:Nat}
theorem QFf (hT:Qf P tab) (F:Fmt P G) {ex:List (Option Ob)} {imm:Int} (hin:allG L a b=true) (hi:i64 imm) (hL:L.length≤1000000) :
 C P G 0 Qds [.ptr 1 v0 0,.agg (ins 1 rd r1 r2 imm),.int .i64 pc,.int .i64 a,.int .i64 b] ⟨t,kG F.fmt v0 v1 v2 v3 v4 L++ex⟩ (Qc1 F.fmt (Qdo L imm) v0 v1 ex t):=by
 refine Qi (5+ex.length) (zL _) (Qk hT QfL (by simp [Qco]) (Qg 1000 ?_))
 simp -implicitDefEqProofs (disch:=omega) only [go_sem,↓reduceIte,reduceCtorEq,rA,rq,rL,vo0]
 refine call hT Qij (k_is hT [a,b] true (by simp)) 1000 fun v σ hv=>?_
 obtain ⟨rfl,t1,ht1,rfl⟩:=hv
 rw [QvO,hin]
 refine ya ?_
 refine call hT Z4 (QCv hT F hi hL) 1000 fun v σ hv=>?_
 obtain ⟨rfl,t2,a2,a3,a4,ht2,rfl⟩:=hv
 refine ya ?_
 exact ⟨by omega,rfl,t2,a2,a3,a4,by omega,rfl⟩
theorem QCy (hT:Qf P tab) (F:Fmt P G) (hP:Bits P G) (f:Nat) {ex:List (Option Ob)} {op imm o:Int} (hin:allG L a b=true) (h1:(op==1)=false) (h2:(op==2)=false) (ho:Pure P G QgP [.int .u8 op] fun v=>v=QPL (some o)) (ho8:0≤o∧o≤255)
 (hw:wrdW op=false) (hi:i64 imm) (hok:okN L) (hL:L.length≤1000000) (hOa:OfC P G F.fmt L a) (hOb:OfC P G F.fmt L b) {r:GR} (hr:r.2.length≤1000000)
 (h:(if immW op then QqW f (Qdo L imm).2 o a (Qdo L imm).1 else QqW f L o a b)=some r) :
 C P G 0 Qds [.ptr 1 v0 0,.agg (ins op rd r1 r2 imm),.int .i64 pc,.int .i64 a,.int .i64 b] ⟨t,kG F.fmt v0 v1 v2 v3 v4 L++ex⟩ (Qc1 F.fmt r v0 v1 ex t):=by
 have b1:=QcY (P:=P) (G:=G) hT op 22 30
 have b2:=QcY (P:=P) (G:=G) hT op 41 44
 have b3:=QcY (P:=P) (G:=G) hT op 41 49
 have b4:=QcY (P:=P) (G:=G) hT op 58 62
 unfold wrdW at hw
 unfold immW at h
 simp only [Bool.or_eq_false_iff] at hw
 obtain ⟨hw1,hw2⟩:=hw
 rw [hw1] at b3
 rw [hw2] at b4
 generalize decide (22≤op∧op≤30)=d1 at *
 generalize decide (41≤op∧op≤44)=d2 at *
 have k0:=QmP hok hi
 refine Qi (5+ex.length) (zL _) (Qk hT QfL (by simp [Qco]) (Qg 1000 ?_))
 simp -implicitDefEqProofs (disch:=omega) only [go_sem,↓reduceIte,reduceCtorEq,rA,rq,rL,vo0]
 refine call hT Qij (k_is hT [a,b] true (by simp)) 1000 fun v σ hv=>?_
 obtain ⟨rfl,t1,ht1,rfl⟩:=hv
 rw [QvO,hin]
 refine yu ?_
 refine Qj hT Qxi ho (by simp [Qb,Qd]) 1000 ?_
 simp -implicitDefEqProofs (disch:=omega) only [go_sem,↓reduceIte,reduceCtorEq,rA,rq,rT,QPL]
 refine call hT QfK (hOa _ _ _ _ _ _ _) 1000 fun v σ hv=>?_
 obtain ⟨rfl,t2,a2,a3,a4,ht2,rfl⟩:=hv
 refine ya ?_
 refine call hT QfK (hOb _ _ _ _ _ _ _) 1000 fun v σ hv=>?_
 obtain ⟨rfl,t3,c2,c3,c4,ht3,rfl⟩:=hv
 refine ya ?_
 refine Qj hT Q1 b1 (by simp [Qb,Qd]) 1000 ?_
 cases d1 with
 | true =>
   simp only [Bool.true_or,if_true] at h
   have k1:=Qiv k0.ok h
   have l0:=k0.le; have l1:=k1.le
   refine ya ?_
   refine call hT Z4 (QCv hT F hi hL) 1000 fun v σ hv=>?_
   obtain ⟨rfl,t4,d2',d3,d4,ht4,rfl⟩:=hv
   refine ya ?_
   refine Qj hT Q1 b3 (by simp [Qb,Qd]) 1000 ?_
   refine ya ?_
   refine Qj hT Q1 b4 (by simp [Qb,Qd]) 1000 ?_
   refine ya ?_
   refine call hT Z5 (QCw hT F hP f k0.ok ho8 hr h) 1000 fun v σ hv=>?_
   obtain ⟨rfl,t5,e2,e3,e4,ht5,rfl⟩:=hv
   refine ya ?_
   exact ⟨by omega,rfl,t5,e2,e3,e4,by omega,rfl⟩
 | false =>
   refine ya ?_
   refine Qj hT Q1 b2 (by simp [Qb,Qd]) 1000 ?_
   cases d2 with
   | true =>
     simp only [Bool.false_or,if_true] at h
     have k1:=Qiv k0.ok h
     have l0:=k0.le; have l1:=k1.le
     refine ya ?_
     refine call hT Z4 (QCv hT F hi hL) 1000 fun v σ hv=>?_
     obtain ⟨rfl,t4,d2',d3,d4,ht4,rfl⟩:=hv
     refine ya ?_
     refine Qj hT Q1 b3 (by simp [Qb,Qd]) 1000 ?_
     refine ya ?_
     refine Qj hT Q1 b4 (by simp [Qb,Qd]) 1000 ?_
     refine ya ?_
     refine call hT Z5 (QCw hT F hP f k0.ok ho8 hr h) 1000 fun v σ hv=>?_
     obtain ⟨rfl,t5,e2,e3,e4,ht5,rfl⟩:=hv
     refine ya ?_
     exact ⟨by omega,rfl,t5,e2,e3,e4,by omega,rfl⟩
   | false =>
     simp only [Bool.or_self,Bool.false_eq_true,if_false] at h
     refine ya ?_
     refine Qj hT Q1 b3 (by simp [Qb,Qd]) 1000 ?_
     refine ya ?_
     refine Qj hT Q1 b4 (by simp [Qb,Qd]) 1000 ?_
     refine ya ?_
     refine call hT Z5 (QCw hT F hP f hok ho8 hr h) 1000 fun v σ hv=>?_
     obtain ⟨rfl,t5,e2,e3,e4,ht5,rfl⟩:=hv
     refine ya ?_
     exact ⟨by omega,rfl,t5,e2,e3,e4,by omega,rfl⟩
end
end Go.Proofs.YtbdhjeojcpgblaaGreatDoor
namespace Go.Proofs.YtbdhjeojcpgblaaGreatDoor
open Go Go.Am Go.Rv Go.Rg
set_option maxRecDepth 100000
variable {P:Program} {G:Nat→Option V}
set_option maxHeartbeats 2000000
section
attribute [local go_sem] nF nT aA cA List.getD_cons_succ List.getD_cons_zero lA lC lN nA List.set_cons_succ List.set_cons_zero tN tSq tZ aZ lR Nat.mul_one zA zL and_true beq_self_eq_true false_implies Qh XI Qx Qgl QPn QPm QPl QPk QPj QPi QPh QPg Qgk zqr_0 zqr_1 zqr_2 zqr_3 not_false_eq_true true_implies
theorem c_goes (hT:Qf P tab) (k i op rd r1 r2 imm x:Int) (hq:i64 (imm.tdiv 4)):Pure P G Qm6 [.int .u8 k,.int .i64 i,.agg (ins op rd r1 r2 imm),.int .i64 x] fun v=>v=eff k (IntKind.i64.wrap (i+imm.tdiv 4)) 0 x (-1) 0:=by
 intro t
 have hN:=QQk (P:=P) (G:=G) hT k
 have e1:IntKind.i64.wrap (imm.tdiv 4)=imm.tdiv 4:=Yz hq
 refine Qi 0 (zL _) (Qk hT QmC (by simp [Qgk]) (Qg 1000 ?_))
 refine ya ?_
 refine Qj hT Qcz hN (by simp [Qb,Qd]) 1000 ?_
 simp -implicitDefEqProofs (disch:=omega) only [go_sem,↓reduceIte,reduceCtorEq,rA,rq,rL,Int.reduceEq,eff,e1]
 try exact rfl
def brO (op:Int):Int:=if op≤6 then 16 else if op≤8 then 14 else 15
def QDj (f:Nat) (L:List Nd) (op a b:Int):Option GR:=(QqW f L (brO op) a b).bind fun c=>if (op - 5) % 2=1 then QEX f c.2 c.1 else some c
theorem QFi (hT:Qf P tab) (F:Fmt P G) (hP:Bits P G) (f:Nat) {v0 v1 v2 v3 v4 t:Nat} {L:List Nd} {ex:List (Option Ob)} {op rd r1 r2 imm a b:Int} (hin:allG L a b=true) (ho:5≤op∧op≤10)
 (hok:okN L) (hL:L.length≤1000000) (hOa:OfC P G F.fmt L a) (hOb:OfC P G F.fmt L b) {r:GR} (hr:r.2.length≤1000000) (h:QDj f L op a b=some r) :
 C P G 0 Qez [.ptr 1 v0 0,.agg (ins op rd r1 r2 imm),.int .i64 a,.int .i64 b] ⟨t,kG F.fmt v0 v1 v2 v3 v4 L++ex⟩ (Qc1 F.fmt r v0 v1 ex t):=by
 have b1:=QcY (P:=P) (G:=G) hT op 5 10
 rw [decide_eq_true ho] at b1
 unfold QDj at h
 obtain ⟨c,h1,h2⟩:=Option.bind_eq_some_iff.1 h
 have k1:=Qiv hok h1
 have u0:IntKind.u8.wrap 0=0:=by decide
 have u1:IntKind.u8.wrap 1=1:=by decide
 have u2:IntKind.u8.wrap 2=2:=by decide
 have u3:IntKind.u8.wrap 3=3:=by decide
 have u4:IntKind.u8.wrap 4=4:=by decide
 have u5:IntKind.u8.wrap 5=5:=by decide
 have m0:Int.tmod 0 2=0:=by decide
 have m1:Int.tmod 1 2=1:=by decide
 have m2:Int.tmod 2 2=0:=by decide
 have m3:Int.tmod 3 2=1:=by decide
 have m4:Int.tmod 4 2=0:=by decide
 have m5:Int.tmod 5 2=1:=by decide
 refine Qi (5+ex.length) (zL _) (Qk hT QmD (by simp [Qgl]) (Qg 1000 ?_))
 refine ya ?_
 refine call hT Qij (k_is hT [a,b] true (by simp)) 1000 fun v σ hv=>?_
 obtain ⟨rfl,t1,ht1,rfl⟩:=hv
 rw [QvO,hin]
 refine ya ?_
 refine Qj hT Q1 b1 (by simp [Qb,Qd]) 1000 ?_
 have hc:op=5∨op=6∨op=7∨op=8∨op=9∨op=10:=by omega
 rcases hc with rfl | rfl | rfl | rfl | rfl | rfl <;> simp only [brO,Int.reduceLE,if_true,if_false,Int.reduceSub,Int.reduceMod,Int.reduceEq] at h1 h2
 all_goals (
  simp -implicitDefEqProofs (disch:=omega) only [go_sem,↓reduceIte,reduceCtorEq,rA,rq,rL,rT,Int.reduceToNat,Int.reduceLE,Int.reduceSub,u0,u1,u2,u3,u4,u5,Int.reduceToNat]
  refine call hT QfK (hOa _ _ _ _ _ _ _) 1000 fun v σ hv=>?_
  obtain ⟨rfl,t2,a2,a3,a4,ht2,rfl⟩:=hv
  refine ya ?_
  refine call hT QfK (hOb _ _ _ _ _ _ _) 1000 fun v σ hv=>?_
  obtain ⟨rfl,t3,c2,c3,c4,ht3,rfl⟩:=hv
  refine ya ?_
  refine call hT Qcn (QCz hT F hP f hok (by omega) (r:=c) (by first | omega | (have:=(QB4 k1.ok h2).le; omega) | (cases h2; omega)) h1) 1000 fun v σ hv=>?_
  obtain ⟨rfl,t4,d2,d3,d4,ht4,rfl⟩:=hv
  simp -implicitDefEqProofs (disch:=omega) only [go_sem,↓reduceIte,reduceCtorEq,rA,rq,rL,Int.reduceEq,Int.reduceBEq,Int.reduceSub,u0,u1,u2,u3,u4,u5,m0,m1,m2,m3,m4,m5]
  first
   | (cases h2
      exact ⟨by omega,rfl,t4,d2,d3,d4,by omega,rfl⟩)
   | (refine call hT QgK (QSn hT F hP f k1.ok hr h2) 1000 fun v σ hv=>?_
      obtain ⟨rfl,t5,e2,e3,e4,ht5,rfl⟩:=hv
      refine ya ?_
      exact ⟨by omega,rfl,t5,e2,e3,e4,by omega,rfl⟩))
end
end Go.Proofs.YtbdhjeojcpgblaaGreatDoor
