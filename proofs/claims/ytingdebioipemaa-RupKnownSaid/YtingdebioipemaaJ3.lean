/- Contracts: clean clauses. -/
import Derived.Test.YtingdebioipemaaSh3
open Nat renaming reduceEqDiff → rq, reduceAdd → rA, reduceLeDiff → rL, reduceLT → rTq, zero_add → zA, le_refl → lR, zero_le → zL, add_zero → aZ
open List renaming length_cons → lC, length_nil → lN, take_succ_cons → tS, length_append → lA, nil_append → nA, cons_append → cA, append_assoc → aA, take_nil → tN, take_zero → tZ, length_map → lM
open Bool renaming not_false → nF, not_true → nT
namespace Go.Proofs.Ytingdebioipemaa
open Go Go.Am Go.Cl
set_option maxRecDepth 100000
variable {G:Nat→Option V}
section
attribute [local go_sem] nF nT aZ lR Nat.mul_one Nat.one_mul Nat.succ_ne_zero zA zL Nat.zero_mul Option.getD_none Option.getD_some Option.isSome_none Option.isSome_some beq_self_eq_true bne_self_eq_false ZU zqt_0 zqt_1 QsS zqt_2 zqt_3 zqt_4 QvI QvH QvG QvF QvE decide_false decide_true ge_iff_le gt_iff_lt Qt
def QhX (q:List Int) (i:Nat):Bool:=chk (if i=0 then none else q[i - 1]?) (q.drop i)
theorem QqC (q:List Int):QhX q q.length=false:=by
 unfold QhX; rw [List.drop_length]; rfl
variable {n:Int} {q:List Int}
theorem QnC {i:Nat} (h:q[i]?=some n):QhX q i=((decide (n=0) || decide (n=mn) || decide ((if i=0 then none else q[i - 1]?)=some (neg n))) || QhX q (i+1)):=by
 have hl:=(List.getElem?_eq_some_iff.1 h).1
 have hd:q.drop i=n::q.drop (i+1):=by
  rw [List.drop_eq_getElem_cons hl]
  congr 1
  exact (List.getElem?_eq_some_iff.1 h).2
 unfold QhX
 rw [hd,chk,if_neg (by omega:¬ i+1=0),Nat.add_sub_cancel,h]
theorem QrW (h:-9223372036854775808≤n∧n≤9223372036854775807):(n<0∧n=neg n)↔n=mn:=by
 unfold neg mn; split <;> omega
abbrev clJ (o0:List (Option Ob)) (q:List Int) (w t:Nat) (cells:List V):Nat→Fr→H→Prop:=fun m fr σ=>∃ i,i≤q.length∧m=q.length - i∧QhX q i=chk none q∧Qg fr 4=.sl o0.length w 0 1 q.length none∧Qg fr 13=.sl o0.length w 0 1 q.length none∧Qg fr 14=.int .i64 q.length∧Qg fr 15=.int .i64 i∧σ=⟨t,o0++[some (.arr w 3 (ints q++cells))]⟩
abbrev clE (o0:List (Option Ob)) (q:List Int) (w t:Nat) (cells:List V):AE→Fr→H→Prop:=fun e fr σ=>(e=.ret∧chk none q=true∧Qg fr 2=.lst 0 [] true∧Qg fr 3=.bool false∧σ=⟨t,o0++[some (.arr w 3 (ints q++cells))]⟩)∨(e=.ex 0∧chk none q=false∧Qg fr 4=.sl o0.length w 0 1 q.length none∧σ=⟨t,o0++[some (.arr w 3 (ints q++cells))]⟩)
variable {base t:Nat} {o0:List (Option Ob)}
theorem QlH {P:Program} (hT:Qj P tab) {w:Nat} {cells:List V} (hb:∀ n∈q,-9223372036854775808≤n∧n≤9223372036854775807) (hl:q.length≤1000000) {m:Nat} {fr:Fr} {σ:H} (hJ:clJ o0 q w t cells m fr σ) :
 W P G 48 base (zg QvI [] (.seq (zw 16 .skip (.exit 0)) (.seq (.block 1 (zg QvH [17,18,19] (zg QvG [20,21,22,23,24,25,26,27,28,29,30,31,32,33,34,35,36,37,38,39,40,41,42,43,44] (zw 45 (zg QvF [] .ret) .skip)))) (.reg QvE [46])))) fr σ (Y9 (fun fr σ=>∃ m' fr' σ',m'<m∧Shift G 48 base fr σ fr' σ'∧clJ o0 q w t cells m' fr' σ') (clE o0 q w t cells)):=by
 obtain ⟨i,hi,rfl,hok,f4,f13,f14,f15,rfl⟩:=hJ
 rcases Nat.lt_or_ge i q.length with hlt | hge
 ·obtain ⟨n,hni⟩:∃ n,q[i]?=some n:=⟨_,List.getElem?_eq_getElem hlt⟩
  have hD:=ZC cells hni
  have hbn:=hb n (List.mem_of_getElem? hni)
  have e2:=XP hlt (by omega)
  have hneg:=QdQ hbn
  have hns:=QrW hbn
  have hch:=QnC hni
  rw [hok] at hch
  by_cases g1:n=0
  ·have hbadE:chk none q=true:=by rw [hch]; simp [g1]
   have g1':(n==0)=true:=by simpa using g1
   refine Qf [(4,.sl o0.length w 0 1 q.length none),(13,.sl o0.length w 0 1 q.length none),(14,.int .i64 q.length),(15,.int .i64 i)] ⟨f4,f13,f14,f15,trivial⟩  14 ?_
   simp -implicitDefEqProofs (disch:=omega) only [go_sem,↓reduceIte,rq,Qb,lA,List.getElem?_concat_length,true_implies,true_and,and_true,hlt,hD]
   iterate 24 (try (refine Qc 2 ?_; simp -implicitDefEqProofs (disch:=omega) only [go_sem,↓reduceIte,rq,g1']))
   try refine Qc 9 ?_
   try simp -implicitDefEqProofs (disch:=omega) only [go_sem,↓reduceIte,reduceCtorEq,rA,rq,rL,rTq,Nat.reduceSub,Nat.reduceMul,Int.reduceToNat,Int.reduceLE,Int.reduceLT,Int.reduceEq,Int.reduceNe,Nat.reduceBEq,Nat.reduceBNe,Qb,lA,List.getElem?_concat_length,false_implies,true_implies,true_and,and_true,not_true_eq_false,not_false_eq_true]
   exact .inl ⟨rfl,hbadE,rfl,rfl,rfl⟩
  have g1':(n==0)=false:=by simpa using g1
  by_cases g2:n=mn
  ·have hbadE:chk none q=true:=by rw [hch]; simp [g2]
   obtain ⟨g3,g4⟩:=hns.2 g2
   have g4':(n==neg n)=true:=by simpa using g4
   have g3':decide (n<0)=true:=by simpa using g3
   refine Qf [(4,.sl o0.length w 0 1 q.length none),(13,.sl o0.length w 0 1 q.length none),(14,.int .i64 q.length),(15,.int .i64 i)] ⟨f4,f13,f14,f15,trivial⟩  14 ?_
   simp -implicitDefEqProofs (disch:=omega) only [go_sem,↓reduceIte,rq,Qb,lA,List.getElem?_concat_length,true_implies,true_and,and_true,hlt,hD]
   iterate 24 (try (refine Qc 2 ?_; simp -implicitDefEqProofs (disch:=omega) only [go_sem,↓reduceIte,rA,rq,hneg,g1',g4',g3]))
   try refine Qc 9 ?_
   try simp -implicitDefEqProofs (disch:=omega) only [go_sem,↓reduceIte,reduceCtorEq,rA,rq,rL,rTq,Nat.reduceSub,Nat.reduceMul,Int.reduceToNat,Int.reduceLE,Int.reduceLT,Int.reduceEq,Int.reduceNe,Nat.reduceBEq,Nat.reduceBNe,Qb,lA,List.getElem?_concat_length,false_implies,true_implies,true_and,and_true,not_true_eq_false,not_false_eq_true]
   exact .inl ⟨rfl,hbadE,rfl,rfl,rfl⟩
  have h4:n<0→(n==neg n)=false:=fun h=>by
   rw [beq_eq_false_iff_ne]; exact fun e=>g2 (hns.1 ⟨h,e⟩)
  by_cases g3:n<0
  ·have g3':decide (n<0)=true:=by simpa using g3
   have g4':=h4 g3
   rcases Nat.eq_zero_or_pos i with hz | hp
   ·have hgood:QhX q (i+1)=chk none q:=by rw [hch]; simp [g1,g2,hz]
    have hi0:¬ (0<(i:Int)):=by omega
    have hi0':decide (0<(i:Int))=false:=by simpa using hi0
    refine Qf [(4,.sl o0.length w 0 1 q.length none),(13,.sl o0.length w 0 1 q.length none),(14,.int .i64 q.length),(15,.int .i64 i)] ⟨f4,f13,f14,f15,trivial⟩  14 ?_
    simp -implicitDefEqProofs (disch:=omega) only [go_sem,↓reduceIte,rq,Qb,lA,List.getElem?_concat_length,true_implies,true_and,and_true,hlt,hD]
    iterate 24 (try (refine Qc 2 ?_; simp -implicitDefEqProofs (disch:=omega) only [go_sem,↓reduceIte,rA,rq,hneg,g1',g3,g4',hi0]))
    try refine Qc 9 ?_
    try simp -implicitDefEqProofs (disch:=omega) only [go_sem,↓reduceIte,reduceCtorEq,rA,rq,rL,rTq,Nat.reduceSub,Nat.reduceMul,Int.reduceToNat,Int.reduceLE,Int.reduceLT,Int.reduceEq,Int.reduceNe,Nat.reduceBEq,Nat.reduceBNe,Qb,lA,List.getElem?_concat_length,false_implies,true_implies,true_and,and_true,not_true_eq_false,not_false_eq_true]
    refine ⟨q.length - (i+1),_,_,by omega,Shift.refl _ _ _ _,i+1,by omega,rfl,hgood,?_⟩
    simp -implicitDefEqProofs (disch:=omega) only [go_sem,↓reduceIte,rq,and_true,e2]
   ·have hi0:0<(i:Int):=by omega
    have hi0':decide (0<(i:Int))=true:=by simpa using hi0
    obtain ⟨p,hpi⟩:∃ p,q[i - 1]?=some p:=⟨_,List.getElem?_eq_getElem (by omega)⟩
    have hDp:=ZC cells hpi
    have e4:IntKind.i64.wrap ((i:Int) - 1)=((i - 1:Nat):Int):=by
     rw [ZW]
     ·omega
     ·simp [IntKind.min,IntKind.signed,IntKind.bits]; omega
     ·simp [IntKind.max,IntKind.signed,IntKind.bits]; omega
    have hl1:i - 1<q.length:=by omega
    by_cases g5:p=neg n
    ·have hbadE:chk none q=true:=by rw [hch,if_neg (by omega),hpi]; simp [g5]
     have g5':(p==neg n)=true:=by simpa using g5
     refine Qf [(4,.sl o0.length w 0 1 q.length none),(13,.sl o0.length w 0 1 q.length none),(14,.int .i64 q.length),(15,.int .i64 i)] ⟨f4,f13,f14,f15,trivial⟩  14 ?_
     simp -implicitDefEqProofs (disch:=omega) only [go_sem,↓reduceIte,rq,Qb,lA,List.getElem?_concat_length,true_implies,true_and,and_true,hlt,hD]
     iterate 24 (try (refine Qc 2 ?_; simp -implicitDefEqProofs (disch:=omega) only [go_sem,↓reduceIte,rA,rq,Qb,lA,List.getElem?_concat_length,true_implies,true_and,and_true,hneg,g1',g3,g4',hi0,e4,hDp,hl1,g5']))
     try refine Qc 9 ?_
     try simp -implicitDefEqProofs (disch:=omega) only [go_sem,↓reduceIte,reduceCtorEq,rA,rq,rL,rTq,Nat.reduceSub,Nat.reduceMul,Int.reduceToNat,Int.reduceLE,Int.reduceLT,Int.reduceEq,Int.reduceNe,Nat.reduceBEq,Nat.reduceBNe,Qb,lA,List.getElem?_concat_length,false_implies,true_implies,true_and,and_true,not_true_eq_false,not_false_eq_true]
     exact .inl ⟨rfl,hbadE,rfl,rfl,rfl⟩
    ·have hgood:QhX q (i+1)=chk none q:=by rw [hch,if_neg (by omega),hpi]; simp [g1,g2,g5]
     have g5':(p==neg n)=false:=by simpa using g5
     refine Qf [(4,.sl o0.length w 0 1 q.length none),(13,.sl o0.length w 0 1 q.length none),(14,.int .i64 q.length),(15,.int .i64 i)] ⟨f4,f13,f14,f15,trivial⟩  14 ?_
     simp -implicitDefEqProofs (disch:=omega) only [go_sem,↓reduceIte,rq,Qb,lA,List.getElem?_concat_length,true_implies,true_and,and_true,hlt,hD]
     iterate 24 (try (refine Qc 2 ?_; simp -implicitDefEqProofs (disch:=omega) only [go_sem,↓reduceIte,rA,rq,Qb,lA,List.getElem?_concat_length,true_implies,true_and,and_true,hneg,g1',g3,g4',hi0,e4,hDp,hl1,g5']))
     try refine Qc 9 ?_
     try simp -implicitDefEqProofs (disch:=omega) only [go_sem,↓reduceIte,reduceCtorEq,rA,rq,rL,rTq,Nat.reduceSub,Nat.reduceMul,Int.reduceToNat,Int.reduceLE,Int.reduceLT,Int.reduceEq,Int.reduceNe,Nat.reduceBEq,Nat.reduceBNe,Qb,lA,List.getElem?_concat_length,false_implies,true_implies,true_and,and_true,not_true_eq_false,not_false_eq_true]
     refine ⟨q.length - (i+1),_,_,by omega,Shift.refl _ _ _ _,i+1,by omega,rfl,hgood,?_⟩
     simp -implicitDefEqProofs (disch:=omega) only [go_sem,↓reduceIte,rq,and_true,e2]
  ·have g3':decide (n<0)=false:=by simpa using g3
   rcases Nat.eq_zero_or_pos i with hz | hp
   ·have hgood:QhX q (i+1)=chk none q:=by rw [hch]; simp [g1,g2,hz]
    have hi0:¬ (0<(i:Int)):=by omega
    have hi0':decide (0<(i:Int))=false:=by simpa using hi0
    refine Qf [(4,.sl o0.length w 0 1 q.length none),(13,.sl o0.length w 0 1 q.length none),(14,.int .i64 q.length),(15,.int .i64 i)] ⟨f4,f13,f14,f15,trivial⟩  14 ?_
    simp -implicitDefEqProofs (disch:=omega) only [go_sem,↓reduceIte,rq,Qb,lA,List.getElem?_concat_length,true_implies,true_and,and_true,hlt,hD]
    iterate 24 (try (refine Qc 2 ?_; simp -implicitDefEqProofs (disch:=omega) only [go_sem,↓reduceIte,rA,rq,g1',g3,hi0]))
    try refine Qc 9 ?_
    try simp -implicitDefEqProofs (disch:=omega) only [go_sem,↓reduceIte,reduceCtorEq,rA,rq,rL,rTq,Nat.reduceSub,Nat.reduceMul,Int.reduceToNat,Int.reduceLE,Int.reduceLT,Int.reduceEq,Int.reduceNe,Nat.reduceBEq,Nat.reduceBNe,Qb,lA,List.getElem?_concat_length,false_implies,true_implies,true_and,and_true,not_true_eq_false,not_false_eq_true]
    refine ⟨q.length - (i+1),_,_,by omega,Shift.refl _ _ _ _,i+1,by omega,rfl,hgood,?_⟩
    simp -implicitDefEqProofs (disch:=omega) only [go_sem,↓reduceIte,rq,and_true,e2]
   ·have hi0:0<(i:Int):=by omega
    have hi0':decide (0<(i:Int))=true:=by simpa using hi0
    obtain ⟨p,hpi⟩:∃ p,q[i - 1]?=some p:=⟨_,List.getElem?_eq_getElem (by omega)⟩
    have hDp:=ZC cells hpi
    have e4:IntKind.i64.wrap ((i:Int) - 1)=((i - 1:Nat):Int):=by
     rw [ZW]
     ·omega
     ·simp [IntKind.min,IntKind.signed,IntKind.bits]; omega
     ·simp [IntKind.max,IntKind.signed,IntKind.bits]; omega
    have hl1:i - 1<q.length:=by omega
    by_cases g5:p=neg n
    ·have hbadE:chk none q=true:=by rw [hch,if_neg (by omega),hpi]; simp [g5]
     have g5':(p==neg n)=true:=by simpa using g5
     refine Qf [(4,.sl o0.length w 0 1 q.length none),(13,.sl o0.length w 0 1 q.length none),(14,.int .i64 q.length),(15,.int .i64 i)] ⟨f4,f13,f14,f15,trivial⟩  14 ?_
     simp -implicitDefEqProofs (disch:=omega) only [go_sem,↓reduceIte,rq,Qb,lA,List.getElem?_concat_length,true_implies,true_and,and_true,hlt,hD]
     iterate 24 (try (refine Qc 2 ?_; simp -implicitDefEqProofs (disch:=omega) only [go_sem,↓reduceIte,rA,rq,Qb,lA,List.getElem?_concat_length,true_implies,true_and,and_true,hneg,g1',g3,hi0,e4,hDp,hl1,g5']))
     try refine Qc 9 ?_
     try simp -implicitDefEqProofs (disch:=omega) only [go_sem,↓reduceIte,reduceCtorEq,rA,rq,rL,rTq,Nat.reduceSub,Nat.reduceMul,Int.reduceToNat,Int.reduceLE,Int.reduceLT,Int.reduceEq,Int.reduceNe,Nat.reduceBEq,Nat.reduceBNe,Qb,lA,List.getElem?_concat_length,false_implies,true_implies,true_and,and_true,not_true_eq_false,not_false_eq_true]
     exact .inl ⟨rfl,hbadE,rfl,rfl,rfl⟩
    ·have hgood:QhX q (i+1)=chk none q:=by rw [hch,if_neg (by omega),hpi]; simp [g1,g2,g5]
     have g5':(p==neg n)=false:=by simpa using g5
     refine Qf [(4,.sl o0.length w 0 1 q.length none),(13,.sl o0.length w 0 1 q.length none),(14,.int .i64 q.length),(15,.int .i64 i)] ⟨f4,f13,f14,f15,trivial⟩  14 ?_
     simp -implicitDefEqProofs (disch:=omega) only [go_sem,↓reduceIte,rq,Qb,lA,List.getElem?_concat_length,true_implies,true_and,and_true,hlt,hD]
     iterate 24 (try (refine Qc 2 ?_; simp -implicitDefEqProofs (disch:=omega) only [go_sem,↓reduceIte,rA,rq,Qb,lA,List.getElem?_concat_length,true_implies,true_and,and_true,hneg,g1',g3,hi0,e4,hDp,hl1,g5']))
     try refine Qc 9 ?_
     try simp -implicitDefEqProofs (disch:=omega) only [go_sem,↓reduceIte,reduceCtorEq,rA,rq,rL,rTq,Nat.reduceSub,Nat.reduceMul,Int.reduceToNat,Int.reduceLE,Int.reduceLT,Int.reduceEq,Int.reduceNe,Nat.reduceBEq,Nat.reduceBNe,Qb,lA,List.getElem?_concat_length,false_implies,true_implies,true_and,and_true,not_true_eq_false,not_false_eq_true]
     refine ⟨q.length - (i+1),_,_,by omega,Shift.refl _ _ _ _,i+1,by omega,rfl,hgood,?_⟩
     simp -implicitDefEqProofs (disch:=omega) only [go_sem,↓reduceIte,rq,and_true,e2]
 ·have hi:i=q.length:=by omega
  refine Qf [(4,.sl o0.length w 0 1 q.length none),(13,.sl o0.length w 0 1 q.length none),(14,.int .i64 q.length),(15,.int .i64 i)] ⟨f4,f13,f14,f15,trivial⟩  1000 ?_
  simp -implicitDefEqProofs (disch:=omega) only [go_sem,↓reduceIte,rq,hi,Nat.lt_irrefl]
  rw [hi,QqC] at hok
  exact .inr ⟨rfl,hok.symm,rfl,rfl⟩
theorem YR:∀ {l m:List V},Qd l=true→Qd m=true→Qd (l++m)=true
 | [],_,_,h=>h
 | v::l,m,h,k=>by
   simp only [Qd,Bool.and_eq_true,cA] at h ⊢
   exact ⟨h.1,YR h.2 k⟩
theorem Qjl (hT:Qj Try.prog tab) (c:List Int) (hb:∀ n∈c,-9223372036854775808≤n∧n≤9223372036854775807) (hl:c.length≤1000000) {a:V} (hbase:base≤o0.length)
 (hclone:∀ b,C Try.prog G b Q1 [a] ⟨t,o0⟩ fun v σ=>∃ t' w,t≤t'∧v=.sl o0.length w 0 1 c.length none∧σ=⟨t',o0++[some (.arr w 3 (ints c))]⟩) :
 C Try.prog G base YM [a] ⟨t,o0⟩ fun u σ=>∃ t' w x,t≤t'∧σ=⟨t',o0++[some (.arr w 3 x)]⟩∧Qd x=true∧((u=.tup [.lst 0 [] true,.bool false]∧Qs c=([],false))∨∃ q cells,Qs c=(q,true)∧x=ints q++cells∧u=.tup [.sl o0.length w 0 1 q.length none,.bool true]):=by
 refine QF hT YI (by simp [ZU]) (Qx 1000 ?_)
 simp -implicitDefEqProofs (disch:=omega) only [go_sem,↓reduceIte,reduceCtorEq,rq]
 refine call hT Qu (hclone _) 1000 fun u σ hu=>?_
 obtain ⟨t1,w,ht1,rfl,rfl⟩:=hu
 simp -implicitDefEqProofs (disch:=omega) only [go_sem,↓reduceIte,reduceCtorEq,rq]
 obtain ⟨s,hsl,hsp,hsm,hs⟩:=Qxv (G:=G) (base:=base) (k:=o0.length) (v:=w) (t:=t1) (o:=o0++[some (.arr w 3 (ints c))]) hbase (by simp) hb hl
 rw [Yp] at hs
 refine call hT YH hs 1000 fun u σ hu=>?_
 obtain ⟨rfl,rfl⟩:=hu
 simp -implicitDefEqProofs (disch:=omega) only [go_sem,↓reduceIte,reduceCtorEq,rq]
 rw [← hsl]
 have hcp:=QqO (G:=G) (base:=base) (k:=o0.length) (v:=w) (t:=t1) (T:=3) (zs:=s) (o:=o0++[some (.arr w 3 (ints s))]) hbase (by simp) (by omega)
 refine call hT Qbj hcp 1000 fun u σ hu=>?_
 obtain ⟨rfl,cells,hcn,rfl⟩:=hu
 rw [Yp]
 have hcl:=cleanP hsp hsm
 have hq:∀ n∈XV s,-9223372036854775808≤n∧n≤9223372036854775807:=fun n hn=>hb n ((hsm n).1 (ZP.1 hn))
 have hle:=QgC s
 generalize XV s=q at hcl hq hle ⊢
 simp -implicitDefEqProofs (disch:=omega) only [go_sem,↓reduceIte,reduceCtorEq,rq]
 refine QC (clJ o0 q w t1 cells) (clE o0 q w t1 cells) (m0:=q.length) ⟨0,by omega,rfl,rfl,?_⟩ (fun m fr σ hJ=>QlH hT hq (by omega) hJ) (fun e fr σ hE=>?_)
 ·simp -implicitDefEqProofs (disch:=omega) only [go_sem,↓reduceIte,reduceCtorEq,rq]
  simp
 ·have hnl:Qd (ints q++cells)=true:=YR (Xq q) hcn
  rcases hE with ⟨rfl,hbd,f2,f3,rfl⟩ | ⟨rfl,hgd,f4,rfl⟩
  ·rw [hbd,if_pos rfl] at hcl
   refine Qc 1000 ?_
   simp -implicitDefEqProofs (disch:=omega) only [go_sem,f2,f3]
   exact ⟨t1,w,_,ht1,⟨rfl,rfl⟩,hnl,.inl hcl.symm⟩
  ·rw [hgd,if_neg (by simp)] at hcl
   refine Qc 1000 ?_
   simp -implicitDefEqProofs (disch:=omega) only [go_sem,↓reduceIte,rq,f4]
   exact ⟨t1,w,_,ht1,⟨rfl,rfl⟩,hnl,.inr ⟨q,cells,hcl.symm,rfl,rfl⟩⟩
theorem Qxy (hT:Qj Try.prog tab) (c:List Int) (hb:∀ n∈c,-9223372036854775808≤n∧n≤9223372036854775807) (hl:c.length≤1000000):Pure Try.prog G YM [row c] fun u=>u=.tup [row (Qs c).1,.bool (Qs c).2]:=by
 intro t
 refine Ql1 (Q:=fun u _=>nameless u=true∧((u=.tup [.lst 0 [] true,.bool false]∧Qs c=([],false))∨u=.tup [row (Qs c).1,.bool (Qs c).2]))
  (QaA (Q:=fun u σ=>(u=.tup [.lst 0 [] true,.bool false]∧Qs c=([],false))∨∃ q w cells,Qs c=(q,true)∧u=.tup [.sl 0 w 0 1 q.length none,.bool true]∧σ.o[0]?=some (some (.arr w 3 (ints q++cells)))∧Qd (ints q++cells)=true) ?_ fun u σ hu=>?_) fun u σ hu=>?_
 ·simp only [row]
  refine (Qjl (G:=G) hT c hb hl (base:=0) (t:=t) (o0:=[]) (zL _) fun b=>QfQ hT c hl).conseq fun u σ hu=>?_
  obtain ⟨t',w,x,_,rfl,hn,hu | ⟨q,cells,hc,rfl,rfl⟩⟩:=hu
  ·exact .inl hu
  ·exact .inr ⟨q,w,cells,hc,rfl,rfl,hn⟩
 ·rcases hu with ⟨rfl,hu⟩ | ⟨q,w,cells,hcl,rfl,ho,hn⟩
  ·exact .inl ⟨rfl,.inl ⟨rfl,hu⟩⟩
  ·refine .inr ⟨0,w,3,ints q++cells,zL _,ho,hn,?_,.inr ?_⟩
   ·simp [YU,Qgd,nameless,Qd,Qb]
   ·rw [hcl]
    simp [YU,Qgd,Qac,Qb,row]
 ·rcases hu with ⟨hn,⟨rfl,hu⟩ | rfl⟩
  ·exact ⟨.tup [row [],.bool false],.tup _ _ (.cons _ _ _ _ (.lst _ _ _ _ _ .nil (.inl rfl)) (.cons _ _ _ _ (.refl _) .nil)),rfl,by rw [hu]⟩
  ·exact ⟨_,.refl _,hn,rfl⟩
end
end Go.Proofs.Ytingdebioipemaa
namespace Go.Proofs.Ytingdebioipemaa
open Go Go.Am Go.Cl
set_option maxRecDepth 100000
variable {P:Program} {G:Nat→Option V}
section
attribute [local go_sem] nF nT cA lC lM lN nA aZ lR Nat.mul_one zA zL Zh zqu_0 zqu_1 QsR QsQ QsP Qn0 QnZ QnY QnX QnW QsO zqu_2 zqu_3 zqu_4 QvD QvC QvB QvA zqu_9 decide_false decide_true Qb Qt
theorem Qhb (k:IntKind) (f:Int→V) (a:Int) (v:V) (hv:v=f a):∀ S:List Int,a∈S→Qjq [.i] (.int k a) v (im k f S)=im k f S
 | [],h=>absurd h (by simp)
 | b::S,h=>by
   by_cases e:a=b
   ·subst e
    simp [im,Qjq,Qfo,hv]
   ·have ih:=Qhb k f a v hv S (by simpa [e] using h)
    unfold im at ih ⊢
    simp only [List.map_cons,Qjq,Qfo,e,decide_false]
    rw [ih]; simp
def addN (S:List Int) (a:Int):List Int:=if a∈S then S else S++[a]
variable {n v:Int}
theorem QrZ {S:List Int} {a:Int}:n∈addN S a↔n∈S∨n=a:=by
 unfold addN; split
 ·rename_i h; exact ⟨.inl,fun x=>x.elim id fun e=>e▸h⟩
 ·simp
theorem QwV (S:List Int) (a:Int):Qjq [Kd.i] (V.int .i64 a) (V.int .i64 1) (im .i64 (fun _=>V.int .i64 1) S)=im .i64 (fun _=>V.int .i64 1) (addN S a):=by
 unfold addN; split
 ·rename_i h; exact Qhb .i64 (fun _=>V.int .i64 1) a _ rfl S h
 ·rename_i h; exact Qi3 .i64 (fun _=>V.int .i64 1) a _ rfl S h
def Qih (L:List Int):List Int:=L.foldl addN []
theorem QdV {n:Int}:∀ {L S:List Int},n∈L.foldl addN S↔n∈S∨n∈L
 | [],S=>by simp
 | a::L,S=>by
   rw [List.foldl_cons,QdV (L:=L),QrZ,List.mem_cons,or_assoc]
theorem Qi6 {L:List Int}:n∈Qih L↔n∈L:=by rw [Qih,QdV]; simp
def aH (tf tr tm tb:Nat) (v:Int) (F:List (List Int)) (S:List Int):List (Option Ob) :=
 [some (.arr tf 24 [.int .i64 v,.lst 1 (F.map row) false]),some (.arr tr 24 [.int .i64 0,.lst 0 [] true]),some (.map tm (kn S)),some (.arr tb 60 [.mp 2 tm])]
def bH (to tw:Nat) (v:Int) (R:List (List Int)):List (Option Ob):=[some (.arr to 24 [.int .i64 v,.sl 5 tw 0 1 R.length none]),some (.arr tw 25 (R.map row))]
variable {c:List Int} {F:List (List Int)} {tf tr tm tb to i m:Nat}
theorem c_left (hT:Qj P tab) {tw w t:Nat} {R:List (List Int)} {S:List Int} (hb:∀ n∈c,-9223372036854775808≤n∧n≤9223372036854775807) (hl:c.length≤1000000) :
 C P G 0 Xv [.sl 6 w 0 1 c.length none,.fn (.func Zd) [] [.ptr 3 tb 0]] ⟨t,aH tf tr tm tb v F S++bH to tw v R++[some (.arr w 3 (ints c))]⟩
   fun u σ=>u=.lst 1 (ints (c.filter fun n=>!decide (neg n∈S))) false∧∃ t',t≤t'∧σ=⟨t',aH tf tr tm tb v F S++bH to tw v R++[none]⟩:=by
 have h:=Qdl (P:=P) (G:=G) (base:=6) (t:=t) (w:=w) hT (o:=aH tf tr tm tb v F S++bH to tw v R) (c:=c) (lR _) (fun w' cells=>Qey hT (kb:=3) (km:=2) (S:=S) hb rfl rfl) hl
 refine C.wk (base':=6) (zL _) (by simp [aH,bH]) (Qm4 h fun u σ ⟨t',cells,ht,hn,e1,e2⟩=>?_)
 subst e1 e2
 refine ⟨6,w,3,_,lR _,rfl,YR (Xq _) hn,?_,t',ht,?_⟩
 ·simp [YU,Qac,Qb,aH,bH]
 ·simp [Xw,aH,bH]
theorem Qp8 {L:List Int} (h:L[i]?=some n):Qih (L.take (i+1))=addN (Qih (L.take i)) n:=by
 unfold Qih; rw [Qo h,List.foldl_append]; rfl
abbrev aJ (tf tr tb:Nat) (v:Int) (F:List (List Int)) (L:List Int):Nat→Fr→H→Prop:=fun m fr σ=>∃ i t tm,i≤L.length∧m=L.length - i∧Qg fr 1=.lst 1 (ints L) false∧Qg fr 2=.ptr 0 tf 0∧Qg fr 4=.ptr 1 tr 0∧Qg fr 6=.ptr 3 tb 0∧Qg fr 26=.lst 1 (ints L) false∧Qg fr 27=.int .i64 L.length∧Qg fr 28=.int .i64 ((i:Nat):Int)∧σ=⟨t,aH tf tr tm tb v F (Qih (L.take i))⟩
abbrev aE (tf tr tb:Nat) (v:Int) (F:List (List Int)) (L:List Int):AE→Fr→H→Prop:=fun e fr σ=>∃ t tm,e=.ex 0∧Qg fr 1=.lst 1 (ints L) false∧Qg fr 2=.ptr 0 tf 0∧Qg fr 4=.ptr 1 tr 0∧Qg fr 6=.ptr 3 tb 0∧σ=⟨t,aH tf tr tm tb v F (Qih L)⟩
variable {σ:H} {fr:Fr}
theorem QxL (hT:Qj P tab) {L:List Int} (hl:L.length≤1000000) (hJ:aJ tf tr tb v F L m fr σ) :
 W P G 64 0 (zg QvD [] (.seq (zw 29 .skip (.exit 0)) (.seq (.block 1 (zg QvC [30,31] (.reg QvB [32,33]))) (.reg QvA [34])))) fr σ (Y9 (fun fr σ=>∃ m' fr' σ',m'<m∧Shift G 64 0 fr σ fr' σ'∧aJ tf tr tb v F L m' fr' σ') (aE tf tr tb v F L)):=by
 obtain ⟨i,t,tm,hi,rfl,f1,f2,f4,f6,f26,f27,f28,rfl⟩:=hJ
 rcases Nat.lt_or_ge i L.length with hlt | hge
 ·obtain ⟨n,hni⟩:∃ n,L[i]?=some n:=⟨_,List.getElem?_eq_getElem hlt⟩
  have hD:=Yx hni
  have e2:=XP hlt (by omega)
  have h3:=ZQ .i64 (fun _=>.int .i64 1) (Qih (L.take i)) n
  have hput:=QwV (Qih (L.take i)) n
  have hk:=Qp8 hni
  refine Qf [(1,.lst 1 (ints L) false),(2,.ptr 0 tf 0),(4,.ptr 1 tr 0),(6,.ptr 3 tb 0),(26,.lst 1 (ints L) false),(27,.int .i64 L.length),(28,.int .i64 ((i:Nat):Int))] ⟨f1,f2,f4,f6,f26,f27,f28,trivial⟩  1000 ?_
  simp -implicitDefEqProofs (disch:=omega) only [go_sem,↓reduceIte,rq,aH,hlt,hD,kn,hput]
  refine ⟨L.length - (i+1),_,_,by omega,Shift.refl _ _ _ _,i+1,t,tm,by omega,rfl,?_⟩
  simp -implicitDefEqProofs (disch:=omega) only [go_sem,↓reduceIte,rq,aH,e2,kn,hk]
 ·have hi:i=L.length:=by omega
  refine Qf [(1,.lst 1 (ints L) false),(2,.ptr 0 tf 0),(4,.ptr 1 tr 0),(6,.ptr 3 tb 0),(26,.lst 1 (ints L) false),(27,.int .i64 L.length),(28,.int .i64 ((i:Nat):Int))] ⟨f1,f2,f4,f6,f26,f27,f28,trivial⟩  1000 ?_
  simp -implicitDefEqProofs (disch:=omega) only [go_sem,↓reduceIte,rq,aH,hi,Nat.lt_irrefl]
  exact ⟨t,tm,rfl,rfl,rfl,rfl,rfl,by rw [List.take_length]; rfl⟩
theorem QlX {L:List Int} (h:F[i]?=some c):assign (F.take (i+1)) L=assign (F.take i) L++if c.any (fun n=>decide (n∈L)) then [] else [Qdp L c]:=by
 unfold assign
 rw [Qo h,List.filter_append,List.map_append]
 congr 1
 cases hc:c.any fun n=>decide (n∈L) <;> simp [hc]
abbrev bJ (tf tr tm tb to:Nat) (v:Int) (F:List (List Int)) (L:List Int):Nat→Fr→H→Prop:=fun m fr σ=>∃ i t tw,i≤F.length∧m=F.length - i∧Qg fr 2=.ptr 0 tf 0∧Qg fr 4=.ptr 1 tr 0∧Qg fr 6=.ptr 3 tb 0∧Qg fr 9=.ptr 4 to 0∧Qg fr 43=.lst 1 (F.map row) false∧Qg fr 44=.int .i64 F.length∧Qg fr 45=.int .i64 ((i:Nat):Int)∧σ=⟨t,aH tf tr tm tb v F (Qih L)++bH to tw v (assign (F.take i) L)⟩
abbrev bE (tf tr tm tb to:Nat) (v:Int) (F:List (List Int)) (L:List Int):AE→Fr→H→Prop:=fun e fr σ=>∃ t tw,e=.ex 2∧Qg fr 4=.ptr 1 tr 0∧Qg fr 9=.ptr 4 to 0∧σ=⟨t,aH tf tr tm tb v F (Qih L)++bH to tw v (assign F L)⟩
set_option maxHeartbeats 1000000 in
theorem QxF (hT:Qj P tab) {L:List Int} (hF:F.length≤1000) (hc:∀ c∈F,c.length≤1000) (hrt:∀ c∈F,∀ n∈c,-16777216≤n∧n≤16777216) (hJ:bJ tf tr tm tb to v F L m fr σ) :
 W P G 64 0 (zg Qn0 [] (.seq (zw 46 .skip (.exit 2)) (.seq (.block 3 (zg QnZ [47,48] (zg QnY [49,50,51] (zw 52 (.reg QnX [53,54,55,56,57,58,59,60,61]) .skip)))) (.reg QnW [62])))) fr σ (Y9 (fun fr σ=>∃ m' fr' σ',m'<m∧Shift G 64 0 fr σ fr' σ'∧bJ tf tr tm tb to v F L m' fr' σ') (bE tf tr tm tb to v F L)):=by
 obtain ⟨i,t,tw,hi,rfl,f2,f4,f6,f9,f43,f44,f45,rfl⟩:=hJ
 rcases Nat.lt_or_ge i F.length with hlt | hge
 ·obtain ⟨c,hci⟩:∃ c,F[i]?=some c:=⟨_,List.getElem?_eq_getElem hlt⟩
  have hD:=XD hci
  have hcm:=List.mem_of_getElem? hci
  have e2:=XP hlt (by omega)
  have hcl:=hc c hcm
  have hb64:∀ n∈c,-9223372036854775808≤n∧n≤9223372036854775807:=fun n hn=>by have:=hrt c hcm n hn; omega
  have hsn:=QlX (L:=L) hci
  have hany:c.any (fun n=>decide (n∈Qih L))=c.any (fun n=>decide (n∈L)):=by
   congr 1; funext n; simp [Qi6]
  have hfil:c.filter (fun n=>!decide (neg n∈Qih L))=Qdp L c:=by
   unfold Qdp
   refine List.filter_congr fun n hn=>?_
   have hne:n≠mn:=by have:=hrt c hcm n hn; unfold mn; omega
   rw [QdT hne]; simp [Qi6]
  have hsome:=fun t=>QqH (P:=P) (G:=G) (base:=0) (t:=t) hT (Qez (c:=c) hT (kb:=3) (tb:=tb) (T:=60) (km:=2) (vm:=tm) (S:=Qih L) (o:=aH tf tr tm tb v F (Qih L)++bH to tw v (assign (F.take i) L)) rfl rfl) (by omega)
  rw [hany] at hsome
  have hleft:=fun t w=>c_left (P:=P) (G:=G) (t:=t) (w:=w) (tf:=tf) (tr:=tr) (tm:=tm) (tb:=tb) (to:=to) (tw:=tw) (v:=v) (F:=F) (R:=assign (F.take i) L) (S:=Qih L) hT hb64 (by omega)
  rw [hfil] at hleft
  have hRl:(assign (F.take i) L).length≤1000:=by
   unfold assign; rw [lM]
   have:=List.length_filter_le (fun c:List Int=>!c.any fun n=>decide (n∈L)) (F.take i)
   rw [List.length_take] at this
   omega
  generalize assign (F.take i) L=R at *
  cases hcc:c.any fun n=>decide (n∈L) with
  | true =>
    rw [hcc,if_pos rfl,List.append_nil] at hsn
    rw [hcc] at hsome
    refine Qf [(2,.ptr 0 tf 0),(4,.ptr 1 tr 0),(6,.ptr 3 tb 0),(9,.ptr 4 to 0),(43,.lst 1 (F.map row) false),(44,.int .i64 F.length),(45,.int .i64 ((i:Nat):Int))] ⟨f2,f4,f6,f9,f43,f44,f45,trivial⟩  1000 ?_
    simp -implicitDefEqProofs (disch:=omega) only [go_sem,↓reduceIte,rq,aH,bH,hlt,hD]
    refine call hT Q5 (hsome _) 1000 fun u σ hu=>?_
    obtain ⟨rfl,t1,ht1,rfl⟩:=hu
    simp -implicitDefEqProofs (disch:=omega) only [go_sem,↓reduceIte,rq,aH,bH]
    refine ⟨F.length - (i+1),_,_,by omega,Shift.refl _ _ _ _,i+1,t1,tw,by omega,rfl,?_⟩
    simp -implicitDefEqProofs (disch:=omega) only [go_sem,↓reduceIte,rq,aH,bH,e2,hsn]
  | false =>
    rw [hcc,if_neg (by simp)] at hsn
    rw [hcc] at hsome
    refine Qf [(2,.ptr 0 tf 0),(4,.ptr 1 tr 0),(6,.ptr 3 tb 0),(9,.ptr 4 to 0),(43,.lst 1 (F.map row) false),(44,.int .i64 F.length),(45,.int .i64 ((i:Nat):Int))] ⟨f2,f4,f6,f9,f43,f44,f45,trivial⟩  1000 ?_
    simp -implicitDefEqProofs (disch:=omega) only [go_sem,↓reduceIte,rq,aH,bH,hlt,hD]
    refine call hT Q5 (hsome _) 1000 fun u σ hu=>?_
    obtain ⟨rfl,t1,ht1,rfl⟩:=hu
    simp -implicitDefEqProofs (disch:=omega) only [go_sem,↓reduceIte,rA,rq,aH,bH]
    refine And.intro ?_ ?_
    all_goals (refine call hT Qu (QfQ hT c (by omega)) 1000 fun u σ hu=>?_)
    all_goals (obtain ⟨t2,w,ht2,rfl,rfl⟩:=hu)
    all_goals simp -implicitDefEqProofs (disch:=omega) only [go_sem,↓reduceIte,rA,rq]
    all_goals repeat' (first | with_reducible refine And.intro ?_ ?_ | with_reducible intro _)
    all_goals (refine call hT QD (hleft _ _) 1000 fun u σ hu=>?_)
    all_goals (obtain ⟨rfl,t3,ht3,rfl⟩:=hu)
    all_goals simp -implicitDefEqProofs (disch:=omega) only [go_sem,↓reduceIte,reduceCtorEq,rA,rq,rL,aH,bH]
    all_goals repeat' (first | with_reducible refine And.intro ?_ ?_ | with_reducible intro _)
    all_goals (refine ⟨F.length - (i+1),_,_,by omega,Shift.drop (o':=aH tf tr tm tb v F (Qih L)++bH to t3 v (R++[Qdp L c])) (t':=t3+1) (by simp [YF,aH,bH,row]) (lR _) (zL _),i+1,t3+1,t3,by omega,rfl,?_⟩)
    all_goals simp -implicitDefEqProofs (disch:=omega) only [go_sem,↓reduceIte,rq,aH,bH,e2,hsn,lA,List.map_append]
 ·have hi:i=F.length:=by omega
  refine Qf [(2,.ptr 0 tf 0),(4,.ptr 1 tr 0),(6,.ptr 3 tb 0),(9,.ptr 4 to 0),(43,.lst 1 (F.map row) false),(44,.int .i64 F.length),(45,.int .i64 ((i:Nat):Int))] ⟨f2,f4,f6,f9,f43,f44,f45,trivial⟩  1000 ?_
  simp -implicitDefEqProofs (disch:=omega) only [go_sem,↓reduceIte,rq,aH,bH,hi,Nat.lt_irrefl]
  exact ⟨t,tw,rfl,rfl,rfl,by rw [List.take_length]; rfl⟩
theorem Qes:∀ F:List (List Int),Qd (F.map row)=true
 | []=>rfl
 | c::F=>by have:=Qes F; simpa [Qd,nameless,row] using this
def YV (v:Int) (F:List (List Int)) (L:List Int):V :=
 if right v F&&(right v [L]&&!(L.any fun n=>decide (neg n∈L))) then .tup [fml v (assign F L),.bool true] else .tup [fml 0 [],.bool false]
set_option maxHeartbeats 1000000 in
theorem QsA (hT:Qj P tab) (v:Int) (F:List (List Int)) (L:List Int) (hF:F.length≤1000) (hc:∀ c∈F,c.length≤1000) (hl:L.length≤1000) (hb:∀ n∈L,-9223372036854775808≤n∧n≤9223372036854775807) :
 Pure P G Qde [fml v F,row L] fun u=>u=YV v F L:=by
 intro t
 refine Ql1 (Q:=fun u _=>nameless u=true∧((u=.tup [.agg [.int .i64 0,.lst 0 [] true],.bool false]∧YV v F L=.tup [fml 0 [],.bool false])∨u=YV v F L))
  (QaA (Q:=fun u σ=>(u=.tup [.agg [.int .i64 0,.lst 0 [] true],.bool false]∧YV v F L=.tup [fml 0 [],.bool false])∨∃ tw,YV v F L=.tup [fml v (assign F L),.bool true]∧u=.tup [.agg [.int .i64 v,.sl 5 tw 0 1 (assign F L).length none],.bool true]∧σ.o[5]?=some (some (.arr tw 25 ((assign F L).map row)))) ?_ fun u σ hu=>?_) fun u σ hu=>?_
 ·have hR:=Qaw (P:=P) (G:=G) hT v F (by omega) (fun c h=>by have:=hc c h; omega)
  have hR2:=Qaw (P:=P) (G:=G) hT v [L] (by simp) (fun c h=>by simp at h; subst h; omega)
  simp only [fml,rows,row,List.map_cons,List.map_nil] at hR hR2 ⊢
  refine QF hT Qc6 (by simp [Zh]) (Qx 12 ?_)
  have hR3:Pure P G ZG [.agg [.int .i64 v,.lst 1 [.lst 1 (ints L) false] true]] fun u=>u=.bool (right v [L]) :=
   hR2.args (.cons _ _ _ _ (.agg _ _ (.cons _ _ _ _ (.refl _) (.cons _ _ _ _ (.lst _ _ _ _ _ (.refl _) (.inr rfl)) .nil))) .nil)
  have hnF:Qd [V.agg [V.int .i64 v,V.lst 1 (F.map row) false]]=true:=by simp [Qd,nameless]
  have hnL:Qd [V.agg [V.int .i64 v,V.lst 1 [V.lst 1 (ints L) false] true]]=true:=by simp [Qd,nameless]
  cases hr:right v F with
  | false =>
    have hav:YV v F L=.tup [fml 0 [],.bool false]:=by unfold YV; rw [hr]; rfl
    simp only [fml,rows,List.map_nil] at hav
    rw [hr] at hR
    simp -implicitDefEqProofs (disch:=omega) only [go_sem,↓reduceIte,reduceCtorEq,rA,rq]
    refine Qi hT Ql hR hnF 2 ?_
    simp -implicitDefEqProofs (disch:=omega) only [go_sem,↓reduceIte,reduceCtorEq,rq]
    iterate 9 (try (refine Qc 2 ?_; simp -implicitDefEqProofs (disch:=omega) only [go_sem,↓reduceIte,reduceCtorEq,rA,rq,and_true]))
    try refine Qc 1000 ?_
    try simp -implicitDefEqProofs (disch:=omega) only [go_sem,↓reduceIte,reduceCtorEq,rA,rq]
    exact .inl hav
  | true =>
    rw [hr] at hR
    cases hr2:right v [L] with
    | false =>
      have hav:YV v F L=.tup [fml 0 [],.bool false]:=by unfold YV; rw [hr,hr2]; rfl
      simp only [fml,rows,List.map_nil] at hav
      rw [hr2] at hR3
      simp -implicitDefEqProofs (disch:=omega) only [go_sem,↓reduceIte,reduceCtorEq,rA,rq]
      refine Qi hT Ql hR hnF 2 ?_
      simp -implicitDefEqProofs (disch:=omega) only [go_sem,↓reduceIte,reduceCtorEq,rq]
      iterate 5 (try (refine Qc 2 ?_; simp -implicitDefEqProofs (disch:=omega) only [go_sem,↓reduceIte,reduceCtorEq,rA,rq,rL,true_implies,and_true]))
      refine Qi hT Ql hR3 hnL 2 ?_
      simp -implicitDefEqProofs (disch:=omega) only [go_sem,↓reduceIte,reduceCtorEq,rA,rq]
      iterate 5 (try (refine Qc 2 ?_; simp -implicitDefEqProofs (disch:=omega) only [go_sem,↓reduceIte,reduceCtorEq,rA,rq,and_true]))
      try refine Qc 1000 ?_
      try simp -implicitDefEqProofs (disch:=omega) only [go_sem,↓reduceIte,reduceCtorEq,rA,rq]
      exact .inl hav
    | true =>
      rw [hr2] at hR3
      have hrt:=(Xe.1 hr)
      simp -implicitDefEqProofs (disch:=omega) only [go_sem,↓reduceIte,reduceCtorEq,rA,rq]
      refine Qi hT Ql hR hnF 2 ?_
      simp -implicitDefEqProofs (disch:=omega) only [go_sem,↓reduceIte,reduceCtorEq,rq]
      iterate 5 (try (refine Qc 2 ?_; simp -implicitDefEqProofs (disch:=omega) only [go_sem,↓reduceIte,reduceCtorEq,rA,rq,rL,true_implies,and_true]))
      refine Qi hT Ql hR3 hnL 2 ?_
      simp -implicitDefEqProofs (disch:=omega) only [go_sem,↓reduceIte,reduceCtorEq,rA,rq]
      iterate 2 (try (refine Qc 2 ?_; simp -implicitDefEqProofs (disch:=omega) only [go_sem,↓reduceIte,reduceCtorEq,rq]))
      try refine Qc 1000 ?_
      try simp -implicitDefEqProofs (disch:=omega) only [go_sem,↓reduceIte,reduceCtorEq,rA,rq]
      refine ⟨rfl,?_⟩
      refine QC (aJ t (t+1) (t+1+1+1) v F L) (aE t (t+1) (t+1+1+1) v F L) (m0:=L.length) ⟨0,t+1+1+1+1,t+1+1,by omega,rfl,?_⟩ (fun m fr σ hJ=>QxL hT (by omega) hJ) (fun e fr σ hE=>?_)
      ·simp -implicitDefEqProofs (disch:=omega) only [go_sem,↓reduceIte,reduceCtorEq,rq,aH]
       exact ⟨rfl,rfl⟩
      ·obtain ⟨t1,tm,rfl,f1,f2,f4,f6,rfl⟩:=hE
       have hsome:=QqH (P:=P) (G:=G) (base:=0) (t:=t1) hT (QeA (c:=L) hT (kb:=3) (tb:=t+1+1+1) (T:=60) (km:=2) (vm:=tm) (S:=Qih L) hb (o:=aH t (t+1) tm (t+1+1+1) v F (Qih L)) rfl rfl) (by omega)
       have hany:L.any (fun n=>decide (neg n∈Qih L))=L.any (fun n=>decide (neg n∈L)):=by
        congr 1; funext n; simp [Qi6]
       rw [hany] at hsome
       refine Qc 1000 ?_
       simp -implicitDefEqProofs (disch:=omega) only [go_sem,↓reduceIte,rq,aH,f1,f6]
       refine call hT Q5 hsome 1000 fun u σ hu=>?_
       obtain ⟨rfl,t2,ht2,rfl⟩:=hu
       cases hcc:L.any fun n=>decide (neg n∈L) with
       | true =>
         have hav:YV v F L=.tup [fml 0 [],.bool false]:=by unfold YV; rw [hr,hr2,hcc]; rfl
         simp only [fml,rows,List.map_nil] at hav
         simp -implicitDefEqProofs (disch:=omega) only [go_sem,↓reduceIte,reduceCtorEq,rA,rq,aH,f4]
         exact .inl hav
       | false =>
         have hav:YV v F L=.tup [fml v (assign F L),.bool true]:=by unfold YV; rw [hr,hr2,hcc]; rfl
         simp only [fml,rows] at hav
         simp -implicitDefEqProofs (disch:=omega) only [go_sem,↓reduceIte,rA,rq,rL,aH,f2]
         refine ZL (HShift.shift (HShift.ownAt 1 25 (k:=4) (p:=1) (zL _) rfl rfl)) ?_
         simp -implicitDefEqProofs (disch:=omega) only [go_sem,rA,List.set_cons_succ,List.set_cons_zero]
         refine QC (bJ t (t+1) tm (t+1+1+1) t2 v F L) (bE t (t+1) tm (t+1+1+1) t2 v F L) (m0:=F.length) ⟨0,t2+1+1,t2+1,by omega,rfl,?_⟩ (fun m fr σ hJ=>QxF hT hF hc (fun c h n hn=>by have:=hrt.2 c h n hn; omega) hJ) (fun e fr σ hE=>?_)
         ·simp -implicitDefEqProofs (disch:=omega) only [go_sem,↓reduceIte,rq,aH,bH,f2,f4,f6]
          exact ⟨rfl,rfl⟩
         ·obtain ⟨t3,tw,rfl,f4,f9,rfl⟩:=hE
          refine Qc 1000 ?_
          simp -implicitDefEqProofs (disch:=omega) only [go_sem,↓reduceIte,reduceCtorEq,rA,rq,aH,bH,f4,f9]
          exact .inr ⟨tw,hav,rfl,rfl⟩
 ·rcases hu with ⟨rfl,hu⟩ | ⟨tw,hr,rfl,ho⟩
  ·exact .inl ⟨rfl,.inl ⟨rfl,hu⟩⟩
  ·refine .inr ⟨5,tw,25,_,zL _,ho,?_,?_,.inr ?_⟩
   ·exact Qes _
   ·simp [YU,Qgd,nameless,Qd]
   ·rw [hr]
    simp [YU,Qgd,Qac,fml,rows]
    rw [List.take_of_length_le (by simp)]
 ·rcases hu with ⟨hn,⟨rfl,hu⟩ | rfl⟩
  ·exact ⟨.tup [fml 0 [],.bool false],.tup _ _ (.cons _ _ _ _ (.agg _ _ (.cons _ _ _ _ (.refl _) (.cons _ _ _ _ (.lst _ _ _ _ _ .nil (.inl rfl)) .nil))) (.cons _ _ _ _ (.refl _) .nil)),rfl,by rw [hu]⟩
  ·exact ⟨_,.refl _,hn,rfl⟩
end
end Go.Proofs.Ytingdebioipemaa
namespace Go.Proofs.Ytingdebioipemaa
open Go Go.Am Go.Cl
set_option maxRecDepth 100000
variable {G:Nat→Option V}
section
attribute [local go_sem] nF nT cA lC lM lN nA aZ lR Nat.mul_one Nat.one_mul Nat.succ_ne_zero zA zL Nat.zero_mul Option.getD_none Option.getD_some Option.isSome_none Option.isSome_some beq_self_eq_true bne_self_eq_false decide_false decide_true ge_iff_le gt_iff_lt Qb Qt Qan zqa_0 zqa_1 Qoi Qoh Qs3 Qs2 Qs1 zqa_2 zqa_3 zqa_4 zqa_5 zqa_6 zqa_7 Qv7 Qv6
variable {σ:H} {fr:Fr}
theorem QrH {P:Program} {n base:Nat} {Q:AE→Fr→H→Prop} {s:List KI} {e:AE} (h:sem P G n base Q s e fr σ):run P G n base Q 0 s e fr σ:=h
def fH (tf tw:Nat) (v:Int) (F:List (List Int)) (cells:List V):List (Option Ob):=[some (.arr tf 24 [.int .i64 v,.lst 1 (F.map row) false]),some (.arr tw 3 cells)]
abbrev fJ (tf tw t:Nat) (v:Int) (F:List (List Int)) (q:List Int):Nat→Fr→H→Prop:=fun m fr σ=>∃ i,i≤q.length∧m=q.length - i∧Qg fr 2=.ptr 0 tf 0∧Qg fr 7=.sl 1 tw 0 1 q.length none∧Qg fr 36=.lst 1 (ints q) false∧Qg fr 37=.int .i64 q.length∧Qg fr 38=.int .i64 ((i:Nat):Int)∧σ=⟨t,fH tf tw v F (ints ((q.take i).map fun n=>-n)++ints (List.replicate (q.length - i) 0))⟩
abbrev fE (tf tw t:Nat) (v:Int) (F:List (List Int)) (q:List Int):AE→Fr→H→Prop:=fun e fr σ=>e=.ex 0∧Qg fr 2=.ptr 0 tf 0∧Qg fr 7=.sl 1 tw 0 1 q.length none∧σ=⟨t,fH tf tw v F (ints (q.map fun n=>-n))⟩
variable {F:List (List Int)} {v:Int}
theorem Qxb {P:Program} (hT:Qj P tab) {tf tw t:Nat} {q:List Int} (hq:∀ n∈q,-16777216≤n∧n≤16777216) (hl:q.length≤1000000) {m:Nat} (hJ:fJ tf tw t v F q m fr σ) :
 W P G 62 0 (zg Qv7 [] (.seq (zw 39 .skip (.exit 0)) (.seq (.block 1 (zg Qv6 [40,41,42] (.reg Qoi [43,44,45,46,47]))) (.reg Qoh [48])))) fr σ (Y9 (fun fr σ=>∃ m' fr' σ',m'<m∧Shift G 62 0 fr σ fr' σ'∧fJ tf tw t v F q m' fr' σ') (fE tf tw t v F q)):=by
 obtain ⟨i,hi,rfl,f2,f7,f36,f37,f38,rfl⟩:=hJ
 rcases Nat.lt_or_ge i q.length with hlt | hge
 ·obtain ⟨n,hni⟩:∃ n,q[i]?=some n:=⟨_,List.getElem?_eq_getElem hlt⟩
  have hD:=Yx hni
  have e2:=XP hlt (by omega)
  have hn:=hq n (List.mem_of_getElem? hni)
  have hneg:IntKind.i64.wrap (0 - n)=-n:=by
   rw [QdQ (by omega),QdT (by unfold mn; omega)]
  have hlen:(ints ((q.take i).map fun n=>-n)++ints (List.replicate (q.length - i) 0)).length=q.length:=by simp [ints]; omega
  have hset:∀ L:List V,L=ints ((q.take i).map fun n=>-n)++ints (List.replicate (q.length - i) 0)→L.take i++[V.int .i64 (-n)]++L.drop (i+1)=ints ((q.take (i+1)).map fun n=>-n)++ints (List.replicate (q.length - (i+1)) 0):=fun L hL=>by
   have h1:(ints ((q.take i).map fun n=>-n)).length=i:=by simp [ints]; omega
   have h2:List.replicate (q.length - i) (0:Int)=0::List.replicate (q.length - (i+1)) 0:=by
    rw [show q.length - i=(q.length - (i+1))+1 by omega,List.replicate_succ]
   rw [hL,List.take_append_of_le_length (by omega),List.take_of_length_le (by omega),List.drop_append,List.drop_eq_nil_of_le (by omega),h2,Qo hni,h1]
   simp [ints]
  generalize ints ((q.take i).map fun n=>-n)++ints (List.replicate (q.length - i) 0)=L at *
  have hset:=hset L rfl
  refine Qf [(2,.ptr 0 tf 0),(7,.sl 1 tw 0 1 q.length none),(36,.lst 1 (ints q) false),(37,.int .i64 q.length),(38,.int .i64 ((i:Nat):Int))] ⟨f2,f7,f36,f37,f38,trivial⟩  1000 ?_
  simp -implicitDefEqProofs (disch:=omega) only [go_sem,↓reduceIte,rq,fH,hlt,hD,hneg,hlen]
  refine ⟨q.length - (i+1),_,_,by omega,Shift.refl _ _ _ _,i+1,by omega,rfl,?_⟩
  simp -implicitDefEqProofs (disch:=omega) only [go_sem,↓reduceIte,rq,fH,e2,hset]
 ·have hi:i=q.length:=by omega
  refine Qf [(2,.ptr 0 tf 0),(7,.sl 1 tw 0 1 q.length none),(36,.lst 1 (ints q) false),(37,.int .i64 q.length),(38,.int .i64 ((i:Nat):Int))] ⟨f2,f7,f36,f37,f38,trivial⟩  1000 ?_
  simp -implicitDefEqProofs (disch:=omega) only [go_sem,↓reduceIte,rq,hi,Nat.lt_irrefl]
  exact ⟨rfl,rfl,rfl,by rw [List.take_length,Nat.sub_self]; simp [ints]⟩
variable {c:List Int}
theorem Qg4 (h:right v F=true):right v [c]=c.all (XI v):=by
 have h:=(Xe.1 h).1
 simp [right,h.1,h.2.1]
theorem QjO {L:List Int} (h:right v F=true):right v (assign F L)=true:=by
 obtain ⟨⟨a,b,c⟩,d⟩:=Xe.1 h
 have hl:(assign F L).length≤F.length:=by unfold assign; rw [lM]; exact List.length_filter_le _ _
 refine Xe.2 ⟨⟨a,b,by omega⟩,fun x hx n hn=>?_⟩
 obtain ⟨y,hy,rfl⟩:=List.mem_map.1 hx
 exact d y (List.mem_filter.1 hy).1 n (List.mem_filter.1 hn).1
theorem QnN {L:List Int} {k:Nat} (hc:∀ c∈F,c.length≤k):∀ c∈assign F L,c.length≤k:=fun c h=>by
 obtain ⟨y,hy,rfl⟩:=List.mem_map.1 h
 exact Nat.le_trans (List.length_filter_le _ _) (hc y (List.mem_filter.1 hy).1)
theorem QqG:(canon c).length≤c.length:=by
 unfold canon
 rw [ZK]
 exact Qeu (Qgw c) fun n hn=>Qf2.1 hn
set_option maxHeartbeats 1000000 in
theorem YP (hT:Qj Try.prog tab) (v:Int) (F:List (List Int)) (c:List Int) (hF:F.length≤1000) (hc:∀ c∈F,c.length≤1000) (hl:c.length≤1000) (hb:∀ n∈c,-9223372036854775808≤n∧n≤9223372036854775807) :
 Pure Try.prog G Qad [fml v F,row c] fun u=>u=.bool (follows v F c):=by
 intro t
 have hR:=Qaw (P:=Try.prog) (G:=G) hT v F (by omega) (fun c h=>by have:=hc c h; omega)
 have hR2:=Qaw (P:=Try.prog) (G:=G) hT v [c] (by simp) (fun c h=>by simp at h; subst h; omega)
 have hC:=Qxy (G:=G) hT c hb (by omega)
 simp only [fml,rows,row,List.map_cons,List.map_nil] at hR hR2 hC ⊢
 have hR3:Pure Try.prog G ZG [.agg [.int .i64 v,.lst 1 [.lst 1 (ints c) false] true]] fun u=>u=.bool (right v [c]) :=
  hR2.args (.cons _ _ _ _ (.agg _ _ (.cons _ _ _ _ (.refl _) (.cons _ _ _ _ (.lst _ _ _ _ _ (.refl _) (.inr rfl)) .nil))) .nil)
 have hnF:Qd [V.agg [V.int .i64 v,V.lst 1 (F.map row) false]]=true:=by simp [Qd,nameless]
 have hnL:Qd [V.agg [V.int .i64 v,V.lst 1 [V.lst 1 (ints c) false] true]]=true:=by simp [Qd,nameless]
 refine XU 0 (zL _) (QF hT QG (by simp [Qan]) (Qx 12 ?_))
 cases hr:right v F with
 | false =>
   have hf:follows v F c=false:=by simp [follows,hr]
   rw [hr] at hR
   simp -implicitDefEqProofs (disch:=omega) only [go_sem,↓reduceIte,reduceCtorEq,rA,rq]
   refine Qi hT Ql hR hnF 2 ?_
   simp -implicitDefEqProofs (disch:=omega) only [go_sem,↓reduceIte,reduceCtorEq,rq]
   iterate 9 (try (refine Qc 2 ?_; simp -implicitDefEqProofs (disch:=omega) only [go_sem,↓reduceIte,reduceCtorEq,rq,true_and]))
   try refine Qc 1000 ?_
   try simp -implicitDefEqProofs (disch:=omega) only [go_sem,↓reduceIte,reduceCtorEq,rA,rq,rL,rTq,Nat.reduceSub,Nat.reduceMul,Int.reduceToNat,Int.reduceLE,Int.reduceLT,Int.reduceEq,Int.reduceNe,Nat.reduceBEq,Nat.reduceBNe]
   rw [hf]
 | true =>
   rw [hr] at hR
   cases hr2:c.all (XI v) with
   | false =>
     have hf:follows v F c=false:=by simp [follows,hr,hr2]
     rw [Qg4 hr,hr2] at hR3
     simp -implicitDefEqProofs (disch:=omega) only [go_sem,↓reduceIte,reduceCtorEq,rA,rq]
     refine Qi hT Ql hR hnF 2 ?_
     simp -implicitDefEqProofs (disch:=omega) only [go_sem,↓reduceIte,reduceCtorEq,rq]
     iterate 5 (try (refine Qc 2 ?_; simp -implicitDefEqProofs (disch:=omega) only [go_sem,↓reduceIte,reduceCtorEq,rA,rq,rL,true_implies,and_true]))
     refine Qi hT Ql hR3 hnL 2 ?_
     simp -implicitDefEqProofs (disch:=omega) only [go_sem,↓reduceIte,reduceCtorEq,rA,rq]
     iterate 5 (try (refine Qc 2 ?_; simp -implicitDefEqProofs (disch:=omega) only [go_sem,↓reduceIte,reduceCtorEq,rq,true_and]))
     try refine Qc 1000 ?_
     try simp -implicitDefEqProofs (disch:=omega) only [go_sem,↓reduceIte,reduceCtorEq,rA,rq,rL,rTq,Nat.reduceSub,Nat.reduceMul,Int.reduceToNat,Int.reduceLE,Int.reduceLT,Int.reduceEq,Int.reduceNe,Nat.reduceBEq,Nat.reduceBNe]
     rw [hf]
   | true =>
     have hrt:=(Xe.1 hr)
     rw [Qg4 hr,hr2] at hR3
     cases hbad:bad c with
     | true =>
       have hf:follows v F c=true:=by simp [follows,hr,hr2,hbad]
       have hcl:Qs c=([],false):=by rw [Qs,hbad]; rfl
       rw [hcl] at hC
       simp -implicitDefEqProofs (disch:=omega) only [go_sem,↓reduceIte,reduceCtorEq,rA,rq]
       refine Qi hT Ql hR hnF 2 ?_
       simp -implicitDefEqProofs (disch:=omega) only [go_sem,↓reduceIte,reduceCtorEq,rq]
       iterate 5 (try (refine Qc 2 ?_; simp -implicitDefEqProofs (disch:=omega) only [go_sem,↓reduceIte,reduceCtorEq,rA,rq,rL,true_implies,and_true]))
       refine Qi hT Ql hR3 hnL 2 ?_
       simp -implicitDefEqProofs (disch:=omega) only [go_sem,↓reduceIte,reduceCtorEq,rA,rq]
       iterate 2 (try (refine Qc 2 ?_; simp -implicitDefEqProofs (disch:=omega) only [go_sem,↓reduceIte,reduceCtorEq,rq]))
       try refine Qc 1000 ?_
       try simp -implicitDefEqProofs (disch:=omega) only [go_sem,↓reduceIte,reduceCtorEq,rq]
       refine Qi hT YI hC (by simp [Qd,nameless]) 1000 ?_
       simp -implicitDefEqProofs (disch:=omega) only [go_sem,↓reduceIte,reduceCtorEq,rA,rq,rTq]
       rw [hf]
     | false =>
       have hcl:Qs c=(canon c,true):=by rw [Qs,hbad]; rfl
       rw [hcl] at hC
       have hf:follows v F c=(Z9 (assign F ((canon c).map fun n=>-n))).isNone:=by
        rw [Qna (Qet hr) hbad]; simp [follows,hr,hr2,hbad]
       have hbn:=QlS hbad
       have hlit:∀ n∈c,n≠0∧-v≤n∧n≤v:=by simpa [XI] using hr2
       have hcl2:=QqG (c:=c)
       have hq:∀ n∈canon c,-16777216≤n∧n≤16777216:=fun n hn=>by
        have:=hlit n (Qaq.1 hn); have:=hrt.1; omega
       have hqn:∀ n∈(canon c).map (fun n=>-n),-9223372036854775808≤n∧n≤9223372036854775807:=fun n hn=>by
        obtain ⟨m,hm,rfl⟩:=List.mem_map.1 hn
        have:=hq m hm; omega
       have hA:=QsA (P:=Try.prog) (G:=G) hT v F ((canon c).map fun n=>-n) hF hc (by simp; omega) hqn
       have hav:YV v F ((canon c).map fun n=>-n)=.tup [fml v (assign F ((canon c).map fun n=>-n)),.bool true]:=by
        have h1:right v [(canon c).map fun n=>-n]=true:=by
         rw [Qg4 hr]
         simp only [XI,List.all_eq_true,List.mem_map,decide_eq_true_eq]
         rintro x ⟨m,hm,rfl⟩
         have:=hlit m (Qaq.1 hm); omega
        have h2:(((canon c).map fun n=>-n).any fun n=>decide (neg n∈(canon c).map fun n=>-n))=false:=by
         rw [List.any_eq_false]
         intro x hx
         obtain ⟨m,hm,rfl⟩:=List.mem_map.1 hx
         have hqm:=hq m hm
         rw [QdT (by unfold mn; omega),decide_eq_true_eq]
         intro hh
         obtain ⟨k,hk,e⟩:=List.mem_map.1 hh
         have:k=-m:=by omega
         exact (hbn m (Qaq.1 hm)).2.2 (this▸Qaq.1 hk)
        unfold YV
        rw [hr,h1,h2]; rfl
       rw [hav] at hA
       have hU:=Qxu (P:=Try.prog) (G:=G) hT sortU v (assign F ((canon c).map fun n=>-n)) (by
        have:(assign F ((canon c).map fun n=>-n)).length≤F.length:=by unfold assign; rw [lM]; exact List.length_filter_le _ _
        omega) (QnN hc)
       rw [QjO hr,if_pos rfl] at hU
       rw [hf]
       generalize assign F ((canon c).map fun n=>-n)=B at hA hU ⊢
       generalize canon c=q at *
       simp only [fml,rows,row] at hA hU
       simp -implicitDefEqProofs (disch:=omega) only [go_sem,↓reduceIte,reduceCtorEq,rA,rq]
       refine Qi hT Ql hR hnF 2 ?_
       simp -implicitDefEqProofs (disch:=omega) only [go_sem,↓reduceIte,reduceCtorEq,rq]
       iterate 5 (try (refine Qc 2 ?_; simp -implicitDefEqProofs (disch:=omega) only [go_sem,↓reduceIte,reduceCtorEq,rA,rq,rL,true_implies,and_true]))
       refine Qi hT Ql hR3 hnL 2 ?_
       simp -implicitDefEqProofs (disch:=omega) only [go_sem,↓reduceIte,reduceCtorEq,rA,rq]
       iterate 2 (try (refine Qc 2 ?_; simp -implicitDefEqProofs (disch:=omega) only [go_sem,↓reduceIte,reduceCtorEq,rq]))
       try refine Qc 1000 ?_
       try simp -implicitDefEqProofs (disch:=omega) only [go_sem,↓reduceIte,reduceCtorEq,rq]
       refine Qi hT YI hC (by simp [Qd,nameless]) 1000 ?_
       simp -implicitDefEqProofs (disch:=omega) only [go_sem,↓reduceIte,reduceCtorEq,rA,rq,rTq]
       refine QC (fJ t (t+1) (t+1+1) v F q) (fE t (t+1) (t+1+1) v F q) (m0:=q.length) ⟨0,by omega,rfl,?_⟩ (fun m fr σ hJ=>Qxb hT hq (by omega) hJ) (fun e fr σ hE=>?_)
       ·simp -implicitDefEqProofs (disch:=omega) only [go_sem,↓reduceIte,reduceCtorEq,rq]
        simp [fH,ints]
        try (induction q.length with | zero=>rfl | succ k ih=>rw [List.replicate_succ,List.flatten_cons,ih,List.replicate_succ]; rfl)
       ·obtain ⟨rfl,f2,f7,rfl⟩:=hE
        refine Qc 1 ?_
        simp -implicitDefEqProofs (disch:=omega) only [go_sem,↓reduceIte]
        refine QrH ?_
        refine QjK [(2,.ptr 0 t 0),(7,.sl 1 (t+1) 0 1 q.length none)] ⟨f2,f7,trivial⟩ ?_
        refine ZL (Shift.freeze (k:=1) (v:=t+1) (T:=3) (cs:=ints (q.map fun n=>-n)) (zL _) rfl (Xq _)) ?_
        have hz:List.take q.length (ints (q.map fun n=>-n))=ints (q.map fun n=>-n):=List.take_of_length_le (by simp [ints])
        simp only [Qij,Qj4,YU,Qac,fH,Xw,Ob.mapV,List.set_cons_succ,List.set_cons_zero,Option.map_some,Option.map_none,List.map_cons,List.map_nil,Qb,lM]
        refine Qc 1000 ?_
        simp -implicitDefEqProofs (disch:=omega) only [go_sem,↓reduceIte,reduceCtorEq,rA,rq,hz]
        refine Qi hT Qc6 hA (by simp [Qd,nameless]) 1000 ?_
        simp -implicitDefEqProofs (disch:=omega) only [go_sem,↓reduceIte,reduceCtorEq,rA,rq,rTq]
        have hnB:Qd [V.agg [V.int .i64 v,V.lst 1 (B.map row) false]]=true:=by simp [Qd,nameless]
        cases hu:Z9 B with
        | none =>
          rw [hu] at hU
          simp only at hU
          refine Qi hT Qa0 hU hnB 1000 ?_
          simp -implicitDefEqProofs (disch:=omega) only [go_sem,↓reduceIte,rA,rq,rTq]
          simp
        | some l =>
          rw [hu] at hU
          simp only at hU
          refine Qi hT Qa0 hU hnB 1000 ?_
          simp -implicitDefEqProofs (disch:=omega) only [go_sem,↓reduceIte,rA,rq,rTq]
          simp
end
end Go.Proofs.Ytingdebioipemaa
