/- Contracts: clean clauses. -/
import Derived.Test.YtingdebioipemaaGreatDoorSh3
import Derived.Test.YtingdebioipemaaGreatDoorJ4
open Nat renaming reduceEqDiff → rq, reduceAdd → rA, reduceLeDiff → rL, reduceLT → rT, zero_add → zA, le_refl → lR, zero_le → zL, add_zero → aZ
open List renaming length_cons → lC, length_nil → lN, take_succ_cons → tS, length_append → lAq, nil_append → nAq, cons_append → cAq, append_assoc → aA, take_nil → tN, take_zero → tZ, length_map → lM
open Bool renaming not_false → nFq, not_true → nT
namespace Go.Proofs.YtingdebioipemaaGreatDoor
open Go Go.Am Go.Cl
set_option maxRecDepth 100000
variable {G:Nat→Option V}
section
attribute [local go_sem] nFq nT lAq aZ lR Nat.mul_one Nat.one_mul Nat.succ_ne_zero zA zL Nat.zero_mul Option.getD_none Option.getD_some Option.isSome_none Option.isSome_some beq_self_eq_true bne_self_eq_false Qac zqe_0 zqe_1 Qvn zqe_2 zqe_3 zqe_4 QzK QzJ QzI QzH QzG decide_false decide_true ge_iff_le gt_iff_lt Qe Qt
def QiP (q:List Int) (i:Nat):Bool:=chk (if i=0 then none else q[i - 1]?) (q.drop i)
theorem QsX (q:List Int):QiP q q.length=false:=by
 unfold QiP; rw [List.drop_length]; rfl
variable {n:Int} {q:List Int}
theorem QoY {i:Nat} (h:q[i]?=some n):QiP q i=((decide (n=0) || decide (n=mn) || decide ((if i=0 then none else q[i - 1]?)=some (neg n))) || QiP q (i+1)):=by
 have hl:=(List.getElem?_eq_some_iff.1 h).1
 have hd:q.drop i=n::q.drop (i+1):=by
  rw [List.drop_eq_getElem_cons hl]
  congr 1
  exact (List.getElem?_eq_some_iff.1 h).2
 unfold QiP
 rw [hd,chk,if_neg (by omega:¬ i+1=0),Nat.add_sub_cancel,h]
theorem Qt1 (h:-9223372036854775808≤n∧n≤9223372036854775807):(n<0∧n=neg n)↔n=mn:=by
 unfold neg mn; split <;> omega
abbrev clJ (c q:List Int) (w t:Nat) (cells:List V):Nat→Fr→H→Prop:=fun m fr σ=>∃ i,i≤q.length∧m=q.length - i∧QiP q i=chk none q∧Qi fr 4=.sl 0 w 0 1 q.length none∧Qi fr 13=.sl 0 w 0 1 q.length none∧Qi fr 14=.int .i64 q.length∧Qi fr 15=.int .i64 i∧σ=⟨t,[some (.arr w 3 (ints q++cells))]⟩
abbrev clE (c q:List Int) (w t:Nat) (cells:List V):AE→Fr→H→Prop:=fun e fr σ=>(e=.ret∧chk none q=true∧Qi fr 2=.lst 0 [] true∧Qi fr 3=.bool false)∨(e=.ex 0∧chk none q=false∧Qi fr 4=.sl 0 w 0 1 q.length none∧σ=⟨t,[some (.arr w 3 (ints q++cells))]⟩)
theorem QmM {P:Program} (hT:Qn P tab) {c:List Int} {w t:Nat} {cells:List V} (hb:∀ n∈q,-9223372036854775808≤n∧n≤9223372036854775807) (hl:q.length≤1000000) {m:Nat} {fr:Fr} {σ:H} (hJ:clJ c q w t cells m fr σ) :
 W P G 48 0 (zg QzK [] (.seq (zw 16 .skip (.exit 0)) (.seq (.block 1 (zg QzJ [17,18,19] (zg QzI [20,21,22,23,24,25,26,27,28,29,30,31,32,33,34,35,36,37,38,39,40,41,42,43,44] (zw 45 (zg QzH [] .ret) .skip)))) (.reg QzG [46])))) fr σ (ZB (fun fr σ=>∃ m' fr' σ',m'<m∧Shift G 48 0 fr σ fr' σ'∧clJ c q w t cells m' fr' σ') (clE c q w t cells)):=by
 obtain ⟨i,hi,rfl,hok,f4,f13,f14,f15,rfl⟩:=hJ
 rcases Nat.lt_or_ge i q.length with hlt | hge
 ·obtain ⟨n,hni⟩:∃ n,q[i]?=some n:=⟨_,List.getElem?_eq_getElem hlt⟩
  have hD:=QaQ cells hni
  have hbn:=hb n (List.mem_of_getElem? hni)
  have e2:=YR hlt (by omega)
  have hneg:=QkU hbn
  have hns:=Qt1 hbn
  have hch:=QoY hni
  rw [hok] at hch
  by_cases g1:n=0
  ·have hbadE:chk none q=true:=by rw [hch]; simp [g1]
   have g1':(n==0)=true:=by simpa using g1
   refine Qh [(4,.sl 0 w 0 1 q.length none),(13,.sl 0 w 0 1 q.length none),(14,.int .i64 q.length),(15,.int .i64 i)] ⟨f4,f13,f14,f15,trivial⟩  14 ?_
   simp -implicitDefEqProofs (disch:=omega) only [go_sem,↓reduceIte,rq,true_implies,true_and,and_true,hlt,hD]
   iterate 24 (try (refine Qc 2 ?_; simp -implicitDefEqProofs (disch:=omega) only [go_sem,↓reduceIte,rq,g1']))
   try refine Qc 9 ?_
   try simp -implicitDefEqProofs (disch:=omega) only [go_sem,↓reduceIte,reduceCtorEq,rA,rq,rL,rT,Nat.reduceSub,Nat.reduceMul,Int.reduceToNat,Int.reduceLE,Int.reduceLT,Int.reduceEq,Int.reduceNe,Nat.reduceBEq,Nat.reduceBNe,false_implies,true_implies,true_and,and_true,not_true_eq_false,not_false_eq_true]
   exact .inl ⟨rfl,hbadE,rfl,rfl⟩
  have g1':(n==0)=false:=by simpa using g1
  by_cases g2:n=mn
  ·have hbadE:chk none q=true:=by rw [hch]; simp [g2]
   obtain ⟨g3,g4⟩:=hns.2 g2
   have g4':(n==neg n)=true:=by simpa using g4
   have g3':decide (n<0)=true:=by simpa using g3
   refine Qh [(4,.sl 0 w 0 1 q.length none),(13,.sl 0 w 0 1 q.length none),(14,.int .i64 q.length),(15,.int .i64 i)] ⟨f4,f13,f14,f15,trivial⟩  14 ?_
   simp -implicitDefEqProofs (disch:=omega) only [go_sem,↓reduceIte,rq,true_implies,true_and,and_true,hlt,hD]
   iterate 24 (try (refine Qc 2 ?_; simp -implicitDefEqProofs (disch:=omega) only [go_sem,↓reduceIte,rA,rq,hneg,g1',g4',g3]))
   try refine Qc 9 ?_
   try simp -implicitDefEqProofs (disch:=omega) only [go_sem,↓reduceIte,reduceCtorEq,rA,rq,rL,rT,Nat.reduceSub,Nat.reduceMul,Int.reduceToNat,Int.reduceLE,Int.reduceLT,Int.reduceEq,Int.reduceNe,Nat.reduceBEq,Nat.reduceBNe,false_implies,true_implies,true_and,and_true,not_true_eq_false,not_false_eq_true]
   exact .inl ⟨rfl,hbadE,rfl,rfl⟩
  have h4:n<0→(n==neg n)=false:=fun h=>by
   rw [beq_eq_false_iff_ne]; exact fun e=>g2 (hns.1 ⟨h,e⟩)
  by_cases g3:n<0
  ·have g3':decide (n<0)=true:=by simpa using g3
   have g4':=h4 g3
   rcases Nat.eq_zero_or_pos i with hz | hp
   ·have hgood:QiP q (i+1)=chk none q:=by rw [hch]; simp [g1,g2,hz]
    have hi0:¬ (0<(i:Int)):=by omega
    have hi0':decide (0<(i:Int))=false:=by simpa using hi0
    refine Qh [(4,.sl 0 w 0 1 q.length none),(13,.sl 0 w 0 1 q.length none),(14,.int .i64 q.length),(15,.int .i64 i)] ⟨f4,f13,f14,f15,trivial⟩  14 ?_
    simp -implicitDefEqProofs (disch:=omega) only [go_sem,↓reduceIte,rq,true_implies,true_and,and_true,hlt,hD]
    iterate 24 (try (refine Qc 2 ?_; simp -implicitDefEqProofs (disch:=omega) only [go_sem,↓reduceIte,rA,rq,hneg,g1',g3,g4',hi0]))
    try refine Qc 9 ?_
    try simp -implicitDefEqProofs (disch:=omega) only [go_sem,↓reduceIte,reduceCtorEq,rA,rq,rL,rT,Nat.reduceSub,Nat.reduceMul,Int.reduceToNat,Int.reduceLE,Int.reduceLT,Int.reduceEq,Int.reduceNe,Nat.reduceBEq,Nat.reduceBNe,false_implies,true_implies,true_and,and_true,not_true_eq_false,not_false_eq_true]
    refine ⟨q.length - (i+1),_,_,by omega,Shift.refl _ _ _ _,i+1,by omega,rfl,hgood,?_⟩
    simp -implicitDefEqProofs (disch:=omega) only [go_sem,↓reduceIte,rq,and_true,e2]
   ·have hi0:0<(i:Int):=by omega
    have hi0':decide (0<(i:Int))=true:=by simpa using hi0
    obtain ⟨p,hpi⟩:∃ p,q[i - 1]?=some p:=⟨_,List.getElem?_eq_getElem (by omega)⟩
    have hDp:=QaQ cells hpi
    have e4:IntKind.i64.wrap ((i:Int) - 1)=((i - 1:Nat):Int):=by
     rw [Ya]
     ·omega
     ·simp [IntKind.min,IntKind.signed,IntKind.bits]; omega
     ·simp [IntKind.max,IntKind.signed,IntKind.bits]; omega
    have hl1:i - 1<q.length:=by omega
    by_cases g5:p=neg n
    ·have hbadE:chk none q=true:=by rw [hch,if_neg (by omega),hpi]; simp [g5]
     have g5':(p==neg n)=true:=by simpa using g5
     refine Qh [(4,.sl 0 w 0 1 q.length none),(13,.sl 0 w 0 1 q.length none),(14,.int .i64 q.length),(15,.int .i64 i)] ⟨f4,f13,f14,f15,trivial⟩  14 ?_
     simp -implicitDefEqProofs (disch:=omega) only [go_sem,↓reduceIte,rq,true_implies,true_and,and_true,hlt,hD]
     iterate 24 (try (refine Qc 2 ?_; simp -implicitDefEqProofs (disch:=omega) only [go_sem,↓reduceIte,rA,rq,true_implies,true_and,and_true,hneg,g1',g3,g4',hi0,e4,hDp,hl1,g5']))
     try refine Qc 9 ?_
     try simp -implicitDefEqProofs (disch:=omega) only [go_sem,↓reduceIte,reduceCtorEq,rA,rq,rL,rT,Nat.reduceSub,Nat.reduceMul,Int.reduceToNat,Int.reduceLE,Int.reduceLT,Int.reduceEq,Int.reduceNe,Nat.reduceBEq,Nat.reduceBNe,false_implies,true_implies,true_and,and_true,not_true_eq_false,not_false_eq_true]
     exact .inl ⟨rfl,hbadE,rfl,rfl⟩
    ·have hgood:QiP q (i+1)=chk none q:=by rw [hch,if_neg (by omega),hpi]; simp [g1,g2,g5]
     have g5':(p==neg n)=false:=by simpa using g5
     refine Qh [(4,.sl 0 w 0 1 q.length none),(13,.sl 0 w 0 1 q.length none),(14,.int .i64 q.length),(15,.int .i64 i)] ⟨f4,f13,f14,f15,trivial⟩  14 ?_
     simp -implicitDefEqProofs (disch:=omega) only [go_sem,↓reduceIte,rq,true_implies,true_and,and_true,hlt,hD]
     iterate 24 (try (refine Qc 2 ?_; simp -implicitDefEqProofs (disch:=omega) only [go_sem,↓reduceIte,rA,rq,true_implies,true_and,and_true,hneg,g1',g3,g4',hi0,e4,hDp,hl1,g5']))
     try refine Qc 9 ?_
     try simp -implicitDefEqProofs (disch:=omega) only [go_sem,↓reduceIte,reduceCtorEq,rA,rq,rL,rT,Nat.reduceSub,Nat.reduceMul,Int.reduceToNat,Int.reduceLE,Int.reduceLT,Int.reduceEq,Int.reduceNe,Nat.reduceBEq,Nat.reduceBNe,false_implies,true_implies,true_and,and_true,not_true_eq_false,not_false_eq_true]
     refine ⟨q.length - (i+1),_,_,by omega,Shift.refl _ _ _ _,i+1,by omega,rfl,hgood,?_⟩
     simp -implicitDefEqProofs (disch:=omega) only [go_sem,↓reduceIte,rq,and_true,e2]
  ·have g3':decide (n<0)=false:=by simpa using g3
   rcases Nat.eq_zero_or_pos i with hz | hp
   ·have hgood:QiP q (i+1)=chk none q:=by rw [hch]; simp [g1,g2,hz]
    have hi0:¬ (0<(i:Int)):=by omega
    have hi0':decide (0<(i:Int))=false:=by simpa using hi0
    refine Qh [(4,.sl 0 w 0 1 q.length none),(13,.sl 0 w 0 1 q.length none),(14,.int .i64 q.length),(15,.int .i64 i)] ⟨f4,f13,f14,f15,trivial⟩  14 ?_
    simp -implicitDefEqProofs (disch:=omega) only [go_sem,↓reduceIte,rq,true_implies,true_and,and_true,hlt,hD]
    iterate 24 (try (refine Qc 2 ?_; simp -implicitDefEqProofs (disch:=omega) only [go_sem,↓reduceIte,rA,rq,g1',g3,hi0]))
    try refine Qc 9 ?_
    try simp -implicitDefEqProofs (disch:=omega) only [go_sem,↓reduceIte,reduceCtorEq,rA,rq,rL,rT,Nat.reduceSub,Nat.reduceMul,Int.reduceToNat,Int.reduceLE,Int.reduceLT,Int.reduceEq,Int.reduceNe,Nat.reduceBEq,Nat.reduceBNe,false_implies,true_implies,true_and,and_true,not_true_eq_false,not_false_eq_true]
    refine ⟨q.length - (i+1),_,_,by omega,Shift.refl _ _ _ _,i+1,by omega,rfl,hgood,?_⟩
    simp -implicitDefEqProofs (disch:=omega) only [go_sem,↓reduceIte,rq,and_true,e2]
   ·have hi0:0<(i:Int):=by omega
    have hi0':decide (0<(i:Int))=true:=by simpa using hi0
    obtain ⟨p,hpi⟩:∃ p,q[i - 1]?=some p:=⟨_,List.getElem?_eq_getElem (by omega)⟩
    have hDp:=QaQ cells hpi
    have e4:IntKind.i64.wrap ((i:Int) - 1)=((i - 1:Nat):Int):=by
     rw [Ya]
     ·omega
     ·simp [IntKind.min,IntKind.signed,IntKind.bits]; omega
     ·simp [IntKind.max,IntKind.signed,IntKind.bits]; omega
    have hl1:i - 1<q.length:=by omega
    by_cases g5:p=neg n
    ·have hbadE:chk none q=true:=by rw [hch,if_neg (by omega),hpi]; simp [g5]
     have g5':(p==neg n)=true:=by simpa using g5
     refine Qh [(4,.sl 0 w 0 1 q.length none),(13,.sl 0 w 0 1 q.length none),(14,.int .i64 q.length),(15,.int .i64 i)] ⟨f4,f13,f14,f15,trivial⟩  14 ?_
     simp -implicitDefEqProofs (disch:=omega) only [go_sem,↓reduceIte,rq,true_implies,true_and,and_true,hlt,hD]
     iterate 24 (try (refine Qc 2 ?_; simp -implicitDefEqProofs (disch:=omega) only [go_sem,↓reduceIte,rA,rq,true_implies,true_and,and_true,hneg,g1',g3,hi0,e4,hDp,hl1,g5']))
     try refine Qc 9 ?_
     try simp -implicitDefEqProofs (disch:=omega) only [go_sem,↓reduceIte,reduceCtorEq,rA,rq,rL,rT,Nat.reduceSub,Nat.reduceMul,Int.reduceToNat,Int.reduceLE,Int.reduceLT,Int.reduceEq,Int.reduceNe,Nat.reduceBEq,Nat.reduceBNe,false_implies,true_implies,true_and,and_true,not_true_eq_false,not_false_eq_true]
     exact .inl ⟨rfl,hbadE,rfl,rfl⟩
    ·have hgood:QiP q (i+1)=chk none q:=by rw [hch,if_neg (by omega),hpi]; simp [g1,g2,g5]
     have g5':(p==neg n)=false:=by simpa using g5
     refine Qh [(4,.sl 0 w 0 1 q.length none),(13,.sl 0 w 0 1 q.length none),(14,.int .i64 q.length),(15,.int .i64 i)] ⟨f4,f13,f14,f15,trivial⟩  14 ?_
     simp -implicitDefEqProofs (disch:=omega) only [go_sem,↓reduceIte,rq,true_implies,true_and,and_true,hlt,hD]
     iterate 24 (try (refine Qc 2 ?_; simp -implicitDefEqProofs (disch:=omega) only [go_sem,↓reduceIte,rA,rq,true_implies,true_and,and_true,hneg,g1',g3,hi0,e4,hDp,hl1,g5']))
     try refine Qc 9 ?_
     try simp -implicitDefEqProofs (disch:=omega) only [go_sem,↓reduceIte,reduceCtorEq,rA,rq,rL,rT,Nat.reduceSub,Nat.reduceMul,Int.reduceToNat,Int.reduceLE,Int.reduceLT,Int.reduceEq,Int.reduceNe,Nat.reduceBEq,Nat.reduceBNe,false_implies,true_implies,true_and,and_true,not_true_eq_false,not_false_eq_true]
     refine ⟨q.length - (i+1),_,_,by omega,Shift.refl _ _ _ _,i+1,by omega,rfl,hgood,?_⟩
     simp -implicitDefEqProofs (disch:=omega) only [go_sem,↓reduceIte,rq,and_true,e2]
 ·have hi:i=q.length:=by omega
  refine Qh [(4,.sl 0 w 0 1 q.length none),(13,.sl 0 w 0 1 q.length none),(14,.int .i64 q.length),(15,.int .i64 i)] ⟨f4,f13,f14,f15,trivial⟩  1000 ?_
  simp -implicitDefEqProofs (disch:=omega) only [go_sem,↓reduceIte,rq,hi,Nat.lt_irrefl]
  rw [hi,QsX] at hok
  exact .inr ⟨rfl,hok.symm,rfl,rfl⟩
theorem Qkn (hT:Qn Tryz.prog tab) (c:List Int) (hb:∀ n∈c,-9223372036854775808≤n∧n≤9223372036854775807) (hl:c.length≤1000000):Pure Tryz.prog G Z0 [row c] fun u=>u=.tup [row (XM c).1,.bool (XM c).2]:=by
 intro t
 refine QfG (Q:=fun u _=>Qd u=true∧((u=.tup [.lst 0 [] true,.bool false]∧XM c=([],false))∨u=.tup [row (XM c).1,.bool (XM c).2]))
  (Y6 (Q:=fun u σ=>(u=.tup [.lst 0 [] true,.bool false]∧XM c=([],false))∨∃ q w cells,XM c=(q,true)∧u=.tup [.sl 0 w 0 1 q.length none,.bool true]∧σ.o[0]?=some (some (.arr w 3 (ints q++cells)))∧Qb cells=true) ?_ fun u σ hu=>?_) fun u σ hu=>?_
 ·simp only [row]
  refine QM hT YZ (by simp [Qac]) (Qx 1000 ?_)
  simp -implicitDefEqProofs (disch:=omega) only [go_sem,↓reduceIte,reduceCtorEq,rq]
  refine call hT QY (Qij hT c hl) 1000 fun u σ hu=>?_
  obtain ⟨t1,w,ht1,rfl,rfl⟩:=hu
  simp -implicitDefEqProofs (disch:=omega) only [go_sem,↓reduceIte,reduceCtorEq,rq]
  obtain ⟨s,hsl,hsp,hsm,hs⟩:=QBd (G:=G) (base:=0) (k:=0) (v:=w) (t:=t1) (o:=[some (.arr w 3 (ints c))]) (zL _) rfl hb hl
  refine call hT YX hs 1000 fun u σ hu=>?_
  obtain ⟨rfl,rfl⟩:=hu
  simp -implicitDefEqProofs (disch:=omega) only [go_sem,↓reduceIte,reduceCtorEq,rq,List.set_cons_zero]
  rw [← hsl]
  refine call hT QbO (Qs6 (zs:=s) (T:=3) (zL _) rfl (by omega)) 1000 fun u σ hu=>?_
  obtain ⟨rfl,cells,hcn,rfl⟩:=hu
  have hcl:=cleanP hsp hsm
  have hq:∀ n∈X7 s,-9223372036854775808≤n∧n≤9223372036854775807:=fun n hn=>hb n ((hsm n).1 (Z6.1 hn))
  have hle:=Qhg s
  generalize X7 s=q at hcl hq hle ⊢
  simp -implicitDefEqProofs (disch:=omega) only [go_sem,↓reduceIte,reduceCtorEq,rq,List.set_cons_zero]
  refine QX (clJ c q w t1 cells) (clE c q w t1 cells) (m0:=q.length) ⟨0,by omega,rfl,rfl,?_⟩ (fun m fr σ hJ=>QmM hT hq (by omega) hJ) (fun e fr σ hE=>?_)
  ·simp -implicitDefEqProofs (disch:=omega) only [go_sem,↓reduceIte,reduceCtorEq,rq]
   simp
  ·rcases hE with ⟨rfl,hbd,f2,f3⟩ | ⟨rfl,hgd,f4,rfl⟩
   ·rw [hbd,if_pos rfl] at hcl
    refine Qc 1000 ?_
    simp -implicitDefEqProofs (disch:=omega) only [go_sem,f2,f3]
    exact .inl hcl.symm
   ·rw [hgd,if_neg (by simp)] at hcl
    refine Qc 1000 ?_
    simp -implicitDefEqProofs (disch:=omega) only [go_sem,↓reduceIte,rq,f4]
    exact .inr ⟨q,w,cells,hcl.symm,rfl,rfl,hcn⟩
 ·rcases hu with ⟨rfl,hu⟩ | ⟨q,w,cells,hcl,rfl,ho,hn⟩
  ·exact .inl ⟨rfl,.inl ⟨rfl,hu⟩⟩
  ·refine .inr ⟨0,w,3,ints q++cells,zL _,ho,Yl (QQ q) hn,?_,.inr ?_⟩
   ·simp [X3,Qix,Qd,Qb,Qe]
   ·rw [hcl]
    simp [X3,Qix,Qbc,Qe,row]
 ·rcases hu with ⟨hn,⟨rfl,hu⟩ | rfl⟩
  ·exact ⟨.tup [row [],.bool false],.tup _ _ (.cons _ _ _ _ (.lst _ _ _ _ _ .nil (.inl rfl)) (.cons _ _ _ _ (.refl _) .nil)),rfl,by rw [hu]⟩
  ·exact ⟨_,.refl _,hn,rfl⟩
end
end Go.Proofs.YtingdebioipemaaGreatDoor
namespace Go.Proofs.YtingdebioipemaaGreatDoor
open Go Go.Am Go.Cl
set_option maxRecDepth 100000
variable {P:Program} {G:Nat→Option V}
theorem C_grow {f base t n T:Nat} {o:List (Option Ob)}
 (hs:∀ (a:Option Addr) (w:World),Calls P f #[.slice a 0 0,.int .i64 n] w fun e w'=>∃ (cells:Array Value) (d:Nat),e=.returned (.slice (some ⟨w.heap.size,0,none⟩) 0 cells.size)∧w'={ w with heap:=w.heap.push (.cells cells T (0,0)),drawn:=d }) :
 C P G base f [.lst 0 [] true,.int .i64 n] ⟨t,o⟩ fun r σ'=>r=.sl o.length t 0 1 0 none∧σ'=⟨t+1,o++[some (.arr t T [])]⟩:=by
 intro I ρ w xs hR hb hc
 have hx1:xs.size=2:=hc.1.symm
 obtain ⟨x,y,rfl⟩:∃ x y,xs=#[x,y]:=⟨xs[0],xs[1],by
  apply Array.ext
  ·simp [hx1]
  ·intro j h1 h2
   have:j=0∨j=1:=by omega
   rcases this with rfl | rfl <;> rfl⟩
 have hv:=hc.2 0 _ x rfl rfl
 have hy:y=.int .i64 n:=by
  have:=hc.2 1 _ y rfl rfl
  cases this; rfl
 subst hy
 have hsome:∃ a,x=.slice a 0 0:=by
  generalize hu:V.lst 0 [] true=u at hv
  cases hv with
  | lst _ _ l _ _ _ _ _ h0=>injection hu with _ h _; exact absurd h.symm h0
  | lstN _ _ _ a cap h=>injection hu with _ _ h'; exact ⟨a,by rw [h h'.symm]⟩
  | _=>cases hu
 obtain ⟨a,rfl⟩:=hsome
 refine (hs a w).mono fun e w' ⟨cells,d,h1,h2⟩=>?_
 obtain ⟨hR',hS⟩:=hR.new (base:=base) hb (T:=T) (cs:=[]) (c:=cells) (d:=d) (fun j v h=>by simp at h) (zL _) cells.size (zL _) (lR _) (0,0) (.inl rfl)
 refine ⟨_,_,I,_,_,h1,?_,h2▸hR',h2▸hS,by have hb':base≤o.length:=hb; simp []; omega,rfl,rfl⟩
 exact VR.sl _ o.length t 0 1 0 none w.heap.size 0 cells.size cells.size (Names.add_self _ _ _ _) (zL _) (fun m h=>by cases h) (fun _=>by omega)
end Go.Proofs.YtingdebioipemaaGreatDoor
