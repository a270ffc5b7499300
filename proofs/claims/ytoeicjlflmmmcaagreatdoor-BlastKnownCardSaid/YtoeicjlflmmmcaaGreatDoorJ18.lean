/- Contracts: what follows by clauses of one literal. -/
import Derived.Test.YtoeicjlflmmmcaaGreatDoorJ17
import Derived.Test.YtoeicjlflmmmcaaGreatDoorAmD
import Derived.Test.YtoeicjlflmmmcaaGreatDoorJ13
import Derived.Test.YtoeicjlflmmmcaaGreatDoorJ16
open Nat renaming reduceEqDiff → rq, reduceAdd → rA, reduceLeDiff → rL, reduceLT → rT, zero_add → zA, le_refl → lR, zero_le → zL, add_zero → aZ
open List renaming length_cons → lC, length_nil → lN, take_succ_cons → tSq, length_append → lA, nil_append → nA, cons_append → cA, append_assoc → aA, take_nil → tN, take_zero → tZ, length_map → lM
open Bool renaming not_false → nFq, not_true → nT
namespace Go.Proofs.YtoeicjlflmmmcaaGreatDoor
open Go Go.Am Go.Cl
set_option maxRecDepth 100000
variable {P:Program} {G:Nat→Option V}
set_option maxHeartbeats 1000000
section
attribute [local go_sem] nFq nT aZ lR Nat.mul_one zA zL Qbk QGI QGH QqT QqS QqR QqQ QqP QqO QqN QqM QqL Qwb QGG Qwa QGF QGE QGD QGC QGB QGA Qv9 decide_false decide_true Q3
def uuH (tf tm tb tw:Nat) (v:Int) (F:List (List Int)) (S:List Int):List (Option Ob) :=
 [some (.arr tf 53 [.int .i64 v,.lst 1 (F.map QkI) false]),some (.map tm (kn S)),some (.arr tb 129 [.mp 1 tm]),some (.arr tw 3 (ints S))]
theorem QeU (S:List Int):∀ (A B:List (List Int)),Qdw S (A++B)=(Qdw S A).bind fun S=>Qdw S B
 | [],B=>rfl
 | c::A,B=>by
   simp only [cA,Qdw]
   cases QgS S c with
   | none=>rfl
   | some S1=>simp only [Option.bind_some]; exact QeU S1 A B
variable {i:Nat} {F:List (List Int)} {S S1 c:List Int}
theorem Qmk (hi:F[i]?=some c) (h:Qdw S (F.take i)=some S1):Qdw S (F.take (i+1))=QgS S1 c:=by
 rw [ZF hi,QeU,h,Option.bind_some]
 simp only [Qdw]
 cases QgS S1 c <;> rfl
theorem QtX (hi:F[i]?=some c) (h:Qdw S (F.take i)=some S1) (hs:QgS S1 c=none):Qdw S F=none:=by
 have:=QeU S (F.take (i+1)) (F.drop (i+1))
 rw [List.take_append_drop,Qmk hi h,hs] at this
 exact this
theorem QgR (S c:List Int):(c.any (fun n=>decide (n∈S))=true∧QgS S c=some S)∨(c.any (fun n=>decide (n∈S))=false∧c.filter (fun n=>!decide (-n∈S))=[]∧QgS S c=none) ∨
 (c.any (fun n=>decide (n∈S))=false∧∃ a l,c.filter (fun n=>!decide (-n∈S))=a::l∧a∈c∧a ∉ S∧l.length+1≤c.length∧(((a::l).all (fun n=>n==a)=true∧QgS S c=some (S++[a]))∨((a::l).all (fun n=>n==a)=false∧QgS S c=some S))):=by
 cases hany:c.any (fun n=>decide (n∈S)) with
 | true=>exact .inl ⟨rfl,if_pos hany⟩
 | false =>
   have hst:QgS S c=match c.filter (fun n=>!decide (-n∈S)) with
    | []=>none
    | a::l=>if l.all fun n=>decide (n=a) then some (S++[a]) else some S:=if_neg (by simp [hany])
   refine .inr ?_
   generalize hlf:c.filter (fun n=>!decide (-n∈S))=left at hst
   cases left with
   | nil=>exact .inl ⟨rfl,rfl,hst⟩
   | cons a l =>
     refine .inr ⟨rfl,a,l,rfl,?_,?_,?_,?_⟩
     ·have:a∈c.filter (fun n=>!decide (-n∈S)):=by rw [hlf]; simp
      exact (List.mem_filter.1 this).1
     ·intro h
      have:a∈c.filter (fun n=>!decide (-n∈S)):=by rw [hlf]; simp
      have:=List.any_eq_false.1 hany a (List.mem_filter.1 this).1
      simp [h] at this
     ·have:=List.length_filter_le (fun n=>!decide (-n∈S)) c
      rw [hlf,lC] at this; omega
     ·have hal:(a::l).all (fun n=>n==a)=l.all fun n=>decide (n=a):=by simp [List.all_cons]; rfl
      rw [hal]
      simp only at hst
      cases hall:l.all fun n=>decide (n=a) with
      | false=>rw [hall] at hst; exact .inr ⟨rfl,hst⟩
      | true=>rw [hall,if_pos rfl] at hst; exact .inl ⟨rfl,hst⟩
abbrev uJ (v:Int) (F:List (List Int)) (S:List Int) (tf tb:Nat):Nat→Fr→H→Prop:=fun m fr σ=>∃ (i:Nat) (S1:List Int) (t' tm tw:Nat),i≤F.length∧m=F.length - i∧Qdw S (F.take i)=some S1∧Inv F S1∧S.length≤S1.length∧S1.length≤S.length+i∧Qd fr 1=.ptr 0 tf 0∧Qd fr 4=.ptr 2 tb 0∧Qd fr 5=.sl 3 tw 0 1 S1.length none∧Qd fr 6=.int .i64 S.length∧Qd fr 21=.lst 1 (F.map QkI) false∧Qd fr 22=.int .i64 F.length∧Qd fr 23=.int .i64 i∧σ=⟨t',uuH tf tm tb tw v F S1⟩
abbrev uE (v:Int) (F:List (List Int)) (S:List Int) (tf tb:Nat):AE→Fr→H→Prop:=fun e fr σ=>(e=.ret∧Qdw S F=none∧Qd fr 2=.lst 0 [] true∧Qd fr 3=.bool false)∨(∃ (S1:List Int) (t' tm tw:Nat),e=.ex 2∧Qdw S F=some S1∧Inv F S1∧S.length≤S1.length∧Qd fr 1=.ptr 0 tf 0∧Qd fr 4=.ptr 2 tb 0∧Qd fr 5=.sl 3 tw 0 1 S1.length none∧Qd fr 6=.int .i64 S.length∧σ=⟨t',uuH tf tm tb tw v F S1⟩)
set_option maxHeartbeats 1000000 in
theorem QKz (hT:Qe P tab) {v:Int} (hF:F.length≤900000) (hc:∀ c∈F,c.length≤1000) (hz:Nz F) (hrt:∀ c∈F,∀ n∈c,-16777216≤n∧n≤16777216) (hS0:S.length≤100000) {tf tb m:Nat} {fr:Fr} {σ:H} (hJ:uJ v F S tf tb m fr σ) :
 W P G 56 0 (zg Qv9 [] (.seq (zw 24 .skip (.exit 2)) (.seq (.block 3 (zg QqT [25,26] (.seq (zg QqS [27,28] (zw 29 (.exit 3) .skip)) (zg QqR [30,31,32,33] (.block 4 (zg QqQ [35,36,37] (zw 34 (zg QqP [] .ret) (zg QqO [39,40,41] (zw 38 (zg QqN [42,43,44,45] (.reg QqM [46,47,48,49,50,51])) .skip))))))))) (.reg QqL [52])))) fr σ (Qbb (fun fr σ=>∃ m' fr' σ',m'<m∧Shift G 56 0 fr σ fr' σ'∧uJ v F S tf tb m' fr' σ') (uE v F S tf tb)):=by
 obtain ⟨i,S1,t',tm,tw,hi,rfl,hp,hI1,hl1,hl2,f1,f4,f5,f6,f21,f22,f23,rfl⟩:=hJ
 have hSl:S1.length≤1000000:=by omega
 rcases Nat.lt_or_ge i F.length with hlt | hge
 ·obtain ⟨c,hci⟩:∃ c,F[i]?=some c:=⟨_,List.getElem?_eq_getElem hlt⟩
  have hD:=Qk0 hci
  have hcm:=List.mem_of_getElem? hci
  have e2:=QkE hlt (by omega)
  have hcl:=hc c hcm
  have hb64:∀ n∈c,-9223372036854775808≤n∧n≤9223372036854775807:=fun n hn=>by have:=hrt c hcm n hn; omega
  have hps:=Qmk hci hp
  have hneg2:c.filter (fun n=>!decide (neg n∈S1))=c.filter (fun n=>!decide (-n∈S1)):=by
   refine List.filter_congr fun n hn=>?_
   have hne:n≠mn:=by have:=hrt c hcm n hn; unfold mn; omega
   rw [neg_ne hne]
  have hsome:=fun t=>u_some (P:=P) (G:=G) (base:=0) (t:=t) hT (QiS (c:=c) hT (kb:=2) (tb:=tb) (T:=129) (km:=1) (vm:=tm) (S:=S1) (o:=[some (.arr tf 53 [.int .i64 v,.lst 1 (F.map QkI) false]),some (.map tm (kn S1)),some (.arr tb 129 [.mp 1 tm]),some (.arr tw 3 (ints S1))]) rfl rfl) (by omega)
  have hdel:=fun t w=>Qql (P:=P) (G:=G) (base:=0) (t:=t) (w:=w) hT (o:=[some (.arr tf 53 [.int .i64 v,.lst 1 (F.map QkI) false]),some (.map tm (kn S1)),some (.arr tb 129 [.mp 1 tm]),some (.arr tw 3 (ints S1))]) (zL _) (fun w' cells=>QiR (c:=c) hT (kb:=2) (km:=1) (S:=S1) hb64 rfl rfl) (by omega)
  rw [hneg2] at hdel
  rcases QgR S1 c with ⟨hany,hst⟩ | ⟨hany,hlf,hst⟩ | ⟨hany,a,l,hlf,hac,haS,hlen,hall⟩
  ·refine Qh [(1,.ptr 0 tf 0),(4,.ptr 2 tb 0),(5,.sl 3 tw 0 1 S1.length none),(6,.int .i64 S.length),(21,.lst 1 (F.map QkI) false),(22,.int .i64 F.length),(23,.int .i64 i)] ⟨f1,f4,f5,f6,f21,f22,f23,trivial⟩  1000 ?_
   simp -implicitDefEqProofs (disch:=omega) only [go_sem,↓reduceIte,rq,uuH,lM,lC,lN,hlt,hD]
   refine call hT Yq (hsome _) 1000 fun u σ hu=>?_
   obtain ⟨rfl,t1,ht1,rfl⟩:=hu
   rw [hany]
   simp -implicitDefEqProofs (disch:=omega) only [go_sem,↓reduceIte,rq]
   refine ⟨F.length - (i+1),_,_,by omega,Shift.refl _ _ _ _,i+1,S1,t1,tm,tw,by omega,rfl,by rw [hps,hst],hI1,hl1,by omega,?_⟩
   simp -implicitDefEqProofs (disch:=omega) only [go_sem,↓reduceIte,rq,uuH,e2]
  ·refine Qh [(1,.ptr 0 tf 0),(4,.ptr 2 tb 0),(5,.sl 3 tw 0 1 S1.length none),(6,.int .i64 S.length),(21,.lst 1 (F.map QkI) false),(22,.int .i64 F.length),(23,.int .i64 i)] ⟨f1,f4,f5,f6,f21,f22,f23,trivial⟩  1000 ?_
   simp -implicitDefEqProofs (disch:=omega) only [go_sem,↓reduceIte,rq,uuH,lM,lC,lN,hlt,hD]
   refine call hT Yq (hsome _) 1000 fun u σ hu=>?_
   obtain ⟨rfl,t1,ht1,rfl⟩:=hu
   rw [hany]
   simp -implicitDefEqProofs (disch:=omega) only [go_sem,↓reduceIte,rq]
   refine call hT QP (QwL hT c (by omega)) 1000 fun u σ hu=>?_
   obtain ⟨t2,w,ht2,rfl,rfl⟩:=hu
   simp -implicitDefEqProofs (disch:=omega) only [go_sem,↓reduceIte,rA,rq,lC,lN]
   refine call hT Yu (hdel _ _) 1000 fun u σ hu=>?_
   obtain ⟨t3,cells,ht3,_,rfl,rfl⟩:=hu
   rw [hlf]
   simp -implicitDefEqProofs (disch:=omega) only [go_sem,↓reduceIte,reduceCtorEq,rA,rq,uuH,lC,lN,cA,nA,uE]
   exact ⟨fun _=>.inl (QtX hci hp hst),fun h=>absurd rfl h⟩
  ·have hallS:∀ (t t3 w:Nat) (cells:List V),C P G 0 Qaq [.sl 4 w 0 1 (l.length+1) none,.fn (.func Qa9) [] [.ptr 5 t3 0]] ⟨t,[some (.arr tf 53 [.int .i64 v,.lst 1 (F.map QkI) false]),some (.map tm (kn S1)),some (.arr tb 129 [.mp 1 tm]),some (.arr tw 3 (ints S1)),some (.arr w 3 (ints (a::l)++cells)),some (.arr t3 42 [.sl 4 w 0 1 (l.length+1) none])]⟩ fun u σ=>u=.bool ((a::l).all (fun n=>n==a))∧∃ t',t≤t'∧σ=⟨t',[some (.arr tf 53 [.int .i64 v,.lst 1 (F.map QkI) false]),some (.map tm (kn S1)),some (.arr tb 129 [.mp 1 tm]),some (.arr tw 3 (ints S1)),some (.arr w 3 (ints (a::l)++cells)),some (.arr t3 42 [.sl 4 w 0 1 (l.length+1) none])]⟩:=fun t t3 w cells=>c_allS (P:=P) (G:=G) (base:=0) (t:=t) hT (c:=a::l) (k:=4) (w:=w) (T:=3) (cs:=cells) (lim:=none) (o:=[some (.arr tf 53 [.int .i64 v,.lst 1 (F.map QkI) false]),some (.map tm (kn S1)),some (.arr tb 129 [.mp 1 tm]),some (.arr tw 3 (ints S1)),some (.arr w 3 (ints (a::l)++cells)),some (.arr t3 42 [.sl 4 w 0 1 (l.length+1) none])]) (zL _) (fun ex=>QiQ hT (kb:=5) (k:=4) (w:=w) (cs:=cells) (Qrs rfl) (Qrs rfl)) (by rw [lC]; omega) rfl
   have hne0:¬ (((l.length+1:Nat):Int)=0):=by omega
   refine Qh [(1,.ptr 0 tf 0),(4,.ptr 2 tb 0),(5,.sl 3 tw 0 1 S1.length none),(6,.int .i64 S.length),(21,.lst 1 (F.map QkI) false),(22,.int .i64 F.length),(23,.int .i64 i)] ⟨f1,f4,f5,f6,f21,f22,f23,trivial⟩  1000 ?_
   simp -implicitDefEqProofs (disch:=omega) only [go_sem,↓reduceIte,rq,uuH,lM,lC,lN,hlt,hD]
   refine call hT Yq (hsome _) 1000 fun u σ hu=>?_
   obtain ⟨rfl,t1,ht1,rfl⟩:=hu
   rw [hany]
   simp -implicitDefEqProofs (disch:=omega) only [go_sem,↓reduceIte,rq]
   refine call hT QP (QwL hT c (by omega)) 1000 fun u σ hu=>?_
   obtain ⟨t2,w,ht2,rfl,rfl⟩:=hu
   simp -implicitDefEqProofs (disch:=omega) only [go_sem,↓reduceIte,rA,rq,lC,lN]
   refine call hT Yu (hdel _ _) 1000 fun u σ hu=>?_
   obtain ⟨t3,cells,ht3,_,rfl,rfl⟩:=hu
   rw [hlf]
   simp -implicitDefEqProofs (disch:=omega) only [go_sem,↓reduceIte,rA,rq,lC,lN,cA,nA,hne0,false_implies,true_implies,true_and,not_false_eq_true]
   refine call hT Qb2 (hallS (t3+1) t3 w cells) 1000 fun u σ hu=>?_
   obtain ⟨rfl,t4,ht4,rfl⟩:=hu
   rcases hall with ⟨hall,hst⟩ | ⟨hall,hst⟩
   ·have hD0:=QiT (c:=a::l) (i:=0) cells rfl
    have h3:=Qh5 .i64 (fun _=>.int .i64 1) S1 a
    have hput:=Qrj .i64 (fun _=>.int .i64 1) a (.int .i64 1) rfl S1 haS
    rw [hall]
    simp -implicitDefEqProofs (disch:=omega) only [go_sem,↓reduceIte,reduceCtorEq,rq,rL,Int.reduceToNat,Int.reduceLE,QN,lC,lN,hD0,lA,kn,hput]
    have hI2:=((QwQ hz hI1 hcm).2 _ hst).1
    refine ⟨F.length - (i+1),_,_,by omega,Shift.drop (o':=uuH tf tm tb t4 v F (S1++[a])) (t':=t4+1) (by simp [Zl,uuH,kn,ints]) (lR _) (zL _),i+1,S1++[a],t4+1,tm,t4,by omega,rfl,by rw [hps,hst],hI2,by simp; omega,by simp; omega,?_⟩
    simp -implicitDefEqProofs (disch:=omega) only [go_sem,↓reduceIte,rq,uuH,lC,lN,e2,lA]
    try simp [ints]
   ·rw [hall]
    simp -implicitDefEqProofs (disch:=omega) only [go_sem,↓reduceIte,rq]
    refine ⟨F.length - (i+1),_,_,by omega,Shift.drop (o':=uuH tf tm tb tw v F S1) (t':=t4) (by simp [Zl,uuH]) (lR _) (zL _),i+1,S1,t4,tm,tw,by omega,rfl,by rw [hps,hst],hI1,hl1,by omega,?_⟩
    simp -implicitDefEqProofs (disch:=omega) only [go_sem,↓reduceIte,rq,uuH,e2]
 ·have hi:i=F.length:=by omega
  subst hi
  rw [List.take_length] at hp
  refine Qh [(1,.ptr 0 tf 0),(4,.ptr 2 tb 0),(5,.sl 3 tw 0 1 S1.length none),(6,.int .i64 S.length),(21,.lst 1 (F.map QkI) false),(22,.int .i64 F.length),(23,.int .i64 F.length)] ⟨f1,f4,f5,f6,f21,f22,f23,trivial⟩  1000 ?_
  simp -implicitDefEqProofs (disch:=omega) only [go_sem,↓reduceIte,reduceCtorEq,rq,uuH,Nat.lt_irrefl,uE]
  exact ⟨S1,t',tm,tw,hp,hI1,hl1,rfl,rfl,rfl⟩
theorem QAS (hT:Qe P tab) (v:Int) (F:List (List Int)) (hF:F.length≤900000) (hc:∀ c∈F,c.length≤1000) (hr:right v F=true) (hn:Qdw [] F=none) :
 Pure P G QcN [QyU v F] fun u=>u=.tup [.lst 0 [] true,.bool false]:=by
 intro t
 have hR:=Qyo (P:=P) (G:=G) hT v F (by omega) (fun c h=>by have:=hc c h; omega)
 rw [hr] at hR
 simp only [QyU,rows] at hR ⊢
 refine Qj 0 (zL _) (Qo hT QcK (by simp [Qbk]) (Qm 1000 ?_))
 simp -implicitDefEqProofs (disch:=omega) only [go_sem,↓reduceIte,reduceCtorEq,rA,rq]
 refine Qy hT Qaj hR (by simp [Qc,Qf]) 1000 ?_
 have hrt:=(QeQ.1 hr)
 have hz:=Qzz hr
 simp -implicitDefEqProofs (disch:=omega) only [go_sem,↓reduceIte,reduceCtorEq,rA,rq]
 refine ⟨rfl,?_⟩
 refine QX (Shift.own (s:=5) (z:=0) (sz:=1) (T:=3) (by simp -implicitDefEqProofs (disch:=omega) only [go_sem,↓reduceIte,reduceCtorEq,rq]) (by decide)) ?_
 simp -implicitDefEqProofs (disch:=omega) only [go_sem,↓reduceIte,reduceCtorEq,rA,rq,H.push,lC,lN,cA,nA]
 refine Zv (fun _ fr σ=>∃ (t' tf tm tb tw:Nat),Qd fr 1=.ptr 0 tf 0∧Qd fr 4=.ptr 2 tb 0∧Qd fr 5=.sl 3 tw 0 1 0 none∧Qd fr 6=.int .i64 (-1)∧σ=⟨t',uuH tf tm tb tw v F []⟩) (fun e fr σ=>e=.ret∧Qd fr 2=.lst 0 [] true∧Qd fr 3=.bool false)
  (m0:=0) ⟨t+1+1+1+1,t,t+1,t+1+1,t+1+1+1,?_⟩ (fun m fr σ hJ=>?_) (fun e fr σ hE=>?_)
 ·simp -implicitDefEqProofs (disch:=omega) only [go_sem,↓reduceIte,reduceCtorEq,rq,uuH]
  rfl
 ·obtain ⟨t',tf,tm,tb,tw,f1,f4,f5,f6,rfl⟩:=hJ
  have hn0:(-1:Int)<((0:Nat):Int):=by decide
  refine Qm 1000 ?_
  simp -implicitDefEqProofs (disch:=omega) only [go_sem,↓reduceIte,rA,rq,uuH,lM,lC,lN,f1,f5,f6,hn0]
  refine Zv (uJ v F [] tf tb) (uE v F [] tf tb) (m0:=F.length) ⟨0,[],t',tm,tw,by omega,rfl,rfl,QLz F,lR _,by simp,?_⟩ (fun m fr σ hJ=>QKz hT hF hc hz (fun c h n hn=>by have:=hrt.2 c h n hn; omega) (by simp) hJ) (fun e fr σ hE=>?_)
  ·simp -implicitDefEqProofs (disch:=omega) only [go_sem,↓reduceIte,rq,uuH,lN,f1,f4,f5]
   try rfl
  ·rcases hE with ⟨rfl,hp,f2,f3⟩ | ⟨S1,t',tm,tw,rfl,hp,hI1,hl1,f1,f4,f5,f6,rfl⟩
   ·refine Qg 1000 ?_
    simp -implicitDefEqProofs (disch:=omega) only [go_sem,f2,f3]
   ·rw [hn] at hp; exact absurd hp (by simp)
 ·obtain ⟨rfl,f2,f3⟩:=hE
  refine Qg 1000 ?_
  simp -implicitDefEqProofs (disch:=omega) only [go_sem,f2,f3]
end
section
attribute [local go_sem] nFq nT aZ lR zA zL and_true bne_self_eq_false decide_false decide_true false_implies ge_iff_le gt_iff_lt Q3 not_false_eq_true not_true_eq_false X8 QGU QGT QGS QGR Qwh Qwg Qwf Qwe QGQ Yg QG4 QG3 Qwj Qwi QG2 QG1 QG0 QGZ QGY QGX QGW QGV YO QER QEQ true_and true_implies
variable {i:Nat}
theorem QMw {l:List Int} {a:Int} (h:l[i]?=some a) (hl:l.length≤9223372036854775807):i<l.length∧(ints l).getD i V.any=.int .i64 a∧IntKind.i64.wrap ((i:Int)+1)=((i+1:Nat):Int) :=
 have hlt:=(List.getElem?_eq_some_iff.1 h).1
 ⟨hlt,Qfa h,QkE hlt hl⟩
theorem QMv {F:List (List Int)} {c:List Int} (h:F[i]?=some c) (hl:F.length≤9223372036854775807):i<F.length∧(F.map QkI).getD i V.any=.lst 1 (ints c) false∧IntKind.i64.wrap ((i:Int)+1)=((i+1:Nat):Int) :=
 have hlt:=(List.getElem?_eq_some_iff.1 h).1
 ⟨hlt,Qk0 h,QkE hlt hl⟩
theorem c_lit (hT:Qe P tab) (v n:Int) (hv:0≤v∧v≤16777216):Pure P G QbH [.int .i64 n,.int .i64 v] fun u=>u=.bool (Qac v n):=by
 intro t
 have hneg:=wneg hv
 refine Qj 0 (zL _) (Qo hT QbD (by simp [YO]) (Qm 12 ?_))
 by_cases h1:n=0
 ·have hr:Qac v n=false:=by simp [Qac,h1]
  simp -implicitDefEqProofs (disch:=omega) only [go_sem,↓reduceIte,reduceCtorEq,rq,h1]
  iterate 9 (try (refine Qg 2 ?_; simp -implicitDefEqProofs (disch:=omega) only [go_sem,↓reduceIte,reduceCtorEq,rq]))
  rw [← hr,h1]
 ·have h1':(n=0)=False:=eq_false h1
  by_cases h2:-v≤n
  ·have h2':decide (-v≤n)=true:=by simpa using h2
   by_cases h3:n≤v
   ·have hr:Qac v n=true:=by simp [Qac,h1,h2,h3]
    simp -implicitDefEqProofs (disch:=omega) only [go_sem,↓reduceIte,reduceCtorEq,rA,rq,h1',hneg]
    iterate 9 (try (refine Qg 2 ?_; simp -implicitDefEqProofs (disch:=omega) only [go_sem,↓reduceIte,reduceCtorEq,rA,rq,h2,h3]))
    rw [hr]
   ·have hr:Qac v n=false:=by simp [Qac,h3]
    simp -implicitDefEqProofs (disch:=omega) only [go_sem,↓reduceIte,reduceCtorEq,rA,rq,h1',hneg]
    iterate 9 (try (refine Qg 2 ?_; simp -implicitDefEqProofs (disch:=omega) only [go_sem,↓reduceIte,reduceCtorEq,rA,rq,h2,h3]))
    rw [hr]
  ·have hr:Qac v n=false:=by simp [Qac,h2]
   simp -implicitDefEqProofs (disch:=omega) only [go_sem,↓reduceIte,reduceCtorEq,rA,rq,h1',hneg]
   iterate 9 (try (refine Qg 2 ?_; simp -implicitDefEqProofs (disch:=omega) only [go_sem,↓reduceIte,reduceCtorEq,rA,rq,h2]))
   rw [hr]
def rfH (t:Nat) (v:Int) (F:List (List Int)):List (Option Ob):=[some (.arr t 105 [.int .i64 v,.lst 1 (F.map QkI) false])]
theorem QAR (hT:Qe P tab) (v:Int) (F:List (List Int)) (hF:F.length≤9223372036854775807) (hc:∀ c∈F,c.length≤9223372036854775807):Pure P G Qa1 [QyU v F] fun u=>u=.bool (right v F):=by
 intro t
 simp only [QyU,rows]
 refine Qj 0 (zL _) (Qo hT QaZ (by simp [Yg]) (Qm 12 ?_))
 by_cases h1:v<0
 ·have hr:right v F=false:=by simp [right]; omega
  simp -implicitDefEqProofs (disch:=omega) only [go_sem,↓reduceIte,reduceCtorEq,rA,rq,rL,h1]
  iterate 9 (try (refine Qg 2 ?_; simp -implicitDefEqProofs (disch:=omega) only [go_sem,↓reduceIte,reduceCtorEq,rq]))
  try refine Qg 9 ?_
  try simp -implicitDefEqProofs (disch:=omega) only [go_sem,↓reduceIte,reduceCtorEq,rq]
  rw [hr]
 by_cases h2:v > 16777216
 ·have hr:right v F=false:=by simp [right]; omega
  simp -implicitDefEqProofs (disch:=omega) only [go_sem,↓reduceIte,reduceCtorEq,rA,rq,rL,h1]
  iterate 9 (try (refine Qg 2 ?_; simp -implicitDefEqProofs (disch:=omega) only [go_sem,↓reduceIte,reduceCtorEq,rA,rq,rL,h2]))
  try refine Qg 9 ?_
  try simp -implicitDefEqProofs (disch:=omega) only [go_sem,↓reduceIte,reduceCtorEq,rq]
  rw [hr]
 by_cases h3:(F.length:Int) > 1048576
 ·have hr:right v F=false:=by simp [right]; omega
  simp -implicitDefEqProofs (disch:=omega) only [go_sem,↓reduceIte,reduceCtorEq,rA,rq,rL,h1]
  iterate 9 (try (refine Qg 2 ?_; simp -implicitDefEqProofs (disch:=omega) only [go_sem,↓reduceIte,reduceCtorEq,rA,rq,rL,lM,h2,h3]))
  try refine Qg 9 ?_
  try simp -implicitDefEqProofs (disch:=omega) only [go_sem,↓reduceIte,reduceCtorEq,rq]
  rw [hr]
 simp -implicitDefEqProofs (disch:=omega) only [go_sem,↓reduceIte,reduceCtorEq,rA,rq,rL,h1]
 iterate 9 (try (refine Qg 2 ?_; simp -implicitDefEqProofs (disch:=omega) only [go_sem,↓reduceIte,reduceCtorEq,rA,rq,rL,lM,h2,h3]))
 refine Qg 40 ?_
 simp -implicitDefEqProofs (disch:=omega) only [go_sem]
 have hv:0≤v∧v≤16777216:=by omega
 refine Yn F (fun i fr σ=>(∀ c∈F.take i,c.all (Qac v)=true)∧Qd fr 1=.ptr 0 t 0∧Qd fr 3=.int .i64 ((i:Nat):Int)∧σ=⟨t+1,rfH t v F⟩)
  (fun e fr σ=>(e=.ret∧Qd fr 2=.bool false∧right v F=false)∨(e=.ex 0∧right v F=true)) ⟨by simp,?_⟩ (fun i c hci fr σ hJ=>?_) (fun i hi fr σ hJ=>?_) (fun e fr σ hE=>?_)
 ·simp -implicitDefEqProofs (disch:=omega) only [go_sem,↓reduceIte,reduceCtorEq,rq,rfH]
  simp
 ·obtain ⟨hok,f1,f3,rfl⟩:=hJ
  obtain ⟨hlt,hD,e2⟩:=QMv hci hF
  have hcm:=List.mem_of_getElem? hci
  have hts:=ZF hci
  refine Qh [(1,.ptr 0 t 0),(3,.int .i64 ((i:Nat):Int))] ⟨f1,f3,trivial⟩  1000 ?_
  simp -implicitDefEqProofs (disch:=omega) only [go_sem,↓reduceIte,rA,rq,rfH,lM,hlt]
  refine Yn c (fun k fr σ=>(∀ n∈c.take k,Qac v n=true)∧Qd fr 1=.ptr 0 t 0∧Qd fr 3=.int .i64 ((i:Nat):Int)∧Qd fr 4=.int .i64 ((k:Nat):Int)∧σ=⟨t+1,rfH t v F⟩)
   (fun e fr σ=>(e=.ret∧Qd fr 2=.bool false∧right v F=false)∨(e=.ex 2∧c.all (Qac v)=true∧Qd fr 1=.ptr 0 t 0∧Qd fr 3=.int .i64 ((i:Nat):Int)∧σ=⟨t+1,rfH t v F⟩)) ⟨by simp,?_⟩ (fun k n hnk fr σ hJ=>?_) (fun k hk fr σ hJ=>?_) (fun e fr σ hE=>?_)
  ·simp -implicitDefEqProofs (disch:=omega) only [go_sem,↓reduceIte,rq,rfH]
   simp
  ·obtain ⟨hok2,f1,f3,f4,rfl⟩:=hJ
   obtain ⟨hlt2,hD2,e3⟩:=QMw hnk (hc c hcm)
   have hnm:=List.mem_of_getElem? hnk
   have hts2:=ZF hnk
   have hL:=c_lit (P:=P) (G:=G) hT v n hv
   refine Qh [(1,.ptr 0 t 0),(3,.int .i64 ((i:Nat):Int)),(4,.int .i64 ((k:Nat):Int))] ⟨f1,f3,f4,trivial⟩  1000 ?_
   simp -implicitDefEqProofs (disch:=omega) only [go_sem,↓reduceIte,rA,rq,rL,rfH,lM,QN,hlt,hD,hlt2,hD2]
   refine Qy hT QbD hL rfl 1000 ?_
   cases hl:Qac v n with
   | false =>
     have hr:right v F=false:=by
      have:F.all (fun c=>c.all (Qac v))=false:=by
       rw [List.all_eq_false]
       exact ⟨c,hcm,by rw [Bool.not_eq_true,List.all_eq_false]; exact ⟨n,hnm,by simp [hl]⟩⟩
      simp [right,this]
     simp -implicitDefEqProofs (disch:=omega) only [go_sem,↓reduceIte,reduceCtorEq,rq]
     exact hr
   | true =>
     simp -implicitDefEqProofs (disch:=omega) only [go_sem,↓reduceIte,rq]
     refine ⟨_,_,Shift.refl _ _ _ _,fun x hx=>?_,?_⟩
     ·rw [hts2,List.mem_append] at hx
      rcases hx with hx | hx
      ·exact hok2 x hx
      ·simp at hx; subst hx; exact hl
     ·simp -implicitDefEqProofs (disch:=omega) only [go_sem,↓reduceIte,rq,e3]
  ·obtain ⟨hok2,f1,f3,f4,rfl⟩:=hJ
   rw [hk,List.take_length] at hok2
   refine Qh [(1,.ptr 0 t 0),(3,.int .i64 ((i:Nat):Int)),(4,.int .i64 ((k:Nat):Int))] ⟨f1,f3,f4,trivial⟩  1000 ?_
   simp -implicitDefEqProofs (disch:=omega) only [go_sem,↓reduceIte,reduceCtorEq,rA,rq,rfH,lM,QN,hlt,hD,hk,Nat.lt_irrefl]
   exact List.all_eq_true.2 hok2
  ·rcases hE with ⟨rfl,f2,hr⟩ | ⟨rfl,hcc,f1,f3,rfl⟩
   ·refine Qg 1000 ?_
    simp -implicitDefEqProofs (disch:=omega) only [go_sem,f2,hr]
   ·refine Qg 1000 ?_
    simp -implicitDefEqProofs (disch:=omega) only [go_sem,↓reduceIte,rfH,f3]
    refine ⟨_,_,Shift.refl _ _ _ _,fun d hd=>?_,?_⟩
    ·rw [hts,List.mem_append] at hd
     rcases hd with hd | hd
     ·exact hok d hd
     ·simp at hd; subst hd; exact hcc
    ·simp -implicitDefEqProofs (disch:=omega) only [go_sem,↓reduceIte,rq,f1,e2]
 ·obtain ⟨hok,f1,f3,rfl⟩:=hJ
  rw [hi,List.take_length] at hok
  have hr:right v F=true:=by
   have:F.all (fun c=>c.all (Qac v))=true:=List.all_eq_true.2 hok
   simp [right,this]
   omega
  refine Qh [(1,.ptr 0 t 0),(3,.int .i64 ((i:Nat):Int))] ⟨f1,f3,trivial⟩  1000 ?_
  simp -implicitDefEqProofs (disch:=omega) only [go_sem,↓reduceIte,reduceCtorEq,rA,rq,rfH,lM,hi,Nat.lt_irrefl]
  exact hr
 ·rcases hE with ⟨rfl,f2,hr⟩ | ⟨rfl,hr⟩
  ·refine Qg 1000 ?_
   simp -implicitDefEqProofs (disch:=omega) only [go_sem,f2,hr]
  ·refine Qg 1000 ?_
   simp -implicitDefEqProofs (disch:=omega) only [go_sem,↓reduceIte,hr]
abbrev siJ (t:Nat) (a b:List Int):Nat→Fr→H→Prop:=fun m fr σ=>∃ i,i≤a.length∧m=a.length - i∧a.take i=b.take i∧Qd fr 0=.lst 1 (ints a) false∧Qd fr 1=.lst 1 (ints b) false∧Qd fr 5=.int .i64 ((i:Nat):Int)∧σ=⟨t,[]⟩
abbrev siE (t:Nat) (a b:List Int):AE→Fr→H→Prop:=fun e fr σ=>(e=.ret∧Qd fr 4=.bool false∧a≠b)∨(e=.ex 0∧a=b)
theorem Qzt (hT:Qe P tab) {t:Nat} {a b:List Int} (hab:a.length=b.length) (hl:a.length≤9223372036854775807) {m:Nat} {fr:Fr} {σ:H} (hJ:siJ t a b m fr σ) :
 W P G 26 0 (.seq (zg Qwh [11,12,13] (zw 14 .skip (.exit 0))) (.seq (.block 1 (zg Qwg [17,18,19,20,21,22,23,24] (zw 25 (zg Qwf [] .ret) .skip))) (.reg Qwe [15,16]))) fr σ (Qbb (fun fr σ=>∃ m' fr' σ',m'<m∧Shift G 26 0 fr σ fr' σ'∧siJ t a b m' fr' σ') (siE t a b)):=by
 obtain ⟨i,hi,rfl,heq,f0,f1,f5,rfl⟩:=hJ
 rcases Nat.lt_or_ge i a.length with hlt | hge
 ·obtain ⟨x,hx⟩:∃ x,a[i]?=some x:=⟨_,List.getElem?_eq_getElem hlt⟩
  obtain ⟨y,hy⟩:∃ y,b[i]?=some y:=⟨_,List.getElem?_eq_getElem (by omega)⟩
  have hltb:i<b.length:=by omega
  have hD1:=Qfa hx
  have hD2:=Qfa hy
  have e2:=QkE hlt hl
  by_cases hxy:x=y
  ·subst hxy
   have hb:(x==x)=true:=by simp
   refine Qh [(0,.lst 1 (ints a) false),(1,.lst 1 (ints b) false),(5,.int .i64 ((i:Nat):Int))] ⟨f0,f1,f5,trivial⟩  1000 ?_
   simp -implicitDefEqProofs (disch:=omega) only [go_sem,↓reduceIte,reduceCtorEq,rq,QN,hlt,hltb,hD1,hD2]
   refine ⟨a.length - (i+1),_,_,by omega,Shift.refl _ _ _ _,i+1,by omega,rfl,by rw [ZF hx,ZF hy,heq],?_⟩
   simp -implicitDefEqProofs (disch:=omega) only [go_sem,↓reduceIte,reduceCtorEq,rq,e2]
  ·have hb:(x=y)=False:=eq_false hxy
   have hne:a≠b:=fun e=>by rw [e,hy] at hx; exact hxy (Option.some.inj hx).symm
   refine Qh [(0,.lst 1 (ints a) false),(1,.lst 1 (ints b) false),(5,.int .i64 ((i:Nat):Int))] ⟨f0,f1,f5,trivial⟩  1000 ?_
   simp -implicitDefEqProofs (disch:=omega) only [go_sem,↓reduceIte,reduceCtorEq,rq,QN,hlt,hltb,hD1,hD2,hb]
   exact .inl ⟨rfl,rfl,hne⟩
 ·have hi:i=a.length:=by omega
  rw [hi,List.take_length,hab,List.take_length] at heq
  refine Qh [(0,.lst 1 (ints a) false),(1,.lst 1 (ints b) false),(5,.int .i64 ((i:Nat):Int))] ⟨f0,f1,f5,trivial⟩  1000 ?_
  simp -implicitDefEqProofs (disch:=omega) only [go_sem,↓reduceIte,reduceCtorEq,rq,QN,hi,Nat.lt_irrefl]
  exact .inr ⟨rfl,heq⟩
theorem QuA (hT:Qe P tab) (a b:List Int) (hl:a.length≤9223372036854775807) (hl':b.length≤9223372036854775807) :
 Pure P G QaN [QkI a,QkI b] fun u=>u=.bool (decide (a=b)):=by
 intro t
 simp only [QkI]
 refine Qj 0 (zL _) (Qo hT QaJ (by simp [X8]) (Qm 1000 ?_))
 by_cases h:a.length=b.length
 ·have h':((a.length:Int)=(b.length:Int))=True:=eq_true (by omega)
  simp -implicitDefEqProofs (disch:=omega) only [go_sem,↓reduceIte,reduceCtorEq,rq,QN,h']
  refine Zv (siJ t a b) (siE t a b) (m0:=a.length) ⟨0,by omega,rfl,by simp,?_⟩ (fun m fr σ hJ=>Qzt hT h hl hJ) (fun e fr σ hE=>?_)
  ·simp -implicitDefEqProofs (disch:=omega) only [go_sem,↓reduceIte,reduceCtorEq,rq]
   rfl
  ·rcases hE with ⟨rfl,f4,hh⟩ | ⟨rfl,hh⟩
   ·refine Qg 1000 ?_
    simp -implicitDefEqProofs (disch:=omega) only [go_sem,f4,hh]
   ·refine Qg 1000 ?_
    simp -implicitDefEqProofs (disch:=omega) only [go_sem,↓reduceIte,hh]
 ·have h':((a.length:Int)=(b.length:Int))=False:=eq_false (by omega)
  have hne:a≠b:=fun e=>h (by rw [e])
  simp -implicitDefEqProofs (disch:=omega) only [go_sem,↓reduceIte,reduceCtorEq,rq,QN,h',hne]
end
end Go.Proofs.YtoeicjlflmmmcaaGreatDoor
namespace Go.Proofs.YtoeicjlflmmmcaaGreatDoor
open Go Go.Am Go.Bl Go.Cl
set_option maxRecDepth 100000
variable {G:Nat→Option V}
set_option maxHeartbeats 1000000
section
attribute [local go_sem] nFq nT lC lN lR Nat.mul_one zA Xh QJu QJt QJs QJr QJq decide_false ge_iff_le Q3
variable {tg:Bool} {l:List Int} {z:Nat}
theorem QHR {v:Int} {b1:Bool} (hz:l=[]∨z=1):Wk (.agg [.int .i64 v,.lst 1 [.lst z (Qb l) tg] b1]) (QyU v [l]) :=
 .agg _ _ (.cons _ _ _ _ (.refl _) (.cons _ _ _ _ (.lst 1 1 _ _ b1 (.cons _ _ _ _ (.lst z 1 _ _ tg (WkL.refl _) (hz.imp (fun e=>by rw [e]; rfl) id)) .nil) (.inr rfl)) .nil))
variable {N:List (List Int)} {E:Ev} {K:List (Int × List Int)} {S:St} {B:Bv} {g:Gr}
theorem ms7 {v:Nat} {z:Option Ob}:((bN g B S K E v N).set 11 z)[7]?=some (some (.arr g.b 76 [.ptr 1 g.v0 0,.sl 8 B.g 0 3 S.gs.length none,.mp 5 g.m,.sl 9 B.c 0 1 S.cs.length none,.mp 6 g.k,.sl 10 E.v 0 1 E.l.length none,.sl 11 v 0 1 N.length none,.bool false])):=rfl
theorem QzU:(N++[l]).map row=N.map row++[.lst 1 (Qb l) false]:=by rw [List.map_append]; rfl
theorem Qps (hT:Qe Tryz.prog tab) {t vn:Nat} (hz:l=[]∨z=1) (hl:l.length≤1000) (h:S.cs.length+N.length≤1000000) :
 C Tryz.prog G 5 Zh [.ptr 7 g.b 0,.lst z (Qb l) tg] ⟨t,bN g B S K E vn N⟩ fun v σ=>v=.bool (right S.gs.length [l])∧∃ t' vn',t≤t'∧σ=⟨t',bN g B S K E vn' (if right S.gs.length [l]=true then N++[l] else N)⟩:=by
 have hw:IntKind.i64.wrap ((S.cs.length:Int)+(N.length:Int))=((S.cs.length+N.length:Nat):Int):=by rw [wrap_i64 (by omega) (by omega)]; omega
 have hge:¬ (1048576:Int)≤((S.cs.length+N.length:Nat):Int):=by omega
 have hR:=Pure.args (P:=Tryz.prog) (G:=G) (.cons _ _ _ _ (QHR (v:=S.gs.length) (tg:=tg) (b1:=true) hz) .nil) (Qyo (P:=Tryz.prog) (G:=G) hT S.gs.length [l] (by simp) (by simp; omega))
 refine Qo hT QY (by simp [Xh]) (Qm 1000 ?_)
 simp -implicitDefEqProofs (disch:=omega) only [go_sem,↓reduceIte,reduceCtorEq,rA,rq,rL,m7,cA,nA,true_implies,and_true,hw,hge]
 refine Qy hT Qaj hR (by simp [Qc,Qf]) 1000 ?_
 cases hr:right S.gs.length [l] with
 | false =>
   simp -implicitDefEqProofs (disch:=omega) only [go_sem,↓reduceIte,reduceCtorEq,rA,rq,true_and]
   exact ⟨t,vn,lR _,rfl,rfl⟩
 | true =>
   simp -implicitDefEqProofs (disch:=omega) only [go_sem,↓reduceIte,reduceCtorEq,rA,rq,rL,m7,QaQ,true_implies,and_true]
   refine QlB hT QP (Qti hT hz (by omega)) 1000 fun v σ hv=>?_
   obtain ⟨rfl,t1,ht1,rfl⟩:=hv
   simp -implicitDefEqProofs (disch:=omega) only [go_sem,↓reduceIte,reduceCtorEq,rA,rq,rL,m11,lM,cA,nA,true_and,and_true]
   simp -implicitDefEqProofs (disch:=omega) only [go_sem,rA,rL,ms7]
   refine ⟨t1+1,t1,by omega,rfl,?_⟩
   unfold bN
   rw [QzU,lA,lC,lN]
   rfl
end
section
attribute [local go_sem] nFq nT aZ lR zA zL beq_self_eq_true bne_self_eq_false decide_false decide_true gt_iff_lt XI zqm_0 zqm_1 QBA QBz QBy QBx QBw QBv QBu QBt QBs QBr zqm_2 QBq QBp QBo QBn QBm QBl QBk zqm_3 Qy6 Qy5 Qy4 Qy3 zqm_8 zqm_9
theorem Qkl:∀ (F:List (List Int)) (S:List Int),(1:Int)∈S→(-1:Int) ∉ S→Qdw S (F++[[-1]])=none
 | [],S,h1,h2=>by
   rcases QgR S [-1] with ⟨h,-⟩ | ⟨-,-,h⟩ | ⟨-,a,l,h,ha,-,-,-⟩
   ·simp [h2] at h
   ·simp only [nA,Qdw,h]; rfl
   ·simp [h1] at h
 | c::F,S,h1,h2=>by
   simp only [cA,Qdw]
   rcases QgR S c with ⟨-,h⟩ | ⟨-,-,h⟩ | ⟨-,a,l,hf,-,-,-,⟨-,h⟩ | ⟨-,h⟩⟩
   ·rw [h,Option.bind_some]; exact Qkl F S h1 h2
   ·rw [h]; rfl
   ·rw [h,Option.bind_some]
    refine Qkl F (S++[a]) (by simp [h1]) fun hm=>?_
    rcases List.mem_append.1 hm with hm | hm
    ·exact h2 hm
    ·have e:a=-1:=(List.mem_singleton.1 hm).symm
     have:a∈c.filter (fun n=>!decide (-n∈S)):=by rw [hf]; simp
     have:=(List.mem_filter.1 this).2
     rw [e] at this
     simp [h1] at this
   ·rw [h,Option.bind_some]; exact Qkl F S h1 h2
variable {N:List (List Int)}
theorem QzD {F:List (List Int)} (h:[[1]] <+: F):Qdw [] (F++N++[[-1]])=none:=by
 obtain ⟨F,rfl⟩:=h
 have e:[[1]]++F++N++[[-1]]=[1]::((F++N)++[[(-1:Int)]]):=by simp
 rw [e]
 show (QgS [] [1]).bind _=none
 rw [show QgS [] [1]=some [1] from rfl,Option.bind_some]
 exact Qkl _ _ (by simp) (by simp)
theorem QwK (X:List Int) (S:St):∀ n,it (unT X X) n (S,-1)=(S,-1)
 | 0=>rfl
 | n+1=>by
   rw [it,QwK X S n]
   unfold unT
   have e:Qd5 S (gi X n) (gi X n)=(-1,S):=by
    unfold Qd5
    rw [if_pos rfl]
    unfold sg
    split <;> rfl
   rw [e]
   rfl
theorem cL_len:cL.length=7:=rfl
theorem QLW (L:List Nd) (s:Bs) (x:Int):(dfS L s x x).2=-1:=by
 show (it (unT _ _) 64 (_,-1)).2=-1
 rw [QwK]
variable {I:Int→Int→Bool} {S:St} {n t i:Nat}
theorem Qxx (h:Ok I S) (hn:n=S.gs.length) (h1:n≤9000000) (h2:S.cs.length+N.length≤900000) (hN:∀ c∈N,c.all (Qac n)=true):right n (S.cs++N)=true:=by
 subst hn
 refine QeQ.2 ⟨⟨by omega,by omega,by rw [lA]; omega⟩,fun c hc m hm=>?_⟩
 rcases List.mem_append.1 hc with hc | hc
 ·obtain ⟨a,b,d⟩:=h.lits c hc m hm
  exact ⟨a,by omega,by omega⟩
 ·have:=List.all_eq_true.1 (hN c hc) m hm
  simpa [Qac] using this
theorem Qzf {P:Program} (hT:Qe P tab) (h:Ok I S) (hpre:[[1]] <+: S.cs) (hpos:0<S.gs.length) (hgs:S.gs.length≤8000000) (hcl:S.cs.length≤400448) (hN:∀ c∈N,c.all (Qac S.gs.length)=true) (hNl:N.length≤10) (hNc:∀ c∈N,c.length≤1000) :
 Pure P G QcN [fml S.gs.length (S.cs++N++[[-1]])] fun u=>u=.tup [.lst 0 [] true,.bool false]:=by
 have hl:∀ c∈N++[[(-1:Int)]],c.all (Qac S.gs.length)=true:=fun c hc=>by
  rcases List.mem_append.1 hc with hc | hc
  ·exact hN c hc
  ·rw [List.mem_singleton.1 hc]
   simp only [Qac,List.all_cons,List.all_nil,Bool.and_true,decide_eq_true_eq]
   omega
 refine QAS (P:=P) (G:=G) hT S.gs.length (S.cs++N++[[-1]]) (by simp; omega) (fun c hc=>?_) (by rw [aA]; exact Qxx h rfl (by omega) (by simp; omega) hl) (QzD hpre)
 rcases List.mem_append.1 hc with hc | hc
 ·rcases List.mem_append.1 hc with hc | hc
  ·have:=h.len c hc; omega
  ·exact hNc c hc
 ·rw [List.mem_singleton.1 hc]; decide
variable {fr:Fr}
theorem Qpx {w T:Nat} {a:V} {cs:List V} {g:Gr} {B:Bv} {K:List (Int × List Int)} {E:Ev} {vn:Nat} {ex:List (Option Ob)} (hn:Qc (a::cs)=true) :
 Shift G n 0 fr ⟨t,bN g B S K E vn N++some (.arr w T (a::cs))::ex⟩ (Qpy 12 w (a::cs) fr) ⟨t,bN g B S K E vn N⟩:=by
 refine (Shift.freeze (k:=12) (v:=w) (T:=T) (cs:=a::cs) (zL _) rfl hn).trans ?_
 have h:=Xd 12 (Q6 (Zw 12 w (a::cs)) 0 (((bN g B S K E vn N++some (.arr w T (a::cs))::ex)).set 12 none))
 rw [QIm (lR _) rfl] at h
 exact Shift.drop h (lR _) (zL _)
variable {σ:H} {x:Int} {tl:Bool} {l:List Nd}
theorem Qzy {P:Program} (hT:Qe P tab) (hl:∀ d∈l,¬ d.op=3∧¬ (d.kind=2∧65536<d.n)) (hll:l.length≤1000) {lv:V} {d:Nd} (hd:l[i]?=some d) (hJ:σ=⟨t,[]⟩∧Qd fr 0=.lst 6 (l.map fun d=>.agg d.cells) tl∧Qd fr 1=lv∧Qd fr 2=.int .i64 x∧Qd fr 7=.int .i64 ((i:Nat):Int)) :
 W P G 148 0 ws fr σ (Qbb (fun fr' σ=>∃ fr σ',Shift G 148 0 fr' σ fr σ'∧σ'=⟨t,[]⟩∧Qd fr 0=.lst 6 (l.map fun d=>.agg d.cells) tl∧Qd fr 1=lv∧Qd fr 2=.int .i64 x∧Qd fr 7=.int .i64 ((i+1:Nat):Int)) (fun e fr σ=>e=.ex 0∧σ=⟨t,[]⟩∧Qd fr 0=.lst 6 (l.map fun d=>.agg d.cells) tl∧Qd fr 1=lv∧Qd fr 2=.int .i64 x)):=by
 obtain ⟨rfl,f0,f1,f2,f7⟩:=hJ
 have hlt:=(List.getElem?_eq_some_iff.1 hd).1
 have hki:(i:Int)<l.length:=by omega
 have hk0:(0:Int)≤(i:Int):=by omega
 have hw:=QhJ hlt (by omega)
 obtain ⟨h3,h2⟩:=hl d (List.mem_of_getElem? hd)
 have gd:(l.map fun d=>V.agg d.cells).getD i V.any=.agg d.cells:=by simp [List.getD_eq_getElem?_getD,hd]
 have g0:d.cells.getD 0 V.any=.int .u8 d.kind:=rfl
 have g1:d.cells.getD 1 V.any=.int .i64 d.n:=rfl
 have g3:d.cells.getD 3 V.any=.int .u8 d.op:=rfl
 have g6:d.cells.length=6:=rfl
 refine Qh [(0,.lst 6 (l.map fun d=>.agg d.cells) tl),(1,lv),(2,.int .i64 x),(7,.int .i64 ((i:Nat):Int))] ⟨f0,f1,f2,f7,trivial⟩  1000 ?_
 by_cases hk:d.kind=2
 ·have hn:¬ 65536<d.n:=fun h=>h2 ⟨hk,h⟩
  simp -implicitDefEqProofs (disch:=omega) only [go_sem,↓reduceIte,reduceCtorEq,rA,rq,rL,lM,false_implies,true_implies,true_and,and_true,not_false_eq_true,hki,hk0,hlt,Int.toNat_natCast,gd,g0,g1,g3,g6,h3,hk,hn,hw]
  refine ⟨_,_,Shift.refl _ _ _ _,rfl,?_⟩
  simp -implicitDefEqProofs (disch:=omega) only [go_sem,↓reduceIte,reduceCtorEq,rq]
 ·simp -implicitDefEqProofs (disch:=omega) only [go_sem,↓reduceIte,reduceCtorEq,rA,rq,rL,lM,false_implies,true_implies,true_and,and_true,not_false_eq_true,hki,hk0,hlt,Int.toNat_natCast,gd,g0,g1,g3,g6,h3,hk,hw]
  refine ⟨_,_,Shift.refl _ _ _ _,rfl,?_⟩
  simp -implicitDefEqProofs (disch:=omega) only [go_sem,↓reduceIte,reduceCtorEq,rq]
theorem QKK {P:Program} (hT:Qe P tab) {lv:V} (hi:i=l.length) (hJ:σ=⟨t,[]⟩∧Qd fr 0=.lst 6 (l.map fun d=>.agg d.cells) tl∧Qd fr 1=lv∧Qd fr 2=.int .i64 x∧Qd fr 7=.int .i64 ((i:Nat):Int)) :
 W P G 148 0 ws fr σ (Qbb (fun _ _=>False) (fun e fr σ=>e=.ex 0∧σ=⟨t,[]⟩∧Qd fr 0=.lst 6 (l.map fun d=>.agg d.cells) tl∧Qd fr 1=lv∧Qd fr 2=.int .i64 x)):=by
 obtain ⟨rfl,f0,f1,f2,f7⟩:=hJ
 refine Qh [(0,.lst 6 (l.map fun d=>.agg d.cells) tl),(1,lv),(2,.int .i64 x),(7,.int .i64 ((i:Nat):Int))] ⟨f0,f1,f2,f7,trivial⟩  1000 ?_
 simp -implicitDefEqProofs (disch:=omega) only [go_sem,↓reduceIte,reduceCtorEq,rq,lM,and_true,hi,Int.lt_irrefl]
 try exact ⟨rfl,rfl,rfl,rfl,rfl⟩
theorem Qyn (hT:Qe Tryz.prog tab) (F:Fmt Tryz.prog G) (SO:Q1 Tryz.prog) {lits:List Int} (hll:lits.length≤10) {z:Nat} {tg:Bool} (hz:lits=[]∨z=1) :
 Pure Tryz.prog G Z5 [.lst 6 (cL.map fun d=>.agg d.cells) tl,.lst z (Qb lits) tg,.int .i64 x] fun v=>v=.bool true:=by
 intro t
 have hWk:=QlC (P:=Tryz.prog) (G:=G) hT F SO
 have hf:=QL9 (P:=Tryz.prog) (G:=G) (l:=cL) (tl:=tl) (S:=[]) (tS:=false) (C':=[]) (tC:=false) (top:=12) hT (by decide)
 rw [show QLI cL [] [] 12=true by decide] at hf
 have hf2:=Pure.args (P:=Tryz.prog) (G:=G) (.cons _ _ _ _ (.refl _) (.cons (.agg [.lst 0 [] true,.lst 0 [] true]) _ _ _ (.agg _ _ (.cons _ _ _ _ (.lst 0 1 _ _ true .nil (.inl rfl)) (.cons _ _ _ _ (.lst 0 4 _ _ true .nil (.inl rfl)) .nil))) (.cons _ _ _ _ (.refl _) .nil))) hf
 have hWn:¬ (10:Int)<lits.length:=by omega
 have hcl:((cL.map fun d=>V.agg d.cells)).length=7:=rfl
 refine Qj 0 (zL _) (Qo hT XV (by simp [XI]) (Qm 1000 ?_))
 simp -implicitDefEqProofs (disch:=omega) only [go_sem,↓reduceIte,reduceCtorEq,rA,rq]
 refine Qy hT Yd hf2 (by simp [Qc,Qf]) 1000 ?_
 simp -implicitDefEqProofs (disch:=omega) only [go_sem,↓reduceIte,reduceCtorEq,rA,rq,hWn,Qi]
 refine Yn cL (fun i fr σ=>σ=⟨t,[]⟩∧Qd fr 0=.lst 6 (cL.map fun d=>.agg d.cells) tl∧Qd fr 1=.lst z (Qb lits) tg∧Qd fr 2=.int .i64 x∧Qd fr 7=.int .i64 ((i:Nat):Int)) (fun e fr σ=>e=.ex 0∧σ=⟨t,[]⟩∧Qd fr 0=.lst 6 (cL.map fun d=>.agg d.cells) tl∧Qd fr 1=.lst z (Qb lits) tg∧Qd fr 2=.int .i64 x) ⟨rfl,by simp -implicitDefEqProofs (disch:=omega) only [go_sem,↓reduceIte],by simp -implicitDefEqProofs (disch:=omega) only [go_sem,↓reduceIte,reduceCtorEq],by simp -implicitDefEqProofs (disch:=omega) only [go_sem,↓reduceIte,reduceCtorEq,rq],by simp -implicitDefEqProofs (disch:=omega) only [go_sem,↓reduceIte,reduceCtorEq,rq]; rfl⟩ (fun i d hd fr σ hJ=>Qzy hT cL_op (by decide) hd hJ) (fun i hi fr σ hJ=>QKK hT hi hJ) (fun e fr σ hE=>?_)
 obtain ⟨rfl,rfl,f0,f1,f2⟩:=hE
 refine XN [(0,.lst 6 (cL.map fun d=>.agg d.cells) tl),(1,.lst z (Qb lits) tg),(2,.int .i64 x)] ⟨f0,f1,f2,trivial⟩ 1000 ?_
 simp -implicitDefEqProofs (disch:=omega) only [go_sem,↓reduceIte,reduceCtorEq,rq]
 have hMa:=QnA (P:=Tryz.prog) hT F (t:=t) cL tl cL_i (by decide)
 rw [QrW] at hMa
 refine call hT Yv hMa 1000 fun v σ hv=>?_
 obtain ⟨v0,v1,v2,v3,v4,t1,ht1,rfl,rfl⟩:=hv
 simp -implicitDefEqProofs (disch:=omega) only [go_sem,↓reduceIte,reduceCtorEq,rA,rq,rT,lC,lN]
 refine call hT QB (QxC hT (ex:=[])) 1000 fun v σ hv=>?_
 obtain ⟨rfl,t2,ht2,rfl⟩:=hv
 have h7:¬ ((7:Nat):Int)=0:=by decide
 simp -implicitDefEqProofs (disch:=omega) only [go_sem,↓reduceIte,reduceCtorEq,rq,List.append_nil,false_implies,true_implies,true_and,not_false_eq_true,cL_len,h7]
 refine call hT Qan (Xj (by decide) (by simp [kG]) (QKN hT)) 1000 fun v σ hv=>?_
 obtain ⟨g,t3,B2,e2,hgL,hv0,ht3,rfl,rfl⟩:=hv
 subst hv0
 have hok:okN g.L:=by rw [hgL]; exact cL_ok
 have hnf:QeA g.L:=by rw [hgL]; exact QIE
 have hLl:g.L.length=7:=by rw [hgL]; rfl
 have cx:=Qjf (Sy:=[]) (C':=[]) hok (by simp) (by simp)
 have i0:BInv (Qbp [] [] g.L) g.L (val [] [] g.L) 400000 b0:=inv0 (by omega) (by rw [hgL]; decide)
 simp -implicitDefEqProofs (disch:=omega) only [go_sem,↓reduceIte,reduceCtorEq,rq]
 refine call hT QB (QeS hT) 1000 fun v σ hv=>?_
 obtain ⟨rfl,t4,ht4,rfl⟩:=hv
 simp -implicitDefEqProofs (disch:=omega) only [go_sem,↓reduceIte,reduceCtorEq,rq]
 refine Qy hT Ze (Qyp hT (by omega)) rfl 1000 ?_
 obtain ⟨p0,p1⟩:=Qra (i:=x) (n:=g.L.length) (by omega)
 generalize Qm1 x g.L.length=p at p0 p1
 simp -implicitDefEqProofs (disch:=omega) only [go_sem,↓reduceIte,reduceCtorEq,rq]
 obtain ⟨i1,u1,l1,w1⟩:=QLX cx hnf i0 (by omega) p0 p1 p0 p1
 have hDf:=fun t B e=>QmZ (P:=Tryz.prog) (G:=G) (t:=t) (B:=B) (e:=e) hT SO cx hnf i0 (by omega) p0 p1 p0 p1
 rw [QLW] at hDf
 generalize hr1:(dfS g.L b0 p p).1=s at *
 refine call hT QQ (Xj (by decide) (by rw [Q7]; decide) (hDf _ _ _)) 1000 fun v σ hv=>?_
 obtain ⟨rfl,t5,B5,e5,ht5,rfl⟩:=hv
 simp -implicitDefEqProofs (disch:=omega) only [go_sem,↓reduceIte,reduceCtorEq,rA,rq,rT,lC,lN]
 have hcs:0<s.S.cs.length:=Nat.lt_of_lt_of_le Nat.one_pos u1.c.length_le
 refine call hT Qt (Xj (by decide) (by rw [Q7]; decide) (QeT hT i1 hcs)) 3 fun v σ hv=>?_
 obtain ⟨rfl,t6,ht6,rfl⟩:=hv
 unfold fml
 simp -implicitDefEqProofs (disch:=omega) only [go_sem,↓reduceIte,reduceCtorEq,rA,rq,List.append_nil,Q7,Qiq,Qcq,lC,lN,nA,and_true]
 refine QX (Qky rfl) ?_
 simp only [Y4,ZP,Qfc,Qlm,Qfd,Qh9,Qfb,ne_eq,rq,not_false_eq_true]
 refine Qg 1000 ?_
 simp -implicitDefEqProofs (disch:=omega) only [go_sem,↓reduceIte,reduceCtorEq,rA,rq,rL,List.append_nil,lC,lN,nA,cA,true_implies,and_true]
 have hgs:s.S.gs.length≤8000000:=by have h1:=i1.g; omega
 have hcl2:s.S.cs.length≤400448:=by have h1:=i1.c; omega
 have hpos:=i1.k.ok.wf.pos
 have hpre:[[1]] <+: s.S.cs:=u1.c
 have hRR:=Pure.args (P:=Tryz.prog) (G:=G) (.cons _ _ _ _ (QHR (v:=s.S.gs.length) (tg:=tg) (b1:=true) hz) .nil) (QAR (P:=Tryz.prog) (G:=G) hT s.S.gs.length [lits] (by simp) (by simp; omega))
 have hRq:=fun t=>Qps (G:=G) hT (g:=g) (B:=B5) (S:=s.S) (K:=s.K) (E:=⟨e5,s.E⟩) (t:=t) (vn:=g.n) (N:=[]) (tg:=tg) hz (by omega) (by simp; omega)
 have hU:=fun N hN hNl hNc=>Qzf (P:=Tryz.prog) (G:=G) hT i1.k.ok hpre hpos hgs hcl2 (N:=N) hN hNl hNc
 have hFo:=fun t vn (N:List (List Int)) (h1:N.length≤10) (h2:∀ c∈N,c.length≤1000)=>Qmt (G:=G) hT (g:=g) (B:=B5) (S:=s.S) (K:=s.K) (E:=⟨e5,s.E⟩) (t:=t) (vn:=vn) (N:=N) hcs (by omega) (by omega) (fun c hc=>by
  rcases List.mem_append.1 hc with hc | hc
  ·have:=i1.k.ok.len c hc; omega
  ·have:=h2 c hc; omega)
 have hw0:IntKind.i64.wrap ((s.S.cs.length:Int)+0)=(s.S.cs.length:Int):=by rw [wrap_i64 (by omega) (by omega)]; omega
 have hw1:IntKind.i64.wrap ((s.S.cs.length:Int)+1)=((s.S.cs.length+1:Nat):Int):=by rw [wrap_i64 (by omega) (by omega)]; omega
 have hw2:IntKind.i64.wrap (((s.S.cs.length+1:Nat):Int) - 1)=(s.S.cs.length:Int):=by rw [wrap_i64 (by omega) (by omega)]; omega
 have hm1:right s.S.gs.length [[-1]]=true:=QeQ.2 ⟨⟨by omega,by omega,by simp⟩,fun c hc m hm=>by simp at hc; subst hc; simp at hm; subst hm; omega⟩
 have hR1:=fun t vn (N:List (List Int)) (h1:N.length≤10)=>Qps (G:=G) hT (g:=g) (B:=B5) (S:=s.S) (K:=s.K) (E:=⟨e5,s.E⟩) (t:=t) (vn:=vn) (N:=N) (l:=[-1]) (z:=1) (tg:=true) (.inr rfl) (by simp) (by omega)
 rw [hm1] at hR1
 refine Qy hT QaZ hRR (by simp [Qc,Qf]) 1000 ?_
 cases hr:right s.S.gs.length [lits] with
 | false =>
   rw [hr] at hRq
   simp -implicitDefEqProofs (disch:=omega) only [go_sem,↓reduceIte,reduceCtorEq,rA,rq]
   refine call hT QY (Xj (by decide) (by rw [Q7]; decide) (hRq _)) 1000 fun v σ hv=>?_
   obtain ⟨rfl,t7,vn,ht7,rfl⟩:=hv
   simp -implicitDefEqProofs (disch:=omega) only [go_sem,↓reduceIte,reduceCtorEq,rA,rq]
   refine call hT Qt (Xj (by decide) (by rw [QaQ]; decide) (hFo _ _ [] (by simp) (by simp))) 3 fun v σ hv=>?_
   obtain ⟨rfl,t8,ht8,rfl⟩:=hv
   unfold fml
   simp -implicitDefEqProofs (disch:=omega) only [go_sem,↓reduceIte,reduceCtorEq,rA,rq,List.append_nil,QaQ,m12,ms12,lC,lN,nA,and_true]
   refine QX (Qpx rfl) ?_
   simp only [Y4,ZP,Qfc,Qlm,Qfd,QjL,Qh9,Qfb,ne_eq,rq,not_false_eq_true]
   refine Qg 1000 ?_
   simp -implicitDefEqProofs (disch:=omega) only [go_sem,↓reduceIte,reduceCtorEq,rA,rq,rL,List.append_nil,lC,lN,lM,nA,true_implies,and_true,hw0]
   refine call hT QY (Xj (by decide) (by rw [QaQ]; decide) (hR1 _ _ [] (by simp))) 1000 fun v σ hv=>?_
   obtain ⟨rfl,t9,vm,ht9,rfl⟩:=hv
   simp -implicitDefEqProofs (disch:=omega) only [go_sem,↓reduceIte,reduceCtorEq,rq,nA]
   refine call hT Qt (Xj (by decide) (by rw [QaQ]; decide) (hFo _ _ [[-1]] (by simp) (by simp))) 1000 fun v σ hv=>?_
   obtain ⟨rfl,t10,ht10,rfl⟩:=hv
   simp -implicitDefEqProofs (disch:=omega) only [go_sem,↓reduceIte,reduceCtorEq,rq]
   have hUn:=hU [] (by simp) (by simp) (by simp)
   rw [List.append_nil] at hUn
   refine Qy hT QcK hUn (by simp [Qc,Qf,fml]) 1000 ?_
   simp -implicitDefEqProofs (disch:=omega) only [go_sem,↓reduceIte,reduceCtorEq,rA,rq,rT,lC,lN]
   refine Qy hT QJ hWk rfl 1000 ?_
   simp -implicitDefEqProofs (disch:=omega) only [go_sem,↓reduceIte,reduceCtorEq,rq,QaQ,and_true]
 | true =>
   rw [hr] at hRq
   have hl:lits.all (Qac s.S.gs.length)=true:=by
    have:=(QeQ.1 hr).2 lits (by simp)
    refine List.all_eq_true.2 fun n hn=>?_
    simpa [Qac] using this n hn
   have hS:=Pure.args (P:=Tryz.prog) (G:=G) (.cons _ _ _ _ (.refl _) (.cons (.lst z (Qb lits) tg) _ _ _ (.lst z 1 _ _ tg (WkL.refl _) (hz.imp (fun e=>by rw [e]; rfl) id)) .nil)) (QuA (P:=Tryz.prog) (G:=G) hT lits lits (by omega) (by omega))
   rw [decide_eq_true rfl] at hS
   have gl:((s.S.cs++[lits]).map row).getD s.S.cs.length V.any=.lst 1 (Qb lits) false:=by
    rw [List.getD_eq_getElem?_getD,List.getElem?_map,List.getElem?_append_right (lR _),Nat.sub_self]; rfl
   have hlt:((s.S.cs.length:Nat):Int)<((s.S.cs.length+1:Nat):Int):=by omega
   have hlt2:s.S.cs.length<s.S.cs.length+1:=by omega
   have hl0:(0:Int)≤(s.S.cs.length:Int):=by omega
   simp -implicitDefEqProofs (disch:=omega) only [go_sem,↓reduceIte,reduceCtorEq,rA,rq]
   refine call hT QY (Xj (by decide) (by rw [Q7]; decide) (hRq _)) 1000 fun v σ hv=>?_
   obtain ⟨rfl,t7,vn,ht7,rfl⟩:=hv
   simp -implicitDefEqProofs (disch:=omega) only [go_sem,↓reduceIte,reduceCtorEq,rA,rq,nA]
   refine call hT Qt (Xj (by decide) (by rw [QaQ]; decide) (hFo _ _ [lits] (by simp) (by simp; omega))) 3 fun v σ hv=>?_
   obtain ⟨rfl,t8,ht8,rfl⟩:=hv
   unfold fml
   simp -implicitDefEqProofs (disch:=omega) only [go_sem,↓reduceIte,reduceCtorEq,rA,rq,List.append_nil,QaQ,m12,ms12,lC,lN,nA,and_true]
   refine QX (Qpx rfl) ?_
   simp only [Y4,ZP,Qfc,Qlm,Qfd,QjL,Qh9,Qfb,ne_eq,rq,not_false_eq_true]
   refine Qg 1000 ?_
   simp -implicitDefEqProofs (disch:=omega) only [go_sem,↓reduceIte,reduceCtorEq,rA,rq,rL,lC,lN,lM,lA,true_implies,and_true,hw1,hw2,hlt2,hl0,Int.toNat_natCast,gl]
   refine Qy hT QaJ hS (by simp [Qc,Qf]) 1000 ?_
   simp -implicitDefEqProofs (disch:=omega) only [go_sem,↓reduceIte,reduceCtorEq,rA,rq,List.append_nil,lC,lN,nA,and_true]
   refine call hT QY (Xj (by decide) (by rw [QaQ]; decide) (hR1 _ _ [lits] (by simp))) 1000 fun v σ hv=>?_
   obtain ⟨rfl,t9,vm,ht9,rfl⟩:=hv
   simp -implicitDefEqProofs (disch:=omega) only [go_sem,↓reduceIte,reduceCtorEq,rq,nA,cA]
   refine call hT Qt (Xj (by decide) (by rw [QaQ]; decide) (hFo _ _ [lits,[-1]] (by simp) (by simp; omega))) 1000 fun v σ hv=>?_
   obtain ⟨rfl,t10,ht10,rfl⟩:=hv
   simp -implicitDefEqProofs (disch:=omega) only [go_sem,↓reduceIte,reduceCtorEq,rq]
   have hUn:=hU [lits] (by simp; simpa using hl) (by simp) (by simp; omega)
   rw [aA] at hUn
   refine Qy hT QcK hUn (by simp [Qc,Qf,fml]) 1000 ?_
   simp -implicitDefEqProofs (disch:=omega) only [go_sem,↓reduceIte,reduceCtorEq,rA,rq,rT,lC,lN]
   refine Qy hT QJ hWk rfl 1000 ?_
   simp -implicitDefEqProofs (disch:=omega) only [go_sem,↓reduceIte,reduceCtorEq,rq,QaQ,and_true]
end
end Go.Proofs.YtoeicjlflmmmcaaGreatDoor
namespace Go.Proofs.YtoeicjlflmmmcaaGreatDoor
open Go Go.Am Go.Bl Go.Cl
set_option maxRecDepth 100000
variable {P:Program} {G:Nat→Option V}
set_option maxHeartbeats 1000000
section
attribute [local go_sem] nFq cA lC lN nA lR zA zL and_true Xn QJ7 QJ6 QJ5 QJ4 QJ3 Q5 QJV QJU QJT QJS QJR QJQ QJP Xi QJH QJG QJF QJE QJD QJC QJB QJA QJz QJy XT QJp QJo Qu4 QJn QJm QJl QJk QJj QJi QJh QJg XC QJO QJN QoB QoA Qoz Qoy Qox Qow Qov Qou Qot Qos QJM Qvc QJL QJK QJJ QJI Qvb Qva Qu9 Xh QJu QJt QJs QJr QJq Xg QJ2 QJ1 QJ0 QJZ QJY QJX QJW XB QI5 QI4 Qn3 Qn2 Qn1 Qn0 QnZ QnY QnX QnW QnV QnU QI3 QnT QnS QnR QnQ QnP QnO QuX QuW QI2 QI1 QI0 QIZ QuV QuU QuT Qcm QKe QKd QKc QKb QKa QJ9 QJ8 false_implies
abbrev QyT:V:=V.val (Value.pointer none)
variable {i:Int}
theorem Qrh (hT:Qe P tab):Pure P G ZM [QyT,.int .i64 i] fun v=>v=.bool false:=by
 intro t
 refine Qj 0 (zL _) (Qo hT Qz (by simp [XB]) (Qm 1000 ?_))
 simp -implicitDefEqProofs (disch:=omega) only [go_sem,↓reduceIte,reduceCtorEq,rq]
theorem n_Bits (hT:Qe P tab):Pure P G Q4 [QyT,.int .i64 i] fun v=>v=.tup [.lst 0 [] true,.bool false]:=by
 intro t
 refine Qj 0 (zL _) (Qo hT QR (by simp [Xn]) (Qm 1000 ?_))
 simp -implicitDefEqProofs (disch:=omega) only [go_sem,↓reduceIte,reduceCtorEq,rq]
 refine Qy hT Qz (Qrh hT) rfl 1000 ?_
 simp -implicitDefEqProofs (disch:=omega) only [go_sem,↓reduceIte,reduceCtorEq,rq]
theorem QzJ (hT:Qe P tab) {j:Int}:Pure P G Xq [QyT,.int .i64 i,.int .i64 j] fun v=>v=.tup [.int .i64 0,.bool false]:=by
 intro t
 refine Qj 0 (zL _) (Qo hT QQ (by simp [Q5]) (Qm 1000 ?_))
 simp -implicitDefEqProofs (disch:=omega) only [go_sem,↓reduceIte,reduceCtorEq,rA,rq]
 refine Qy hT Qz (Qrh hT) rfl 1000 ?_
 simp -implicitDefEqProofs (disch:=omega) only [go_sem,↓reduceIte,reduceCtorEq,rq]
theorem QK2 (hT:Qe P tab):Pure P G XJ [QyT,.int .i64 i] fun v=>v=.tup [.int .i64 0,.bool false]:=by
 intro t
 refine Qj 0 (zL _) (Qo hT Xc (by simp [Xg]) (Qm 1000 ?_))
 simp -implicitDefEqProofs (disch:=omega) only [go_sem,↓reduceIte,reduceCtorEq,rq]
 refine Qy hT Qz (Qrh hT) rfl 1000 ?_
 simp -implicitDefEqProofs (disch:=omega) only [go_sem,↓reduceIte,reduceCtorEq,rq]
theorem n_New (hT:Qe P tab):Pure P G QdC [QyT] fun v=>v=QyT:=by
 intro t
 refine Qj 0 (zL _) (Qo hT Qan (by simp [Qcm]) (Qm 1000 ?_))
 simp -implicitDefEqProofs (disch:=omega) only [go_sem,↓reduceIte,reduceCtorEq,rq]
theorem Qxl (hT:Qe P tab) {a:V}:Pure P G Zh [QyT,a] fun v=>v=.bool false:=by
 intro t
 refine Qj 0 (zL _) (Qo hT QY (by simp [Xh]) (Qm 1000 ?_))
 simp -implicitDefEqProofs (disch:=omega) only [go_sem,↓reduceIte,reduceCtorEq,rq]
theorem Qxm (hT:Qe P tab):Pure P G QZ [QyT] fun v=>v=.agg [.int .i64 0,.lst 0 [] true]:=by
 intro t
 refine Qj 0 (zL _) (Qo hT Qt (by simp [Xi]) (Qm 1000 ?_))
 simp -implicitDefEqProofs (disch:=omega) only [go_sem,↓reduceIte,reduceCtorEq,rA,rq]
theorem n_Free (hT:Qe P tab):Pure P G Yj [QyT] fun v=>v=.lst 0 [] true:=by
 intro t
 refine Qj 0 (zL _) (Qo hT YY (by simp [XT]) (Qm 1000 ?_))
 simp -implicitDefEqProofs (disch:=omega) only [go_sem,↓reduceIte,reduceCtorEq,rq]
theorem QK3 (hT:Qe P tab):Pure P G Xf [QyT,.agg [.lst 0 [] true,.lst 0 [] true]] fun v=>v=.lst 0 [] true:=by
 intro t
 refine Qj 0 (zL _) (Qo hT QM (by simp [XC]) (Qm 1000 ?_))
 simp -implicitDefEqProofs (disch:=omega) only [go_sem,↓reduceIte,reduceCtorEq,rq]
end
end Go.Proofs.YtoeicjlflmmmcaaGreatDoor
