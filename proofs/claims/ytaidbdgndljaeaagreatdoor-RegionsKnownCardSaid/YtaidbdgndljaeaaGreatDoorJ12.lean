/- The document's Decode: walked. -/
import Derived.Test.YtaidbdgndljaeaaGreatDoorJ7
import Derived.Test.YtaidbdgndljaeaaGreatDoorJ11
import Derived.Test.YtaidbdgndljaeaaGreatDoorJ4
import Derived.Test.YtaidbdgndljaeaaGreatDoorJ6
import Derived.Test.YtaidbdgndljaeaaGreatDoorJ10
import Derived.Test.YtaidbdgndljaeaaGreatDoorJ8
open Nat renaming reduceEqDiff → rq, reduceAdd → rA, reduceLeDiff → rL, reduceLT → rT, zero_add → zA, le_refl → lR, zero_le → zL, add_zero → aZ
open List renaming length_cons → lC, length_nil → lN, take_succ_cons → tS, length_append → lA, nil_append → nA, cons_append → cA, append_assoc → aA, take_nil → tN, take_zero → tZ, length_map → lM
open Bool renaming not_false → nF, not_true → nT
namespace Go.Proofs.YtaidbdgndljaeaaGreatDoor
open Go Go.Am Go.Rv
set_option maxRecDepth 100000
variable {P:Program}
set_option maxHeartbeats 2000000
section
attribute [local go_sem] nF nT aZ lR Nat.succ_ne_zero zA zL decide_false decide_true Qw Ye QCI QCH Qt4 Qt3 Qt2 Qt1 Qt0 QtZ QCG QCF QCE QCD QCC QCB QCA QCz
set_option maxHeartbeats 4000000 in
theorem Qwd (hT:Qk P tab) (w:Int) (h0:0≤w) (h1:w<4294967296):Pure P G0 Qbc [.int .u32 w] fun v=>v=.tup (errT (first w 0 T)):=by
 intro t
 have hl:(T.map fun r=>V.agg (rrC r)).length=65:=by rw [lM,QbF]
 refine Qp 0 (zL _) (Qt hT Qa2 (by simp [Ye]) (Qn 1000 ?_))
 simp -implicitDefEqProofs (disch:=omega) only [go_sem,↓reduceIte,reduceCtorEq,rq]
 refine QN hT QbO (QEP hT) rfl 1000 fun v hv=>?_
 subst hv
 simp -implicitDefEqProofs (disch:=omega) only [go_sem,↓reduceIte,reduceCtorEq,rq]
 refine QcH (fun n fr σ=>∃ i,i≤65∧n=65 - i∧(∀ j r,j<i→T[j]?=some r→is w r=false)∧Qg fr 0=.int .u32 w∧Qg fr 2=.ptr 0 t 0∧Qg fr 3=.int .i64 0∧Qg fr 4=.lst 5 (T.map fun r=>V.agg (rrC r)) true∧Qg fr 5=.int .i64 i ∧
  σ=⟨t+1,[some (.arr t 96 [.int .u8 0,.int .u8 0,.int .u8 0,.int .u8 0,.int .i64 0])]⟩)
  (fun e fr σ=>(e=.ret∧∃ x t' ex,first w 0 T=some x∧Qg fr 2=.ptr 0 t 0∧Qg fr 3=.int .i64 0∧σ=⟨t',some (.arr t 96 (inC x))::ex⟩) ∨
   (e=.ex 0∧first w 0 T=none∧Qg fr 2=.ptr 0 t 0∧σ=⟨t+1,[some (.arr t 96 [.int .u8 0,.int .u8 0,.int .u8 0,.int .u8 0,.int .i64 0])]⟩))
  (m0:=65) ⟨0,by omega,rfl,fun j r h=>by omega,?_⟩ (fun n fr σ hJ=>?_) (fun e fr σ hE=>?_)
 ·simp -implicitDefEqProofs (disch:=omega) only [go_sem,↓reduceIte,reduceCtorEq,rq]
  rfl
 ·obtain ⟨i,hi,rfl,hno,f0,f2,f3,f4,f5,rfl⟩:=hJ
  refine Qn 4 ?_
  rcases Nat.lt_or_ge i 65 with hlt | hge
  ·obtain ⟨r,hk⟩:∃ r,T[i]?=some r:=⟨_,List.getElem?_eq_getElem (by rw [QbF]; omega)⟩
   have hg0:=ZS r (List.mem_of_getElem? hk)
   have hg:(T.map fun r=>V.agg (rrC r)).getD i .any=V.agg [.int .u8 r.form,.str r.name,.int .u32 r.code,.int .u32 r.f3,.int .u32 r.f7]:=by rw [List.getD_eq_getElem?_getD,List.getElem?_map,hk]; rfl
   have hfo:=QjO hg0
   have hF:Forms r.form:=by unfold Forms; rcases hfo with h | h | h | h | h | h | h | h | h <;> simp [h]
   have ci:=c_ris (G:=G0) hT w ⟨h0,h1⟩ hg0
   simp only [rrC] at ci
   have cn:=Qwc (G:=G0) hT w ⟨h0,h1⟩ hF
   have ch:=Qhp (G:=G0) hT r.form hF
   have cf:=fun a ha=>QbD (G:=G0) hT w a 5 ⟨h0,h1⟩ ha (by omega)
   have wz:IntKind.i64.wrap ((i:Int)+1)=((i+1:Nat):Int):=Qd2 hlt (by omega)
   have wy:IntKind.u8.wrap (((i+1:Nat):Int))=(i:Int)+1:=by rw [X8 _ (by simp [IntKind.min,IntKind.signed]; omega) (by simp [IntKind.max,IntKind.signed,IntKind.bits]; omega)]; push_cast; rfl
   simp -implicitDefEqProofs (disch:=omega) only [go_sem,f5]
   iterate 6 (try (refine Qa 4 ?_; simp -implicitDefEqProofs (disch:=omega) only [go_sem,↓reduceIte,reduceCtorEq,rA,rq,f0,f4,f5,hl,hlt,hg]))
   refine QN hT QV ci rfl 3 fun v hv=>?_
   subst hv
   cases his:is w r with
   | false =>
     simp -implicitDefEqProofs (disch:=omega) only [go_sem,↓reduceIte,rq]
     iterate 10 (try (refine Qa 4 ?_; simp -implicitDefEqProofs (disch:=omega) only [go_sem,↓reduceIte,rq,f5,wz]))
     refine ⟨65 - (i+1),_,_,by omega,Shift.refl _ _ _ _,i+1,hlt,rfl,fun j s hj hs=>?_,?_⟩
     ·by_cases hji:j=i
      ·subst hji; rw [hk] at hs; cases hs; exact his
      ·exact hno j s (by omega) hs
     ·simp -implicitDefEqProofs (disch:=omega) only [go_sem,↓reduceIte,reduceCtorEq,rq,f0,f2,f3,f4]
   | true =>
     have hfi:first w 0 T=some (mk i r w):=by
      have:=Qkw h0 h1 (i:=0) ZS Qqt hk his
      rwa [zA] at this
     simp -implicitDefEqProofs (disch:=omega) only [go_sem,↓reduceIte,rq]
     iterate 10 (try (refine Qa 4 ?_; simp -implicitDefEqProofs (disch:=omega) only [go_sem,↓reduceIte,reduceCtorEq,rA,rq,rL,f0,f4,f5,hl,hlt,hg,wz,wy]))
     refine QN hT Qu cn rfl 3 fun v hv=>?_
     subst hv
     simp -implicitDefEqProofs (disch:=omega) only [go_sem,↓reduceIte,rA,rq,rL]
     iterate 10 (try (refine Qa 4 ?_; simp -implicitDefEqProofs (disch:=omega) only [go_sem,↓reduceIte,rA,rq,rL,f4,f5,hl,hlt,hg]))
     refine QN hT Qs ch rfl 3 fun v hv=>?_
     subst hv
     cases hA:QW r.form <;> cases hB:Q1 r.form <;> cases hC:Q5 r.form
     all_goals (
      simp -implicitDefEqProofs (disch:=omega) only [go_sem,↓reduceIte,rA,rq]
      iterate 10 (try (refine Qa 4 ?_; simp -implicitDefEqProofs (disch:=omega) only [go_sem,↓reduceIte,reduceCtorEq,rA,rq,rT,f0,f2]))
      try (refine QN hT Qc (cf 7 (by omega)) rfl 3 fun v hv=>?_; subst hv; simp -implicitDefEqProofs (disch:=omega) only [go_sem,↓reduceIte,rA,rq,rL,Qd3]; iterate 10 (try (refine Qa 4 ?_; simp -implicitDefEqProofs (disch:=omega) only [go_sem,↓reduceIte,reduceCtorEq,rA,rq,f0,f2])))
      try (refine QN hT Qc (cf 15 (by omega)) rfl 3 fun v hv=>?_; subst hv; simp -implicitDefEqProofs (disch:=omega) only [go_sem,↓reduceIte,rA,rq,rL,Qd3]; iterate 10 (try (refine Qa 4 ?_; simp -implicitDefEqProofs (disch:=omega) only [go_sem,↓reduceIte,reduceCtorEq,rA,rq,f0,f2])))
      try (refine QN hT Qc (cf 20 (by omega)) rfl 3 fun v hv=>?_; subst hv; simp -implicitDefEqProofs (disch:=omega) only [go_sem,↓reduceIte,rA,rq,rL,Qd3]; iterate 10 (try (refine Qa 4 ?_; simp -implicitDefEqProofs (disch:=omega) only [go_sem,↓reduceIte,reduceCtorEq,rA,rq,f2])))
      refine ⟨_,_,_,hfi,rfl,List.cons_eq_cons.2 ⟨?_,rfl⟩⟩
      simp only [hA,hB,hC,mk,inC,if_true,if_false,Bool.false_eq_true])
  ·have hi:i=65:=by omega
   subst hi
   simp -implicitDefEqProofs (disch:=omega) only [go_sem,Nat.reduceSub,f5]
   iterate 6 (try (refine Qa 4 ?_; simp -implicitDefEqProofs (disch:=omega) only [go_sem,↓reduceIte,reduceCtorEq,rq,f2,f3,f4,hl,Nat.lt_irrefl]))
   refine Qi0 fun r hr=>?_
   obtain ⟨j,hj⟩:=List.mem_iff_getElem?.1 hr
   have hjl:=(List.getElem?_eq_some_iff.1 hj).1
   rw [QbF] at hjl
   exact hno j r hjl hj
 ·rcases hE with ⟨rfl,x,t',ex,hx,f2,f3,rfl⟩ | ⟨rfl,hx,f2,rfl⟩
  ·refine Qa 1000 ?_
   simp -implicitDefEqProofs (disch:=omega) only [go_sem,↓reduceIte,reduceCtorEq,rA,rq,f2,f3,inC]
   rw [hx]; rfl
  ·refine Qa 1000 ?_
   simp -implicitDefEqProofs (disch:=omega) only [go_sem,↓reduceIte,reduceCtorEq,rA,rq,f2]
   rw [hx]; rfl
end
section
attribute [local go_sem] nF nT aZ lR Nat.mul_one Nat.one_mul Nat.succ_ne_zero zA zL Nat.zero_mul Option.getD_none Option.getD_some Option.isSome_none Option.isSome_some and_true beq_self_eq_true bne_self_eq_false decide_false decide_true false_implies ge_iff_le gt_iff_lt inC Qw not_false_eq_true not_true_eq_false Yx QAB QAA Qtz QAz QAy QAx QAw QAv QAu QAt QAs Yd QAH QAG QAF QAE QAD QAC true_and true_implies
theorem Qxk (op:Int):Qk7 op=rrC (rro op):=by unfold Qk7 rro; split <;> rfl
theorem QoZ (hT:Qk P tab) (x:In) (hx:Zq x):Pure P G0 Qbb [.agg (inC x)] fun u=>u=.tup [.int .u8 (wrs x).1,.bool (wrs x).2]:=by
 intro t
 have hE:=Qo0 hT x hx
 have hO:=Qiy hT x.op hx.1.1 hx.1.2
 have hh:=Qhp (P:=P) (G:=G0) hT (rro x.op).form (Qvl _)
 rw [Qxk,rrC] at hO
 refine Qp 0 (zL _) (Qt hT Qa1 (by simp [Yd]) (Qn 14 ?_))
 simp -implicitDefEqProofs (disch:=omega) only [go_sem,↓reduceIte,reduceCtorEq,rA,rq]
 iterate 9 (try (refine Qa 4 ?_; simp -implicitDefEqProofs (disch:=omega) only [go_sem,↓reduceIte,reduceCtorEq,rA,rq,rL,rT,Nat.reduceSub,Nat.reduceMul,Int.reduceToNat,Int.reduceLE,Int.reduceLT,Int.reduceEq,Int.reduceNe,Nat.reduceBEq,Nat.reduceBNe,Int.reduceBEq,Int.reduceBNe]))
 refine Qf hT QB hE rfl 4 ?_
 simp -implicitDefEqProofs (disch:=omega) only [go_sem,↓reduceIte,reduceCtorEq,rA,rq,rT]
 iterate 9 (try (refine Qa 4 ?_; simp -implicitDefEqProofs (disch:=omega) only [go_sem,↓reduceIte,reduceCtorEq,rA,rq,rL]))
 refine Qf hT QR hO rfl 4 ?_
 simp -implicitDefEqProofs (disch:=omega) only [go_sem,↓reduceIte,reduceCtorEq,rA,rq,rL]
 iterate 9 (try (refine Qa 4 ?_; simp -implicitDefEqProofs (disch:=omega) only [go_sem,↓reduceIte,reduceCtorEq,rA,rq,rL,rT,Nat.reduceSub,Nat.reduceMul,Int.reduceToNat,Int.reduceLE,Int.reduceLT,Int.reduceEq,Int.reduceNe,Nat.reduceBEq,Nat.reduceBNe,Int.reduceBEq,Int.reduceBNe]))
 by_cases h1:(enc T x).2=0
 ·by_cases h2:QW (rro x.op).form=true
  ·by_cases h3:x.rd=0
   ·have hw:wrs x=(0,false):=if_neg (by simp [h3])
    have h3':(x.rd==0)=true:=by simp [h3]
    rw [h2] at hh
    refine Qf hT Qs hh rfl 4 ?_
    simp -implicitDefEqProofs (disch:=omega) only [go_sem,↓reduceIte,reduceCtorEq,rA,rq,rT,h1]
    iterate 16 (try (refine Qa 4 ?_; simp -implicitDefEqProofs (disch:=omega) only [go_sem,↓reduceIte,reduceCtorEq,rA,rq,rL,h3',hw]))
   ·have hw:wrs x=(x.rd,true):=if_pos ⟨h1,h2,h3⟩
    have h3':(x.rd==0)=false:=by simpa using h3
    rw [h2] at hh
    refine Qf hT Qs hh rfl 4 ?_
    simp -implicitDefEqProofs (disch:=omega) only [go_sem,↓reduceIte,reduceCtorEq,rA,rq,rT,h1]
    iterate 16 (try (refine Qa 4 ?_; simp -implicitDefEqProofs (disch:=omega) only [go_sem,↓reduceIte,reduceCtorEq,rA,rq,rL,h3',hw]))
  ·have hw:wrs x=(0,false):=if_neg (by simp [h2])
   rw [Bool.eq_false_iff.2 h2] at hh
   refine Qf hT Qs hh rfl 4 ?_
   simp -implicitDefEqProofs (disch:=omega) only [go_sem,↓reduceIte,reduceCtorEq,rA,rq,rT,h1]
   iterate 16 (try (refine Qa 4 ?_; simp -implicitDefEqProofs (disch:=omega) only [go_sem,↓reduceIte,reduceCtorEq,rA,rq,hw]))
 ·have hw:wrs x=(0,false):=if_neg (by simp [h1])
  have h1':((enc T x).2==0)=false:=by simpa using h1
  have h1'':((enc T x).2=0)=False:=eq_false h1
  refine Qf hT Qs hh rfl 4 ?_
  simp -implicitDefEqProofs (disch:=omega) only [go_sem,↓reduceIte,reduceCtorEq,rA,rq,rT]
  iterate 16 (try (refine Qa 4 ?_; simp -implicitDefEqProofs (disch:=omega) only [go_sem,↓reduceIte,reduceCtorEq,rq,h1',bne,hw]))
theorem Qrv (hT:Qk P tab) (x:In) (hx:Zq x):Pure P G0 Qbs [.agg (inC x)] fun u=>u=.lst 1 (us (rds x)) false:=by
 have hE:=Qo0 hT x hx
 obtain ⟨ho,hd,h1,h2,hi⟩:=hx
 refine Qe5 (fun t=>?_) (Qw4 _)
 refine Qt hT Qbo (by simp [Yx]) (Qn 1000 ?_)
 simp -implicitDefEqProofs (disch:=omega) only [go_sem,↓reduceIte,reduceCtorEq,rA,rq,nA,lC,lN]
 refine Qf hT QB hE rfl 1000 ?_
 by_cases hok:(enc T x).2=0
 ·have hr:rds x=Qeb x.rs1 x.rs2:=if_pos hok
  have e1:(if x.rs2<x.rs1 then x.rs2 else x.rs1)=min x.rs1 x.rs2:=by rw [Int.min_def]; split <;> split <;> omega
  have e2:(if x.rs1<x.rs2 then x.rs2 else x.rs1)=max x.rs1 x.rs2:=by rw [Int.max_def]; split <;> split <;> omega
  unfold Qeb at hr
  have hn2:∀ a b:Int,Qb [V.int .u8 a,V.int .u8 b]=true:=fun _ _=>rfl
  have hn1:∀ a:Int,Qb [V.int .u8 a]=true:=fun _=>rfl
  by_cases p:0<min x.rs1 x.rs2 <;> by_cases q:min x.rs1 x.rs2<max x.rs1 x.rs2
  ·rw [if_pos p,if_pos q] at hr
   simp -implicitDefEqProofs (disch:=omega) only [go_sem,↓reduceIte,reduceCtorEq,rA,rq,rL,rT,cA,nA,lC,lN,hok,e1,e2,p,q,hr]
   have:=Qu7 (k:=1) (w:=t+1+1) [min x.rs1 x.rs2,max x.rs1 x.rs2]
   exact ⟨1,t+1+1,_,_,rfl,hn2 _ _,by erw [this]; exact Qw4 _,by erw [this]; exact .refl _⟩
  ·rw [if_pos p,if_neg q] at hr
   simp -implicitDefEqProofs (disch:=omega) only [go_sem,↓reduceIte,reduceCtorEq,rA,rq,rL,rT,cA,nA,lC,lN,hok,e1,e2,p,q,hr]
   have:=Qu7 (k:=1) (w:=t+1) [min x.rs1 x.rs2]
   exact ⟨1,t+1,_,_,rfl,hn1 _,by erw [this]; exact Qw4 _,by erw [this]; exact .refl _⟩
  ·rw [if_neg p,if_pos q] at hr
   simp -implicitDefEqProofs (disch:=omega) only [go_sem,↓reduceIte,reduceCtorEq,rA,rq,rL,rT,cA,nA,lC,lN,hok,e1,e2,p,q,hr]
   have:=Qu7 (k:=1) (w:=t+1) [max x.rs1 x.rs2]
   exact ⟨1,t+1,_,_,rfl,hn1 _,by erw [this]; exact Qw4 _,by erw [this]; exact .refl _⟩
  ·rw [if_neg p,if_neg q] at hr
   simp -implicitDefEqProofs (disch:=omega) only [go_sem,↓reduceIte,reduceCtorEq,rA,rq,rL,rT,nA,lC,lN,hok,e1,e2,p,q,hr]
   exact .inl (.lst 0 1 [] [] true .nil (.inl rfl))
 ·have hok':((enc T x).2=0)=False:=eq_false hok
  have hr:rds x=[]:=if_neg hok
  simp -implicitDefEqProofs (disch:=omega) only [go_sem,↓reduceIte,reduceCtorEq,rA,rq,rL,rT,cA,nA,lC,lN,hok',hr]
  exact .inl (.lst 0 1 [] [] true .nil (.inl rfl))
end
end Go.Proofs.YtaidbdgndljaeaaGreatDoor
namespace Go.Proofs.YtaidbdgndljaeaaGreatDoor
open Go Go.Am Go.Rv Go.Rg
set_option maxRecDepth 100000
set_option maxHeartbeats 2000000
section
attribute [local go_sem] nF nT cA lM nA aZ lR Nat.mul_one Nat.one_mul Nat.succ_ne_zero zA zL Nat.zero_mul Option.getD_none Option.getD_some Option.isSome_none Option.isSome_some V.cells and_true beq_self_eq_true bne_self_eq_false dC decide_false decide_true false_implies ge_iff_le XP gt_iff_lt inC Q9 Qw not_false_eq_true not_true_eq_false Xy QCw QCv QkS QkR QkQ QkP QkO QCu QCt QqP QqO QqN QqM QnU QnT true_and true_implies us
abbrev skJ (x:In) (w:Nat) (o:List (Option Ob)):Nat→Fr→H→Prop:=fun i fr σ=>∃ t,Qg fr 5=.ptr 1 w 0∧Qg fr 6=.int .u8 (wrs x).1∧Qg fr 7=.bool (wrs x).2∧Qg fr 8=.lst 1 (us (rds x)) false∧Qg fr 9=.bool (decide ((2:Int)∈(rds x).take i))∧Qg fr 10=.int .i64 ((i:Nat):Int)∧σ=⟨t,o⟩
abbrev skE (x:In) (w:Nat) (o:List (Option Ob)):AE→Fr→H→Prop:=fun e fr σ=>∃ t,e=.ex 0∧Qg fr 5=.ptr 1 w 0∧Qg fr 6=.int .u8 (wrs x).1∧Qg fr 7=.bool (wrs x).2∧Qg fr 8=.lst 1 (us (rds x)) false∧Qg fr 9=.bool (decide ((2:Int)∈rds x))∧σ=⟨t,o⟩
variable {fr:Fr} {o:List (Option Ob)} {w t:Nat} {x:In} {G:Nat→Option V} {P:Program}
theorem Qxg {i:Nat} {n:Int} (hn:(rds x)[i]?=some n) {σ:H} (hJ:skJ x w o i fr σ) :
 W P G 89 0 (.seq (zg QnU [36,37,38] (zw 39 .skip (.exit 0))) (.seq (.block 1 (.reg QnT [42,43,44,45,46,47,48,49])) (.reg QkS [40,41]))) fr σ (QbQ (fun fr σ=>∃ fr' σ',Shift G 89 0 fr σ fr' σ'∧skJ x w o (i+1) fr' σ') (skE x w o)):=by
 obtain ⟨t,f5,f6,f7,f8,f9,f10,rfl⟩:=hJ
 have hlt:=(List.getElem?_eq_some_iff.1 hn).1
 have hl:=QpS x
 have e2:=ZT hlt (by omega)
 have hD:((rds x).map (V.int .u8)).getD i V.any=.int .u8 n:=by simp [List.getD_eq_getElem?_getD,hn]
 have htk:(rds x).take (i+1)=(rds x).take i++[n]:=ZW hn
 have hmem:decide ((2:Int)∈(rds x).take (i+1))=(decide ((2:Int)∈(rds x).take i) || decide (n=2)):=by
  rw [htk,Bool.eq_iff_iff]
  simp only [List.mem_append,List.mem_singleton,Bool.or_eq_true,decide_eq_true_eq]
  exact or_congr Iff.rfl eq_comm
 cases hb:decide ((2:Int)∈(rds x).take i) with
 | true =>
   rw [hb] at hmem f9
   rw [Bool.true_or] at hmem
   refine Qh [(5,.ptr 1 w 0),(6,.int .u8 (wrs x).1),(7,.bool (wrs x).2),(8,.lst 1 (us (rds x)) false),(9,.bool true),(10,.int .i64 ((i:Nat):Int))] ⟨f5,f6,f7,f8,f9,f10,trivial⟩  20 ?_
   simp -implicitDefEqProofs (disch:=omega) only [go_sem,↓reduceIte,rq,hlt]
   iterate 9 (try (refine Qa 4 ?_; simp -implicitDefEqProofs (disch:=omega) only [go_sem,↓reduceIte,rq,e2]))
   refine ⟨_,_,Shift.refl _ _ _ _,t,rfl,rfl,rfl,rfl,?_,rfl,rfl⟩
   rw [hmem]; rfl
 | false =>
   rw [hb] at hmem f9
   rw [Bool.false_or] at hmem
   refine Qh [(5,.ptr 1 w 0),(6,.int .u8 (wrs x).1),(7,.bool (wrs x).2),(8,.lst 1 (us (rds x)) false),(9,.bool false),(10,.int .i64 ((i:Nat):Int))] ⟨f5,f6,f7,f8,f9,f10,trivial⟩  20 ?_
   simp -implicitDefEqProofs (disch:=omega) only [go_sem,↓reduceIte,rA,rq,hlt,hD]
   iterate 9 (try (refine Qa 4 ?_; simp -implicitDefEqProofs (disch:=omega) only [go_sem,↓reduceIte,rq,e2]))
   refine ⟨_,_,Shift.refl _ _ _ _,t,rfl,rfl,rfl,rfl,?_,rfl,rfl⟩
   rw [hmem,← QlT]; rfl
variable {Q:V→H→Prop}
theorem QFR {d:Int} {b m:Bool} (ho:o[1]?=some (some (.arr w 96 (inC x)))) (f5:Qg fr 5=.ptr 1 w 0) (f6:Qg fr 6=.int .u8 d) (f7:Qg fr 7=.bool b) (f9:Qg fr 9=.bool m)
 (hk:Q (.bool (!(b&&decide (d=2))&&(!m || baseD x))) ⟨t,o⟩):W P G 89 0 (.seq (zg QkR [50,51,52,53] (zw 54 (zg QkQ [] .ret) .skip)) (zg QkP [55,56,57,58,59,60,61,62,63,64,65,66,67,68,69,70,71,72,73,74,75,76,77,78,79,80,81,82,83] (zg QkO [84,85,86,87,88] .ret))) fr ⟨t,o⟩ (QvY G [RV.tmp 4] Q):=by
 have n14:(x.op != 14) = !(x.op==14):=rfl
 have hbase:baseD x=(((x.op==14) || ((x.op==21) || (x.op==10)))&&((x.rs1==2)&&!((x.rs2==2)&&!(x.op==14)))):=by unfold baseD; simp only [QlT]
 rw [hbase,← QlT] at hk
 generalize h14:(x.op==14)=b14 at *
 generalize h21:(x.op==21)=b21 at *
 generalize h10:(x.op==10)=b10 at *
 generalize h1:(x.rs1==2)=b1 at *
 generalize h2:(x.rs2==2)=b2 at *
 generalize hd:(d==2)=bd at *
 simp only [inC] at ho
 refine Qh [(5,.ptr 1 w 0),(6,.int .u8 d),(7,.bool b),(9,.bool m)] ⟨f5,f6,f7,f9,trivial⟩  20 ?_
 simp -implicitDefEqProofs (disch:=omega) only [go_sem,↓reduceIte,rA,rq,rL,ho,h14,h21,hd]
 repeat' (first | with_reducible refine And.intro ?_ ?_ | (intro hq; subst hq) | (refine Qa 4 ?_; simp -implicitDefEqProofs (disch:=omega) only [go_sem,↓reduceIte,rA,rq,rL,ho,n14,h10,h1,h2]))
 all_goals simpa using hk
theorem sk_mid (hT:Qk Tryz.prog tab) (hxo:Zq x) (ho:o[1]?=some (some (.arr w 96 (inC x)))) (f5:Qg fr 5=.ptr 1 w 0)
 (hk:∀ t,Q (.bool (!((wrs x).2&&decide ((wrs x).1=2))&&(!decide ((2:Int)∈rds x) || baseD x))) ⟨t,o⟩):W Tryz.prog G0 89 0 wa fr ⟨t,o⟩ (QvY G0 [RV.tmp 4] Q):=by
 have hW:=QoZ hT x hxo
 have hS:=Qrv hT x hxo
 have ho':=ho
 simp only [inC] at hW hS ho'
 refine Qh [(5,.ptr 1 w 0)] ⟨f5,trivial⟩  20 ?_
 simp -implicitDefEqProofs (disch:=omega) only [go_sem,↓reduceIte,reduceCtorEq,rA,rq,ho']
 refine Qf hT Qa1 hW rfl 12 ?_
 simp -implicitDefEqProofs (disch:=omega) only [go_sem,↓reduceIte,reduceCtorEq,rA,rq,rT,ho']
 iterate 4 (try (refine Qa 4 ?_; simp -implicitDefEqProofs (disch:=omega) only [go_sem,↓reduceIte,reduceCtorEq,rA,rq,rL,rT,Nat.reduceSub,Nat.reduceMul,Int.reduceToNat,Int.reduceLE,Int.reduceLT,Int.reduceEq,Int.reduceNe,Nat.reduceBEq,Nat.reduceBNe,Int.reduceBEq,Int.reduceBNe,ho']))
 refine Qf hT Qbo hS rfl 12 ?_
 simp -implicitDefEqProofs (disch:=omega) only [go_sem,↓reduceIte,rq]
 refine Xn (rds x) (skJ x w o) (skE x w o) ⟨t,?_⟩ (fun i n hn fr σ hJ=>Qxg hn hJ) (fun i hi fr σ hJ=>?_) (fun e fr σ hE=>?_)
 ·simp -implicitDefEqProofs (disch:=omega) only [go_sem,↓reduceIte,rq]
  try simp []
 ·obtain ⟨t2,f5,f6,f7,f8,f9,f10,rfl⟩:=hJ
  rw [hi,List.take_length] at f9
  refine Qh [(5,.ptr 1 w 0),(6,.int .u8 (wrs x).1),(7,.bool (wrs x).2),(8,.lst 1 (us (rds x)) false),(9,.bool (decide ((2:Int)∈rds x))),(10,.int .i64 ((i:Nat):Int))] ⟨f5,f6,f7,f8,f9,f10,trivial⟩  12 ?_
  simp -implicitDefEqProofs (disch:=omega) only [go_sem,↓reduceIte,rq,hi,Nat.lt_irrefl]
  exact ⟨t2,rfl,rfl,rfl,rfl,rfl,rfl,rfl⟩
 ·obtain ⟨t2,rfl,f5,f6,f7,f8,f9,rfl⟩:=hE
  refine YE [(5,.ptr 1 w 0),(6,.int .u8 (wrs x).1),(7,.bool (wrs x).2),(8,.lst 1 (us (rds x)) false),(9,.bool (decide ((2:Int)∈rds x)))] ⟨f5,f6,f7,f8,f9,trivial⟩ 0 ?_
  exact QFR ho rfl rfl rfl rfl (hk t2)
theorem Qyw (hT:Qk Tryz.prog tab) (c:List In) (F:Int) (hd:Dec c) (hF:0≤F) (hl:c.length≤1000000) {k:Nat} (hx:c[k]?=some x) (hxo:Zq x):Am.Pure Tryz.prog G0 Z7 [.agg (dC c F),.int .i64 ((k:Nat):Int)] fun v=>v=.bool (QaH c F k x):=by
 intro t
 have hlt:=(List.getElem?_eq_some_iff.1 hx).1
 have hD:=Xo hx
 have hR:=Qwi (P:=Tryz.prog) (G:=G0) hT c F hd hF (k:Int) hl (by omega)
 have hn:Qb [.agg (dC c F),.int .i64 (k:Int)]=true:=by simp [Qb,Qd,Qja]
 have hW:=QoZ hT x hxo
 have hS:=Qrv hT x hxo
 rw [Qva (hd x (List.mem_of_getElem? hx))]
 have hlen:=QpS x
 simp only [inC] at hD hW hS
 simp only [dC,Q9,XP,inC] at hR hn
 refine Qp 0 (zL _) (Qt hT ZZ (by simp [Xy]) (Qn 30 ?_))
 by_cases h00:k=0∧0<F
 ·have g1:((k:Int)==0)=true:=by simp [h00.1]
  have g1':((k:Int)=0)=True:=eq_true (by omega)
  have g2:decide (0<F)=true:=decide_eq_true h00.2
  have g2':(0<F)=True:=eq_true h00.2
  simp -implicitDefEqProofs (disch:=omega) only [go_sem,↓reduceIte,reduceCtorEq,rA,rq,rL,hlt,hD,g1,g2']
  iterate 16 (try (refine Qa 4 ?_; simp -implicitDefEqProofs (disch:=omega) only [go_sem,↓reduceIte,reduceCtorEq,rA,rq]))
  simp [h00.1]
 have hz:(decide (k=0)&&decide (0<F))=false:=by
  rw [Bool.eq_false_iff]; simp; omega
 rw [hz,Bool.false_or]
 have hwr:(!decide (wrs x=(2,true))) = !((wrs x).2&&decide ((wrs x).1=2)):=by
  obtain ⟨p,q⟩:=wrs x
  cases q <;> simp
 rw [hwr]
 have ho:([some (.arr t 87 (dC c F)),some (.arr (t+1) 96 (inC x))]:List (Option Ob))[1]?=some (some (.arr (t+1) 96 (inC x))):=rfl
 have hrest:∀ (fr:Fr) (t2:Nat),Qg fr 5=.ptr 1 (t+1) 0→XS c F k=false→W Tryz.prog G0 89 0 wa fr ⟨t2,[some (.arr t 87 (dC c F)),some (.arr (t+1) 96 (inC x))]⟩ (QvY G0 [RV.tmp 4] (Keep 0 fun v _=>Qd v=true∧v=.bool (!((wrs x).2&&decide ((wrs x).1=2))&&(!decide ((2:Int)∈rds x) || baseD x)))):=fun fr t2 f5 _=>by
  refine sk_mid hT hxo ho f5 fun t3=>?_
  exact ⟨zL _,rfl,rfl⟩
 simp only [dC,Q9,XP,inC] at hrest
 by_cases g0:k=0
 ·have g1:((k:Int)==0)=true:=by simp [g0]
  have g1':((k:Int)=0)=True:=eq_true (by omega)
  have g2:decide (0<F)=false:=decide_eq_false (by omega)
  have g2':(0<F)=False:=eq_false (by omega)
  simp -implicitDefEqProofs (disch:=omega) only [go_sem,↓reduceIte,reduceCtorEq,rA,rq,rL,hlt,hD,g1,g2']
  iterate 16 (try (refine Qa 4 ?_; simp -implicitDefEqProofs (disch:=omega) only [go_sem,↓reduceIte,reduceCtorEq,rA,rq,rL,rT,Nat.reduceSub,Nat.reduceMul,Int.reduceToNat,Int.reduceLE,Int.reduceLT,Int.reduceEq,Int.reduceNe,Nat.reduceBEq,Nat.reduceBNe,Int.reduceBEq,Int.reduceBNe,hlt,hD,g1,g1',g2,g2']))
  refine Qf hT Xv hR hn 4 ?_
  cases hr:XS c F k with
  | true =>
    simp -implicitDefEqProofs (disch:=omega) only [go_sem,↓reduceIte,reduceCtorEq,rq]
    iterate 4 (try (refine Qa 4 ?_; simp -implicitDefEqProofs (disch:=omega) only [go_sem,↓reduceIte,reduceCtorEq,rA,rq]))
    try simp
  | false =>
    rw [Bool.false_or]
    simp -implicitDefEqProofs (disch:=omega) only [go_sem,↓reduceIte,reduceCtorEq,rq]
    exact hrest _ _ rfl hr
 ·have g1:((k:Int)==0)=false:=by rw [QlT]; exact decide_eq_false (by omega)
  have g1':((k:Int)=0)=False:=eq_false (by omega)
  simp -implicitDefEqProofs (disch:=omega) only [go_sem,↓reduceIte,reduceCtorEq,rA,rq,rL,hlt,hD,g1]
  iterate 16 (try (refine Qa 4 ?_; simp -implicitDefEqProofs (disch:=omega) only [go_sem,↓reduceIte,reduceCtorEq,rA,rq,rL,rT,Nat.reduceSub,Nat.reduceMul,Int.reduceToNat,Int.reduceLE,Int.reduceLT,Int.reduceEq,Int.reduceNe,Nat.reduceBEq,Nat.reduceBNe,Int.reduceBEq,Int.reduceBNe,hlt,hD,g1,g1']))
  refine Qf hT Xv hR hn 4 ?_
  cases hr:XS c F k with
  | true =>
    simp -implicitDefEqProofs (disch:=omega) only [go_sem,↓reduceIte,reduceCtorEq,rq]
    iterate 4 (try (refine Qa 4 ?_; simp -implicitDefEqProofs (disch:=omega) only [go_sem,↓reduceIte,reduceCtorEq,rA,rq]))
    try simp
  | false =>
    rw [Bool.false_or]
    simp -implicitDefEqProofs (disch:=omega) only [go_sem,↓reduceIte,reduceCtorEq,rq]
    exact hrest _ _ rfl hr
end
section
attribute [local go_sem] nF nT cA lM nA aZ lR Nat.mul_one Nat.one_mul Nat.succ_ne_zero zA zL Nat.zero_mul Option.getD_none Option.getD_some Option.isSome_none Option.isSome_some V.cells and_true beq_self_eq_true bne_self_eq_false QF dC decide_false decide_true false_implies ge_iff_le XP gt_iff_lt X5 QaY inC Q9 Qw not_false_eq_true not_true_eq_false Xr QCs QCr QtY QmR QmQ QmP QmO QCq QCp QCo QCn QtX QtW QtV QtU QU true_and true_implies
abbrev tgH (c:List In) (F:Int) (m:Im) (x:In) (w0 w1 w2:Nat):List (Option Ob):=[some (.arr w0 87 (dC c F)),some (.arr w1 93 (X5 m)),some (.arr w2 96 (inC x))]
abbrev tgJ (c:List In) (F:Int) (m:Im) (x:In) (w0 w1 w2:Nat) (pl:Int) (k:Nat):Nat→Fr→H→Prop:=fun j fr σ=>∃ t,(∀ a∈(ats m).take j,a≠pl+4 * k+x.imm)∧Qg fr 2=.int .i64 pl∧Qg fr 3=.int .i64 ((k:Nat):Int)∧Qg fr 5=.ptr 1 w1 0∧Qg fr 9=.ptr 2 w2 0∧Qg fr 10=.int .i64 ((j:Nat):Int)∧σ=⟨t,tgH c F m x w0 w1 w2⟩
abbrev tgE (c:List In) (F:Int) (m:Im) (x:In) (w0 w1 w2:Nat) (pl:Int) (k:Nat):AE→Fr→H→Prop:=fun e fr σ=>∃ t,σ=⟨t,tgH c F m x w0 w1 w2⟩∧((e=.ret∧Qg fr 8=.bool true∧pl+4 * k+x.imm∈ats m)∨(e=.ex 0∧pl+4 * k+x.imm ∉ ats m))
variable {fr:Fr} {w0 w1 w2 k:Nat} {x:In} {m:Im} {F pl:Int} {c:List In}
theorem Qw8 {P:Program} {G:Nat→Option V} (hs:m.syms.length≤1000) (hb:-1099511627776≤x.imm∧x.imm≤1099511627776) (hpl:0≤pl∧pl≤1099511627776) (hk:k≤1000000) {j:Nat} {s:List UInt8 × Int} (hj:m.syms[j]?=some s) {σ:H} (hJ:tgJ c F m x w0 w1 w2 pl k j fr σ) :
 W P G 90 0 (.seq (zg QtX [34,35,36,37] (zw 38 .skip (.exit 0))) (.seq (.block 1 (zg QtW [41,42,43,44,45,46,47,48,49,50,51,52,53] (zw 54 (zg QtV [] .ret) .skip))) (.reg QtU [39,40]))) fr σ (QbQ (fun fr σ=>∃ fr' σ',Shift G 90 0 fr σ fr' σ'∧tgJ c F m x w0 w1 w2 pl k (j+1) fr' σ') (tgE c F m x w0 w1 w2 pl k)):=by
 obtain ⟨t,hno,f2,f3,f5,f9,f10,rfl⟩:=hJ
 have hlt:=(List.getElem?_eq_some_iff.1 hj).1
 have e2:=ZT hlt (by omega)
 have hD:(m.syms.map Qju).getD j V.any=.agg [.str s.1,.int .i64 s.2]:=by rw [QhY hj]; rfl
 have hat:(ats m)[j]?=some s.2:=by unfold ats; rw [List.getElem?_map,hj]; rfl
 have v1:IntKind.i64.wrap (4 * (k:Int))=4 * (k:Int):=XA (by omega)
 have v2:IntKind.i64.wrap (pl+4 * (k:Int))=pl+4 * (k:Int):=XA (by omega)
 have v3:IntKind.i64.wrap (pl+4 * (k:Int)+x.imm)=pl+4 * (k:Int)+x.imm:=XA (by omega)
 refine Qh [(2,.int .i64 pl),(3,.int .i64 ((k:Nat):Int)),(5,.ptr 1 w1 0),(9,.ptr 2 w2 0),(10,.int .i64 ((j:Nat):Int))] ⟨f2,f3,f5,f9,f10,trivial⟩  20 ?_
 by_cases h:s.2=pl+4 * k+x.imm
 ·have h':(s.2==pl+4 * k+x.imm)=true:=by simp [h]
  simp -implicitDefEqProofs (disch:=omega) only [go_sem,↓reduceIte,rA,rq,rL,hlt,hD]
  iterate 6 (try (refine Qa 4 ?_; simp -implicitDefEqProofs (disch:=omega) only [go_sem,↓reduceIte,rA,rq,v1,v2,v3,h']))
  exact ⟨t,rfl,.inl ⟨rfl,rfl,h▸List.mem_of_getElem? hat⟩⟩
 ·have h':(s.2==pl+4 * k+x.imm)=false:=by simp [h]
  simp -implicitDefEqProofs (disch:=omega) only [go_sem,↓reduceIte,rA,rq,rL,hlt,hD]
  iterate 6 (try (refine Qa 4 ?_; simp -implicitDefEqProofs (disch:=omega) only [go_sem,↓reduceIte,rA,rq,v1,v2,v3,h',e2]))
  refine ⟨_,_,Shift.refl _ _ _ _,t,fun a ha=>?_,rfl,rfl,rfl,rfl,rfl,rfl⟩
  rw [ZW hat,List.mem_append,List.mem_singleton] at ha
  rcases ha with ha | rfl
  ·exact hno a ha
  ·exact h
theorem QFM (hT:Qk Tryz.prog tab) {t:Nat} (hd:Dec c) (hF:0≤F) (hl:c.length≤1000000) (hx:c[k]?=some x) (hb:-1099511627776≤x.imm∧x.imm≤1099511627776) {Q:V→H→Prop} (f3:Qg fr 3=.int .i64 ((k:Nat):Int)) (f4:Qg fr 4=.ptr 0 w0 0) (f9:Qg fr 9=.ptr 2 w2 0)
 (hk:Q (.bool (Yh x&&(decide (x.imm.tmod 4=0)&&(decide (0<tgt x k)&&(decide (tgt x k<c.length)&&!(decide (0<F)&&ret c F (tgt x k))))))) ⟨t,tgH c F m x w0 w1 w2⟩) :
 W Tryz.prog G0 90 0 we fr ⟨t,tgH c F m x w0 w1 w2⟩ (QvY G0 [RV.tmp 8] Q):=by
 have hlt:=(List.getElem?_eq_some_iff.1 hx).1
 have hJ:=Qqk (P:=Tryz.prog) (G:=G0) hT c F hx
 have hn:∀ i,Qb [.agg (dC c F),.int .i64 i]=true:=fun i=>by simp [Qb,Qd,Qja]
 have h4:=QrP (n:=x.imm) (by omega)
 have v1:IntKind.i64.wrap (x.imm.tdiv 4)=x.imm.tdiv 4:=XA (by omega)
 have v2:IntKind.i64.wrap ((k:Int)+x.imm.tdiv 4)=tgt x k:=by rw [XA (by omega)]; rfl
 have hm4:IntKind.i64.wrap (x.imm.tmod 4)=x.imm.tmod 4:=by
  have:=Int.tmod_lt_of_pos x.imm (b:=4) (by omega)
  have:=Int.lt_tmod_of_pos x.imm (b:=4) (by omega)
  exact XA (by omega)
 have hR:decide (tgt x k<1)=false→decide ((c.length:Int)≤tgt x k)=false→Am.Pure Tryz.prog G0 Yq [.agg (dC c F),.int .i64 (tgt x k)] fun v=>v=.bool (ret c F (tgt x k)):=fun a b=>Qrw (P:=Tryz.prog) (G:=G0) hT c F hd hF (tgt x k) hl (by simp at a b; omega)
 have hq:(Yh x&&(decide (x.imm.tmod 4=0)&&(decide (0<tgt x k)&&(decide (tgt x k<c.length)&&!(decide (0<F)&&ret c F (tgt x k))))))=(Yh x&&(!(x.imm.tmod 4 != 0)&&(!decide (tgt x k<1)&&(!decide ((c.length:Int)≤tgt x k)&&((F==0) || !ret c F (tgt x k)))))):=by
  have a1:decide (0<tgt x k) = !decide (tgt x k<1):=by rw [← decide_not]; congr 1; rw [eq_iff_iff]; omega
  have a2:decide (tgt x k<(c.length:Int)) = !decide ((c.length:Int)≤tgt x k):=by rw [← decide_not]; congr 1; rw [eq_iff_iff]; omega
  have a3:decide (0<F) = !(F==0):=by rw [QlT,← decide_not]; congr 1; rw [eq_iff_iff]; omega
  have a4:decide (x.imm.tmod 4=0) = !(x.imm.tmod 4 != 0):=by simp [bne,QlT]
  rw [a1,a2,a3,a4]
  cases (F==0) <;> simp
 rw [hq] at hk
 simp only [dC,Q9,XP,inC] at hJ hn hR
 generalize Yh x=bj at *
 generalize ret c F (tgt x k)=br at *
 generalize e1:(x.imm.tmod 4 != 0)=b1 at *
 generalize e2:decide (tgt x k<1)=b2 at *
 generalize e3:decide ((c.length:Int)≤tgt x k)=b3 at *
 generalize e4:(F==0)=b4 at *
 refine Qh [(3,.int .i64 ((k:Nat):Int)),(4,.ptr 0 w0 0),(9,.ptr 2 w2 0)] ⟨f3,f4,f9,trivial⟩  20 ?_
 simp -implicitDefEqProofs (disch:=omega) only [go_sem,↓reduceIte,reduceCtorEq,rA,rq,Int.reduceEq,v1,v2]
 repeat' (first | with_reducible refine And.intro ?_ ?_ | (intro hq; subst hq) | (refine Qf hT Xp hJ (hn _) 4 ?_; simp -implicitDefEqProofs (disch:=omega) only [go_sem,↓reduceIte,rA,rq]) | (refine Qf hT Q7 (hR rfl rfl) (hn _) 4 ?_; simp -implicitDefEqProofs (disch:=omega) only [go_sem,↓reduceIte,rA,rq]) | (refine Qa 4 ?_; simp -implicitDefEqProofs (disch:=omega) only [go_sem,↓reduceIte,reduceCtorEq,rA,rq,rL,Int.reduceEq,e1,e2,e3,e4]))
 all_goals simpa using hk
theorem Qwg (hT:Qk Tryz.prog tab) (c:List In) (F:Int) (m:Im) (hd:Dec c) (hF:0≤F) (hl:c.length≤1000000) (hs:m.syms.length≤1000) (hx:c[k]?=some x) (hb:-1099511627776≤x.imm∧x.imm≤1099511627776) (hpl:0≤pl∧pl≤1099511627776) :
 Am.Pure Tryz.prog G0 ZQ [.agg (dC c F),QaY m,.int .i64 pl,.int .i64 ((k:Nat):Int)] fun v=>v=.bool (XN (ats m) pl c F k x):=by
 intro t
 have hlt:=(List.getElem?_eq_some_iff.1 hx).1
 have hD:=Xo hx
 have hB:=Qo1 (P:=Tryz.prog) (G:=G0) hT x
 simp only [inC] at hD
 refine Qp 0 (zL _) (Qt hT ZN (by simp [Xr]) ?_)
 have htail:∀ (fr:Fr) (t2:Nat),Qg fr 3=.int .i64 ((k:Nat):Int)→Qg fr 4=.ptr 0 t 0→Qg fr 9=.ptr 2 (t+1+1) 0→(x.op=3→x.rd≠1)→(Xd x=true∨x.op=3) →
  W Tryz.prog G0 90 0 we fr ⟨t2,tgH c F m x t (t+1) (t+1+1)⟩ (QvY G0 [RV.tmp 8] (Keep 0 fun v _=>Qd v=true∧v=.bool (XN (ats m) pl c F k x))):=fun fr t2 f3 f4 f9 h1 h2=>by
  refine QFM hT hd hF hl hx hb f3 f4 f9 ?_
  have he:XN (ats m) pl c F k x=(Yh x&&(decide (x.imm.tmod 4=0)&&(decide (0<tgt x k)&&(decide (tgt x k<c.length)&&!(decide (0<F)&&ret c F (tgt x k)))))):=by
   unfold XN
   cases hj:Yh x with
   | true=>simp
   | false =>
     have h3:x.op=3:=by
      rcases h2 with h2 | h2
      ·unfold Yh at hj; rw [h2] at hj; simp at hj
      ·exact h2
     simp [h3,h1 h3]
  rw [he]
  exact ⟨zL _,rfl,rfl⟩
 simp only [tgH,dC,Q9,XP,inC,X5,QU,QF] at htail
 by_cases a3:x.op=3
 ·have a3':(x.op==3)=true:=by simp [a3]
  have a3n:(x.op != 3)=false:=by simp [a3]
  have hbr:Xd x=false:=by unfold Xd; simp [a3]
  by_cases a4:x.rd=1
  ·have a4':(x.rd==1)=true:=by simp [a4]
   have he:XN (ats m) pl c F k x=decide (pl+4 * k+x.imm∈ats m):=by
    unfold XN Yh
    simp [hbr,a3,a4]
   rw [he]
   refine Qn 31 ?_
   simp -implicitDefEqProofs (disch:=omega) only [go_sem,↓reduceIte,reduceCtorEq,rA,rq,rL,hlt,hD,a3n]
   iterate 6 (try (refine Qa 4 ?_; simp -implicitDefEqProofs (disch:=omega) only [go_sem,↓reduceIte,reduceCtorEq,rA,rq,rL,a3',a4']))
   refine Xn m.syms (tgJ c F m x t (t+1) (t+1+1) pl k) (tgE c F m x t (t+1) (t+1+1) pl k) ⟨t+1+1+1,by simp,?_⟩ (fun j s hj fr σ hJ=>Qw8 hs hb hpl (by omega) hj hJ) (fun j hj fr σ hJ=>?_) (fun e fr σ hE=>?_)
   ·simp -implicitDefEqProofs (disch:=omega) only [go_sem,↓reduceIte,reduceCtorEq,rq]
    exact ⟨rfl,rfl⟩
   ·obtain ⟨t2,hno,f2,f3,f5,f9,f10,rfl⟩:=hJ
    rw [hj] at hno
    have hal:(ats m).length=m.syms.length:=by simp [ats]
    rw [← hal,List.take_length] at hno
    refine Qh [(2,.int .i64 pl),(3,.int .i64 ((k:Nat):Int)),(5,.ptr 1 (t+1) 0),(9,.ptr 2 (t+1+1) 0),(10,.int .i64 ((j:Nat):Int))] ⟨f2,f3,f5,f9,f10,trivial⟩  20 ?_
    simp -implicitDefEqProofs (disch:=omega) only [go_sem,↓reduceIte,rA,rq,rL,hj,Nat.lt_irrefl]
    exact ⟨t2,rfl,.inr ⟨rfl,fun h=>hno _ h rfl⟩⟩
   ·obtain ⟨t2,rfl,hE⟩:=hE
    rcases hE with ⟨rfl,f8,hin⟩ | ⟨rfl,hin⟩
    ·refine Qa 12 ?_
     simp -implicitDefEqProofs (disch:=omega) only [go_sem,rA,f8]
     simp [hin]
    ·refine Qa 12 ?_
     simp -implicitDefEqProofs (disch:=omega) only [go_sem,↓reduceIte,rA]
     simp [hin]
  ·have a4':(x.rd==1)=false:=by simp [a4]
   refine Qn 31 ?_
   simp -implicitDefEqProofs (disch:=omega) only [go_sem,↓reduceIte,reduceCtorEq,rA,rq,rL,hlt,hD,a3n]
   refine Qa 14 ?_
   simp -implicitDefEqProofs (disch:=omega) only [go_sem,↓reduceIte,reduceCtorEq,rA,rq,rL,a3',a4']
   exact htail _ _ rfl rfl rfl (fun _=>a4) (.inr a3)
 ·have a3':(x.op==3)=false:=by simp [a3]
  have a3n:(x.op != 3)=true:=by simp [a3]
  cases hbr:Xd x with
  | false =>
    have he:XN (ats m) pl c F k x=true:=by
     unfold XN Yh
     simp [hbr,a3]
    rw [hbr] at hB
    rw [he]
    refine Qn 31 ?_
    simp -implicitDefEqProofs (disch:=omega) only [go_sem,↓reduceIte,reduceCtorEq,rA,rq,rL,hlt,hD,a3n]
    iterate 6 (try (refine Qa 4 ?_; simp -implicitDefEqProofs (disch:=omega) only [go_sem,↓reduceIte,reduceCtorEq,rA,rq,rL,rT,Nat.reduceSub,Nat.reduceMul,Int.reduceToNat,Int.reduceLE,Int.reduceLT,Int.reduceEq,Int.reduceNe,Nat.reduceBEq,Nat.reduceBNe,Int.reduceBEq,Int.reduceBNe,hlt,hD,a3',a3n]))
    refine Qf hT YC hB rfl 4 ?_
    simp -implicitDefEqProofs (disch:=omega) only [go_sem,↓reduceIte,reduceCtorEq,rA,rq]
    iterate 6 (try (refine Qa 4 ?_; simp -implicitDefEqProofs (disch:=omega) only [go_sem,↓reduceIte,reduceCtorEq,rA,rq]))
    try simp
  | true =>
    rw [hbr] at hB
    refine Qn 31 ?_
    simp -implicitDefEqProofs (disch:=omega) only [go_sem,↓reduceIte,reduceCtorEq,rA,rq,rL,hlt,hD,a3n]
    refine Qf hT YC hB rfl 5 ?_
    simp -implicitDefEqProofs (disch:=omega) only [go_sem,↓reduceIte,reduceCtorEq,rA,rq]
    refine Qa 14 ?_
    simp -implicitDefEqProofs (disch:=omega) only [go_sem,↓reduceIte,reduceCtorEq,rA,rq,rL,a3']
    exact htail _ _ rfl rfl rfl (fun h=>absurd h a3) (.inl hbr)
end
section
attribute [local go_sem] nF nT cA lM nA aZ lR zA zL V.cells and_true QF dC decide_false decide_true false_implies ge_iff_le XP X5 QaY inC Q9 Qw not_false_eq_true XI QDP QDO Qpz Quq QDN QDM QDL QDK QDJ Qup Quo Qun Xz QEe QEd QEc QEb QEa QD9 QD8 QD7 QD6 QD5 QU true_and true_implies
variable {x:In} {k:Nat}
theorem Qyy (hT:Qk Tryz.prog tab) (c:List In) (F:Int) (m:Im) (hd:Dec c) (hF:0≤F) (hl:c.length≤1000000) (hs:m.syms.length≤1000) (hx:c[k]?=some x) (hxo:Zq x) (hb:-1099511627776≤x.imm∧x.imm≤1099511627776) {pl:Int} (hpl:0≤pl∧pl≤1099511627776) :
 Am.Pure Tryz.prog G0 Z8 [.agg (dC c F),QaY m,.int .i64 pl,.int .i64 ((k:Nat):Int)] fun v=>v=.int .i64 (Yi (ats m) pl c F k x):=by
 intro t
 have hlt:=(List.getElem?_eq_some_iff.1 hx).1
 have hD:=Xo hx
 have hG:=Qip hx
 have h1:=Qsl (P:=Tryz.prog) (G:=G0) hT x
 have h2:=Qyw hT c F hd hF hl hx hxo
 have h3:=Qwg hT c F m hd hF hl hs hx hb hpl
 have h4:=Qrw (P:=Tryz.prog) (G:=G0) hT c F hd hF (k:Int) hl (by omega)
 have hn:Qb [.agg (dC c F),.int .i64 (k:Int)]=true:=by simp [Qb,Qd,Qja]
 have hn3:Qb [.agg (dC c F),QaY m,.int .i64 pl,.int .i64 (k:Int)]=true:=by
  have:=Qbv m
  simp [Qb,Qd,Qja] at this ⊢
  exact this
 simp only [inC] at hD
 simp only [dC,Q9,XP,inC,QaY,X5,QU,QF] at h2 h3 h4 hn hn3
 refine Qp 0 (zL _) (Qt hT Z0 (by simp [Xz]) (Qn 20 ?_))
 unfold Yi QiC
 by_cases g0:x.op=0
 ·have g0':decide (x.op≠0)=false:=by simp [g0]
  have go:Qna x=false:=by unfold Qna; simp [g0]
  rw [g0'] at hG
  rw [go]
  simp -implicitDefEqProofs (disch:=omega) only [go_sem,↓reduceIte,reduceCtorEq,rA,rq,rL,hlt,hG]
  iterate 6 (try (refine Qa 4 ?_; simp -implicitDefEqProofs (disch:=omega) only [go_sem,↓reduceIte,reduceCtorEq,rA,rq]))
  try simp
 have g0':decide (x.op≠0)=true:=by simp [g0]
 rw [g0'] at hG
 simp -implicitDefEqProofs (disch:=omega) only [go_sem,↓reduceIte,reduceCtorEq,rA,rq,rL,hlt,hG]
 iterate 3 (try (refine Qa 4 ?_; simp -implicitDefEqProofs (disch:=omega) only [go_sem,↓reduceIte,reduceCtorEq,rA,rq,rL,hlt,hD]))
 refine Qf hT QaS h1 rfl 4 ?_
 cases ho:Qna x with
 | false =>
   simp -implicitDefEqProofs (disch:=omega) only [go_sem,↓reduceIte,reduceCtorEq,rA,rq]
   iterate 4 (try (refine Qa 4 ?_; simp -implicitDefEqProofs (disch:=omega) only [go_sem,↓reduceIte,reduceCtorEq,rA,rq]))
   try simp
 | true =>
   simp -implicitDefEqProofs (disch:=omega) only [go_sem,↓reduceIte,reduceCtorEq,rA,rq]
   iterate 3 (try (refine Qa 4 ?_; simp -implicitDefEqProofs (disch:=omega) only [go_sem,↓reduceIte,reduceCtorEq,rA,rq]))
   refine Qf hT ZZ h2 hn 4 ?_
   cases hs2:QaH c F k x with
   | false =>
     simp -implicitDefEqProofs (disch:=omega) only [go_sem,↓reduceIte,reduceCtorEq,rq]
     iterate 4 (try (refine Qa 4 ?_; simp -implicitDefEqProofs (disch:=omega) only [go_sem,↓reduceIte,reduceCtorEq,rA,rq]))
     try simp
   | true =>
     simp -implicitDefEqProofs (disch:=omega) only [go_sem,↓reduceIte,reduceCtorEq,rq]
     iterate 3 (try (refine Qa 4 ?_; simp -implicitDefEqProofs (disch:=omega) only [go_sem,↓reduceIte,reduceCtorEq,rA,rq]))
     refine Qf hT ZN h3 hn3 4 ?_
     cases ht:XN (ats m) pl c F k x with
     | false =>
       simp -implicitDefEqProofs (disch:=omega) only [go_sem,↓reduceIte,reduceCtorEq,rq]
       iterate 4 (try (refine Qa 4 ?_; simp -implicitDefEqProofs (disch:=omega) only [go_sem,↓reduceIte,reduceCtorEq,rA,rq]))
       try simp
     | true =>
       by_cases g4:x.op=4
       ·have g4':(x.op==4)=true:=by simp [g4]
        simp -implicitDefEqProofs (disch:=omega) only [go_sem,↓reduceIte,reduceCtorEq,rq]
        iterate 4 (try (refine Qa 4 ?_; simp -implicitDefEqProofs (disch:=omega) only [go_sem,↓reduceIte,reduceCtorEq,rA,rq,rL,hlt,hD,g4']))
        refine Qf hT Q7 h4 hn 4 ?_
        cases hr:ret c F k with
        | false =>
          simp -implicitDefEqProofs (disch:=omega) only [go_sem,↓reduceIte,reduceCtorEq,rA,rq]
          iterate 4 (try (refine Qa 4 ?_; simp -implicitDefEqProofs (disch:=omega) only [go_sem,↓reduceIte,reduceCtorEq,rA,rq]))
          try simp [g4]
        | true =>
          simp -implicitDefEqProofs (disch:=omega) only [go_sem,↓reduceIte,reduceCtorEq,rA,rq]
          iterate 4 (try (refine Qa 4 ?_; simp -implicitDefEqProofs (disch:=omega) only [go_sem,↓reduceIte,reduceCtorEq,rA,rq]))
          try simp [g4]
       ·have g4':(x.op==4)=false:=by simp [g4]
        simp -implicitDefEqProofs (disch:=omega) only [go_sem,↓reduceIte,reduceCtorEq,rq]
        iterate 9 (try (refine Qa 4 ?_; simp -implicitDefEqProofs (disch:=omega) only [go_sem,↓reduceIte,reduceCtorEq,rA,rq,rL,hlt,hD,g4']))
        try simp [g4]
abbrev edJ (c:List In) (F i:Int) (w0:Nat) (X:Option Ob):Nat→Fr→H→Prop:=fun k fr σ=>∃ t,QsA i 0 c=QsA i k (c.drop k)∧Qg fr 1=.int .i64 i∧Qg fr 2=.ptr 0 w0 0∧Qg fr 6=.int .i64 ((k:Nat):Int)∧σ=⟨t,[some (.arr w0 87 (dC c F)),X]⟩
abbrev edE (c:List In) (i:Int):AE→Fr→H→Prop:=fun e fr σ=>(e=.ret∧QsA i 0 c=true∧Qg fr 4=.bool false)∨(e=.ex 0∧QsA i 0 c=false)
variable {G:Nat→Option V} {P:Program}
theorem Qrr (hT:Qk P tab) {c:List In} {F i:Int} {w0:Nat} {X:Option Ob} (hl:c.length≤1000000) (hc:∀ x∈c,Zq x) (hx:c[k]?=some x) {fr:Fr} {σ:H} (hJ:edJ c F i w0 X k fr σ) :
 W P G 77 0 (.seq (zg Qup [54,55,56,57] (zw 58 .skip (.exit 0))) (.seq (.block 1 (zg Quo [61,62,63,64,65,66,67,68,69,70,71,72,73,74,75] (zw 76 (zg Qun [] .ret) .skip))) (.reg Qpz [59,60]))) fr σ (QbQ (fun fr σ=>∃ fr' σ',Shift G 77 0 fr σ fr' σ'∧edJ c F i w0 X (k+1) fr' σ') (edE c i)):=by
 obtain ⟨t,hh,f1,f2,f6,rfl⟩:=hJ
 have hlt:=(List.getElem?_eq_some_iff.1 hx).1
 have hn:=Qov (i:=i) hx
 rw [← hh] at hn
 have hD:=Xo hx
 have hJm:=Qqk (P:=P) (G:=G) hT c F hx
 have hnl:Qb [.agg (dC c F),.int .i64 (k:Int)]=true:=by simp [Qb,Qd,Qja]
 have hxo:=hc x (List.mem_of_getElem? hx)
 have hi64:-9223372036854775808≤x.imm∧x.imm≤9223372036854775807:=by have:=hxo.2.2.2.2; unfold i64 at this; omega
 have h4:=QrP hi64
 have w1:IntKind.i64.wrap (x.imm.tdiv 4)=x.imm.tdiv 4:=XA (by omega)
 have w2:IntKind.i64.wrap ((k:Int)+x.imm.tdiv 4)=tgt x k:=by rw [XA (by omega)]; rfl
 have e2:=ZT hlt (by omega)
 simp only [dC,Q9,XP,inC] at hD hJm hnl
 refine Qh [(1,.int .i64 i),(2,.ptr 0 w0 0),(6,.int .i64 ((k:Nat):Int))] ⟨f1,f2,f6,trivial⟩  12 ?_
 simp -implicitDefEqProofs (disch:=omega) only [go_sem,↓reduceIte,rA,rq,rL,hlt]
 iterate 6 (try (refine Qa 4 ?_; simp -implicitDefEqProofs (disch:=omega) only [go_sem,↓reduceIte,reduceCtorEq,rA,rq]))
 cases hj:Yh x with
 | false =>
   rw [hj] at hJm hn
   rw [Bool.false_and,Bool.false_or] at hn
   refine Qf hT Xp hJm hnl 4 ?_
   simp -implicitDefEqProofs (disch:=omega) only [go_sem,↓reduceIte,rq]
   iterate 9 (try (refine Qa 4 ?_; simp -implicitDefEqProofs (disch:=omega) only [go_sem,↓reduceIte,rq,e2]))
   exact ⟨_,_,Shift.refl _ _ _ _,t,hn,rfl,rfl,rfl,rfl⟩
 | true =>
   rw [hj] at hJm hn
   rw [Bool.true_and] at hn
   refine Qf hT Xp hJm hnl 4 ?_
   by_cases he:tgt x k=i
   ·have he':(tgt x k==i)=true:=by simp [he]
    rw [decide_eq_true he,Bool.true_or] at hn
    simp -implicitDefEqProofs (disch:=omega) only [go_sem,↓reduceIte,rA,rq,rL]
    iterate 9 (try (refine Qa 4 ?_; simp -implicitDefEqProofs (disch:=omega) only [go_sem,↓reduceIte,rA,rq,Int.reduceEq,hlt,hD,w1,w2,he']))
    exact .inl ⟨rfl,hn,rfl⟩
   ·have he':(tgt x k==i)=false:=by simp [he]
    rw [decide_eq_false he,Bool.false_or] at hn
    simp -implicitDefEqProofs (disch:=omega) only [go_sem,↓reduceIte,rA,rq,rL]
    iterate 9 (try (refine Qa 4 ?_; simp -implicitDefEqProofs (disch:=omega) only [go_sem,↓reduceIte,rA,rq,Int.reduceEq,hlt,hD,w1,w2,he',e2]))
    exact ⟨_,_,Shift.refl _ _ _ _,t,hn,rfl,rfl,rfl,rfl⟩
theorem Qwl (hT:Qk P tab) (c:List In) (F:Int) (hd:Dec c) (i:Int) (hl:c.length≤1000000) (hc:∀ x∈c,Zq x) (hi:-9≤i∧i≤2000000):Am.Pure P G Qat [.agg (dC c F),.int .i64 i] fun v=>v=.bool (ends c i):=by
 intro t
 unfold ends
 rw [← QyL hd]
 have w1:IntKind.i64.wrap (i - 1)=i - 1:=XA (by omega)
 refine Qp 0 (zL _) (Qt hT YU (by simp [XI]) (Qn 12 ?_))
 by_cases h0:i<1
 ·have h0':decide (i<1)=true:=decide_eq_true h0
  have hr:Qpa c i=false:=by
   unfold Qpa
   have:nth c (i - 1)=none:=by unfold nth; rw [if_pos (by omega)]
   rw [this]
   cases nth c i <;> simp
  rw [hr]
  simp -implicitDefEqProofs (disch:=omega) only [go_sem,↓reduceIte,reduceCtorEq,rq,h0]
  iterate 9 (try (refine Qa 4 ?_; simp -implicitDefEqProofs (disch:=omega) only [go_sem,↓reduceIte,reduceCtorEq,rq]))
  try simp
 have h0':decide (i<1)=false:=decide_eq_false h0
 obtain ⟨k,rfl⟩:∃ k:Nat,i=((k+1:Nat):Int):=⟨(i - 1).toNat,by omega⟩
 have hk1:((k+1:Nat):Int) - 1=(k:Int):=by omega
 rw [hk1] at w1
 by_cases h1:c.length≤k+1
 ·have h1':decide ((c.length:Int)≤((k+1:Nat):Int))=true:=decide_eq_true (by omega)
  have h1'':((c.length:Int)≤((k+1:Nat):Int))=True:=eq_true (by omega)
  have hr:Qpa c ((k+1:Nat):Int)=false:=by unfold Qpa; rw [Z2,List.getElem?_eq_none h1]
  rw [hr]
  simp -implicitDefEqProofs (disch:=omega) only [go_sem,↓reduceIte,reduceCtorEq,rq,h0]
  iterate 9 (try (refine Qa 4 ?_; simp -implicitDefEqProofs (disch:=omega) only [go_sem,↓reduceIte,reduceCtorEq,rA,rq,rL,h1'']))
  try simp
 have h1':decide ((c.length:Int)≤((k+1:Nat):Int))=false:=decide_eq_false (by omega)
 have h1'':((c.length:Int)≤((k+1:Nat):Int))=False:=eq_false (by omega)
 have hlt:k+1<c.length:=by omega
 have hlt0:k<c.length:=by omega
 obtain ⟨y,hy⟩:∃ x,c[k+1]?=some x:=⟨_,List.getElem?_eq_getElem hlt⟩
 obtain ⟨x,hx⟩:∃ x,c[k]?=some x:=⟨_,List.getElem?_eq_getElem hlt0⟩
 have hDy:=Xo hy
 have hDx:=Xo hx
 simp only [inC] at hDy hDx
 have hr:Qpa c ((k+1:Nat):Int)=(decide (y.op=64)&&(decide (x.op=22)&&(decide (x.rd=17)&&(decide (x.rs1=0)&&(decide (x.imm=3) || decide (x.imm=4)))))):=by
  unfold Qpa
  rw [hk1,Z2,Z2,hy,hx]
 rw [hr]
 have ec:((k+1:Nat):Int) - 1=(k:Int):=hk1
 by_cases g1:y.op=64
 ·have g1':(y.op != 64)=false:=by simp [g1]
  by_cases g2:x.op=22
  ·have g2':(x.op != 22)=false:=by simp [g2]
   by_cases g3:x.rd=17
   ·have g3':(x.rd != 17)=false:=by simp [g3]
    by_cases g4:x.rs1=0
    ·have g4':(x.rs1 != 0)=false:=by simp [g4]
     have hfin:(x.imm=3∨x.imm=4)→(decide (y.op=64)&&(decide (x.op=22)&&(decide (x.rd=17)&&(decide (x.rs1=0)&&(decide (x.imm=3) || decide (x.imm=4))))))=true:=fun h=>by rcases h with h | h <;> simp [g1,g2,g3,g4,h]
     by_cases g5:x.imm=3
     ·have g5':(x.imm != 3)=false:=by simp [g5]
      rw [hfin (.inl g5),Bool.true_and]
      simp -implicitDefEqProofs (disch:=omega) only [go_sem,↓reduceIte,reduceCtorEq,rq,h0]
      iterate 20 (try (refine Qa 4 ?_; simp -implicitDefEqProofs (disch:=omega) only [go_sem,↓reduceIte,reduceCtorEq,rA,rq,rL,h1'',hlt,hlt0,hDy,hDx,w1,ec,g1',g2',g3',g4',g5']))
      refine Xn c (edJ c F ((k+1:Nat):Int) t (some (.arr (t+1) 96 (inC x)))) (edE c ((k+1:Nat):Int)) ⟨t+1+1,by simp,?_⟩ (fun j z hz fr σ hJ=>Qrr hT hl hc hz hJ) (fun j hj fr σ hJ=>?_) (fun e fr σ hE=>?_)
      ·simp -implicitDefEqProofs (disch:=omega) only [go_sem,↓reduceIte,reduceCtorEq,rq]
       try simp
      ·obtain ⟨t2,hh,f1,f2,f6,rfl⟩:=hJ
       rw [hj,List.drop_length] at hh
       refine Qh [(1,.int .i64 ((k+1:Nat):Int)),(2,.ptr 0 t 0),(6,.int .i64 ((j:Nat):Int))] ⟨f1,f2,f6,trivial⟩ 20 ?_
       simp -implicitDefEqProofs (disch:=omega) only [go_sem,↓reduceIte,rA,rq,rL,hj,Nat.lt_irrefl]
       exact .inr ⟨rfl,hh⟩
      ·rcases hE with ⟨rfl,hh,f4⟩ | ⟨rfl,hh⟩
       ·refine Qa 12 ?_
        simp -implicitDefEqProofs (disch:=omega) only [go_sem,f4,hh]
       ·refine Qa 12 ?_
        simp -implicitDefEqProofs (disch:=omega) only [go_sem,↓reduceIte,hh]
     ·have g5':(x.imm != 3)=true:=by simp [g5]
      by_cases g6:x.imm=4
      ·have g6':(x.imm != 4)=false:=by simp [g6]
       rw [hfin (.inr g6),Bool.true_and]
       simp -implicitDefEqProofs (disch:=omega) only [go_sem,↓reduceIte,reduceCtorEq,rq,h0]
       iterate 20 (try (refine Qa 4 ?_; simp -implicitDefEqProofs (disch:=omega) only [go_sem,↓reduceIte,reduceCtorEq,rA,rq,rL,h1'',hlt,hlt0,hDy,hDx,w1,ec,g1',g2',g3',g4',g5',g6']))
       refine Xn c (edJ c F ((k+1:Nat):Int) t (some (.arr (t+1) 96 (inC x)))) (edE c ((k+1:Nat):Int)) ⟨t+1+1,by simp,?_⟩ (fun j z hz fr σ hJ=>Qrr hT hl hc hz hJ) (fun j hj fr σ hJ=>?_) (fun e fr σ hE=>?_)
       ·simp -implicitDefEqProofs (disch:=omega) only [go_sem,↓reduceIte,reduceCtorEq,rq]
        try simp
       ·obtain ⟨t2,hh,f1,f2,f6,rfl⟩:=hJ
        rw [hj,List.drop_length] at hh
        refine Qh [(1,.int .i64 ((k+1:Nat):Int)),(2,.ptr 0 t 0),(6,.int .i64 ((j:Nat):Int))] ⟨f1,f2,f6,trivial⟩ 20 ?_
        simp -implicitDefEqProofs (disch:=omega) only [go_sem,↓reduceIte,rA,rq,rL,hj,Nat.lt_irrefl]
        exact .inr ⟨rfl,hh⟩
       ·rcases hE with ⟨rfl,hh,f4⟩ | ⟨rfl,hh⟩
        ·refine Qa 12 ?_
         simp -implicitDefEqProofs (disch:=omega) only [go_sem,f4,hh]
        ·refine Qa 12 ?_
         simp -implicitDefEqProofs (disch:=omega) only [go_sem,↓reduceIte,hh]
      ·have g6':(x.imm != 4)=true:=by simp [g6]
       simp -implicitDefEqProofs (disch:=omega) only [go_sem,↓reduceIte,reduceCtorEq,rq,h0]
       iterate 20 (try (refine Qa 4 ?_; simp -implicitDefEqProofs (disch:=omega) only [go_sem,↓reduceIte,reduceCtorEq,rA,rq,rL,h1'',hlt,hlt0,hDy,hDx,w1,ec,g1',g2',g3',g4',g5',g6']))
       simp [g5,g6]
    ·have g4':(x.rs1 != 0)=true:=by simp [g4]
     simp -implicitDefEqProofs (disch:=omega) only [go_sem,↓reduceIte,reduceCtorEq,rq,h0]
     iterate 20 (try (refine Qa 4 ?_; simp -implicitDefEqProofs (disch:=omega) only [go_sem,↓reduceIte,reduceCtorEq,rA,rq,rL,h1'',hlt,hlt0,hDy,hDx,w1,ec,g1',g2',g3',g4']))
     simp [g4]
   ·have g3':(x.rd != 17)=true:=by simp [g3]
    simp -implicitDefEqProofs (disch:=omega) only [go_sem,↓reduceIte,reduceCtorEq,rq,h0]
    iterate 20 (try (refine Qa 4 ?_; simp -implicitDefEqProofs (disch:=omega) only [go_sem,↓reduceIte,reduceCtorEq,rA,rq,rL,h1'',hlt,hlt0,hDy,hDx,w1,ec,g1',g2',g3']))
    simp [g3]
  ·have g2':(x.op != 22)=true:=by simp [g2]
   simp -implicitDefEqProofs (disch:=omega) only [go_sem,↓reduceIte,reduceCtorEq,rq,h0]
   iterate 20 (try (refine Qa 4 ?_; simp -implicitDefEqProofs (disch:=omega) only [go_sem,↓reduceIte,reduceCtorEq,rA,rq,rL,h1'',hlt,hlt0,hDy,hDx,w1,ec,g1',g2']))
   simp [g2]
 ·have g1':(y.op != 64)=true:=by simp [g1]
  simp -implicitDefEqProofs (disch:=omega) only [go_sem,↓reduceIte,reduceCtorEq,rq,h0]
  iterate 20 (try (refine Qa 4 ?_; simp -implicitDefEqProofs (disch:=omega) only [go_sem,↓reduceIte,reduceCtorEq,rA,rq,rL,h1'',hlt,hDy,g1']))
  simp [g1]
end
end Go.Proofs.YtaidbdgndljaeaaGreatDoor
