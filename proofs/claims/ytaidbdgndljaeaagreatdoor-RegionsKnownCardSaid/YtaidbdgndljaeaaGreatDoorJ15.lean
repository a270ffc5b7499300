/- The law RegionsCalls. -/
import Derived.Test.YtaidbdgndljaeaaGreatDoorJ14
open Nat renaming reduceEqDiff → rq, reduceAdd → rA, reduceLeDiff → rL, reduceLT → rT, zero_add → zA, le_refl → lR, zero_le → zL, add_zero → aZ
open List renaming length_cons → lC, length_nil → lN, take_succ_cons → tS, length_append → lA, nil_append → nA, cons_append → cA, append_assoc → aA, take_nil → tN, take_zero → tZ, length_map → lM
open Bool renaming not_false → nF, not_true → nT
namespace Go.Proofs.YtaidbdgndljaeaaGreatDoor
open Go Go.Am Go.Rv Go.Rg
set_option maxRecDepth 100000
set_option maxHeartbeats 4000000
section
attribute [local go_sem] nF nT cA lM nA aZ lR Nat.mul_one Nat.one_mul Nat.succ_ne_zero zA zL Nat.zero_mul Option.getD_none Option.getD_some Option.isSome_none Option.isSome_some V.cells and_true beq_self_eq_true bne_self_eq_false Qz decide_false decide_true fC false_implies fnC ge_iff_le gt_iff_lt inC Q9 Qq Qw not_false_eq_true not_true_eq_false Xj zq2_0 zq2_1 QqL QqK QqJ QqI QqH QtP QBe zq2_2 zq2_3 zq2_4 zq2_5 zq2_6 QFw QFv QwX true_and true_implies
abbrev kjJ (m:Im) (r:List Rg.Fn) (n:Nat):Nat→Fr→H→Prop:=fun j fr σ=>∃ t o,Qg fr 1=.ref (.agg (X5 m)) 0∧Qg fr 3=.lst 5 (r.map fun f=>V.agg (fC f)) false∧Qg fr 5=.int .i64 ((n:Nat):Int)∧Qg fr 6=.int .i64 ((j:Int) - 1)∧σ=⟨t,o⟩
abbrev kjE (m:Im) (r:List Rg.Fn) (n:Nat):AE→Fr→H→Prop:=fun e fr σ=>∃ t o,e=.ex 2∧Qg fr 1=.ref (.agg (X5 m)) 0∧Qg fr 3=.lst 5 (r.map fun f=>V.agg (fC f)) false∧Qg fr 5=.int .i64 ((n:Nat):Int)∧σ=⟨t,o⟩
variable {σ:H} {fr:Fr} {f:Rg.Fn} {n:Nat} {r:List Rg.Fn} {m:Im}
theorem QxK (hT:Qk Tryz.prog tab) (hof:ofS m=.inl r) (hrl:r.length≤1000) (hn:r[n]?=some f) (hf:FnB f) {j:Nat} (hj:j<f.code.length+2) (hJ:kjJ m r n j fr σ) :
 W Tryz.prog G0 151 0 (.seq (zg QwX [36,37,38,39,40,41,42] (zw 43 .skip (.exit 2))) (.seq (.block 3 (zg QqL [47,48,49,50,51,52,53,46,54,55] (zg QqK [56,57,58,59,60,61,62,63,64,65,66,67,68,69,70,71,72,73,74,75,76,77,78,79,80,81,82,83,84,85,86,87,88,89,90,91] (zg QqJ [92,93,94,95,96,97,98,99,100,101,102,103,104,105,106,107,108,109,110,111,112,113,114,115,116,117,118,119,120,121,122,123,124,125,126,127,128,129,130,131,132,133,134,135,136,137,138,139,140] (zw 141 (zg QqI [] .ret) .skip))))) (.reg QqH [44,45]))) fr σ (QbQ (fun fr σ=>∃ fr' σ',Shift G0 151 0 fr σ fr' σ'∧kjJ m r n (j+1) fr' σ') (kjE m r n)):=by
 obtain ⟨t,o,f1,f3,f5,f6,rfl⟩:=hJ
 have hlt:=(List.getElem?_eq_some_iff.1 hn).1
 have hl:=hf.len
 have hpl:=hf.pl
 have hD:(r.map fun f=>V.agg (fC f)).getD n V.any=.agg [.str f.name,.int .i64 f.pl,.lst 5 (f.code.map fun x=>V.agg [.int .u8 x.op,.int .u8 x.rd,.int .u8 x.rs1,.int .u8 x.rs2,.int .i64 x.imm]) false,.int .i64 f.frame,.lst 1 (ints f.cuts) false]:=by simp [List.getD_eq_getElem?_getD,hn]; rfl
 simp only [fC,fnC,Q9,Qz,inC] at hD
 obtain ⟨i,hi⟩:∃ i:Int,i=(j:Int) - 1:=⟨_,rfl⟩
 rw [← hi] at f6
 have hC:=QyE hT r hrl f hf i (by omega)
 have hnl:Qb [Qad r,.agg (fC f),.int .i64 i]=true:=by simp [Qb,Qd,Qad,fC,Qfl]
 have hle:decide (i≤(f.code.length:Int))=true:=decide_eq_true (by omega)
 have hle':(i≤(f.code.length:Int))=True:=eq_true (by omega)
 have w1:IntKind.i64.wrap (i+1)=((j+1:Nat):Int) - 1:=by rw [XA (by omega)]; omega
 have hcase:(Qqi r f i=none∧(i<0∨(f.code.length:Int)≤i∨∃ k x,i=(k:Nat)∧k<f.code.length∧f.code[k]?=some x∧(x.op≠3∨(x.op=3∧x.rd≠1))))∨(∃ (k q:Nat) (x:In) (g:Rg.Fn),i=k∧k<f.code.length∧f.code[k]?=some x∧x.op=3∧x.rd=1∧Qqi r f i=some q∧r[q]?=some g∧g.pl=f.pl+4 * i+x.imm∧(-8589934592≤x.imm∧x.imm≤8589934592)):=by
  by_cases h0:i<0
  ·exact .inl ⟨by unfold Qqi nth; rw [if_pos h0],.inl h0⟩
  obtain ⟨k,rfl⟩:∃ k:Nat,i=k:=⟨i.toNat,by omega⟩
  by_cases h1:f.code.length≤k
  ·exact .inl ⟨by unfold Qqi; rw [Z2,List.getElem?_eq_none h1],.inr (.inl (by omega))⟩
  have hlk:k<f.code.length:=by omega
  obtain ⟨x,hx⟩:∃ x,f.code[k]?=some x:=⟨_,List.getElem?_eq_getElem hlk⟩
  by_cases hc:x.op=3∧x.rd=1
  ·obtain ⟨q,g,h1,h2,h3⟩:=Qv8 hof hn hx hc
   exact .inr ⟨k,q,x,g,rfl,hlk,hx,hc.1,hc.2,h1,h2,h3,hf.imm x (List.mem_of_getElem? hx)⟩
  ·refine .inl ⟨by unfold Qqi; rw [Z2,hx]; simp only [if_neg hc],.inr (.inr ⟨k,x,rfl,hlk,hx,?_⟩)⟩
   by_cases h3:x.op=3
   ·exact .inr ⟨h3,fun h=>hc ⟨h3,h⟩⟩
   ·exact .inl h3
 simp only [Qad,fC,fnC,Q9,Qz,inC] at hC hnl
 refine Qh [(1,.ref (.agg (X5 m)) 0),(3,.lst 5 (r.map fun f=>V.agg (fC f)) false),(5,.int .i64 ((n:Nat):Int)),(6,.int .i64 i)] ⟨f1,f3,f5,f6,trivial⟩  12 ?_
 simp -implicitDefEqProofs (disch:=omega) only [go_sem,↓reduceIte,rA,rq,rL,hlt,hD,hle']
 iterate 6 (try (refine Qa 4 ?_; simp -implicitDefEqProofs (disch:=omega) only [go_sem,↓reduceIte,reduceCtorEq,rA,rq,hlt,hD]))
 refine Qf hT Qe8 hC hnl 4 ?_
 rcases hcase with ⟨hc,h⟩ | ⟨k,q,x,g,rfl,hlk,hx,h3,h4,hc,hg,hge,hxb⟩
 ·rw [hc]
  simp only [Qyq]
  rcases h with h | h | ⟨k,x,rfl,hlk,hx,h⟩
  ·have g0:decide (0≤i)=false:=decide_eq_false (by omega)
   have g0':(0≤i)=False:=eq_false (by omega)
   simp -implicitDefEqProofs (disch:=omega) only [go_sem,↓reduceIte,rA,rq,rT]
   iterate 30 (try (refine Qa 4 ?_; simp -implicitDefEqProofs (disch:=omega) only [go_sem,↓reduceIte,rA,rq,g0',w1]))
   exact ⟨_,_,Shift.refl _ _ _ _,_,_,rfl,rfl,rfl,rfl,rfl⟩
  ·have g0:decide (0≤i)=true:=decide_eq_true (by omega)
   have g0':(0≤i)=True:=eq_true (by omega)
   have g1:decide (i<(f.code.length:Int))=false:=decide_eq_false (by omega)
   have g1':(i<(f.code.length:Int))=False:=eq_false (by omega)
   simp -implicitDefEqProofs (disch:=omega) only [go_sem,↓reduceIte,rA,rq,rT]
   iterate 30 (try (refine Qa 4 ?_; simp -implicitDefEqProofs (disch:=omega) only [go_sem,↓reduceIte,rA,rq,rL,g0',g1',hlt,hD,w1]))
   exact ⟨_,_,Shift.refl _ _ _ _,_,_,rfl,rfl,rfl,rfl,rfl⟩
  ·have hDk:=Xo hx
   simp only [inC] at hDk
   have g0:decide (0≤(k:Int))=true:=decide_eq_true (by omega)
   have g0':(0≤(k:Int))=True:=eq_true (by omega)
   have g1:decide ((k:Int)<(f.code.length:Int))=true:=decide_eq_true (by omega)
   have g1':((k:Int)<(f.code.length:Int))=True:=eq_true (by omega)
   rcases h with h | ⟨h,h'⟩
   ·have g2:(x.op==3)=false:=by simp [h]
    simp -implicitDefEqProofs (disch:=omega) only [go_sem,↓reduceIte,rA,rq,rT]
    iterate 30 (try (refine Qa 4 ?_; simp -implicitDefEqProofs (disch:=omega) only [go_sem,↓reduceIte,rA,rq,rL,g0',g1',g2,hlt,hlk,hD,hDk,w1]))
    exact ⟨_,_,Shift.refl _ _ _ _,_,_,rfl,rfl,rfl,rfl,rfl⟩
   ·have g2:(x.op==3)=true:=by simp [h]
    have g3:(x.rd==1)=false:=by simp [h']
    simp -implicitDefEqProofs (disch:=omega) only [go_sem,↓reduceIte,rA,rq,rT]
    iterate 30 (try (refine Qa 4 ?_; simp -implicitDefEqProofs (disch:=omega) only [go_sem,↓reduceIte,rA,rq,rL,g0',g1',g2,g3,hlt,hlk,hD,hDk,w1]))
    exact ⟨_,_,Shift.refl _ _ _ _,_,_,rfl,rfl,rfl,rfl,rfl⟩
 ·rw [hc]
  simp only [Qyq]
  have hDk:=Xo hx
  simp only [inC] at hDk
  have g0:decide (0≤(k:Int))=true:=decide_eq_true (by omega)
  have g0':(0≤(k:Int))=True:=eq_true (by omega)
  have g1:decide ((k:Int)<(f.code.length:Int))=true:=decide_eq_true (by omega)
  have g1':((k:Int)<(f.code.length:Int))=True:=eq_true (by omega)
  have g2:(x.op==3)=true:=by simp [h3]
  have g3:(x.rd==1)=true:=by simp [h4]
  have hql:=(List.getElem?_eq_some_iff.1 hg).1
  have hDg:(r.map fun f=>V.agg (fC f)).getD q V.any=.agg [.str g.name,.int .i64 g.pl,.lst 5 (g.code.map fun x=>V.agg [.int .u8 x.op,.int .u8 x.rd,.int .u8 x.rs1,.int .u8 x.rs2,.int .i64 x.imm]) false,.int .i64 g.frame,.lst 1 (ints g.cuts) false]:=by simp [List.getD_eq_getElem?_getD,hg]; rfl
  simp only [fC,fnC,Q9,Qz,inC] at hDg
  have p0:decide ((q:Int)<0)=false:=decide_eq_false (by omega)
  have p0':((q:Int)<0)=False:=eq_false (by omega)
  have p1:decide ((r.length:Int)≤(q:Int))=false:=decide_eq_false (by omega)
  have p1':((r.length:Int)≤(q:Int))=False:=eq_false (by omega)
  have w2:IntKind.i64.wrap (4 * (k:Int))=4 * (k:Int):=XA (by omega)
  have w3:IntKind.i64.wrap (f.pl+4 * (k:Int))=f.pl+4 * (k:Int):=XA (by omega)
  have w4:IntKind.i64.wrap (f.pl+4 * (k:Int)+x.imm)=g.pl:=by rw [XA (by omega),hge]
  simp -implicitDefEqProofs (disch:=omega) only [go_sem,↓reduceIte,rA,rq,rT]
  iterate 30 (try (refine Qa 4 ?_; simp -implicitDefEqProofs (disch:=omega) only [go_sem,↓reduceIte,rA,rq,rL,g0',g1',g2,g3,hlt,hlk,hql,hD,hDk,hDg,w1,w2,w3,w4,p0',p1']))
  exact ⟨_,_,Shift.refl _ _ _ _,_,_,rfl,rfl,rfl,rfl,rfl⟩
abbrev knJ (m:Im) (r:List Rg.Fn):Nat→Fr→H→Prop:=fun n fr σ=>∃ t o,Qg fr 1=.ref (.agg (X5 m)) 0∧Qg fr 3=.lst 5 (r.map fun f=>V.agg (fC f)) false∧Qg fr 5=.int .i64 ((n:Nat):Int)∧σ=⟨t,o⟩
abbrev knE (m:Im) (r:List Rg.Fn):AE→Fr→H→Prop:=fun e fr σ=>∃ t o,e=.ex 0∧Qg fr 1=.ref (.agg (X5 m)) 0∧Qg fr 3=.lst 5 (r.map fun f=>V.agg (fC f)) false∧σ=⟨t,o⟩
theorem QxJ (hT:Qk Tryz.prog tab) (hof:ofS m=.inl r) (hw:∀ w∈m.code,0≤w∧w<4294967296) (hml:m.code.length≤1000) (hrl:r.length≤1000) (hn:r[n]?=some f) (hJ:knJ m r n fr σ) :
 W Tryz.prog G0 151 0 (.seq (zg QFw [30,31,32] (zw 33 .skip (.exit 0))) (.seq (.block 1 (zg QFv [] (.block 2 (.loop (.seq (zg QwX [36,37,38,39,40,41,42] (zw 43 .skip (.exit 2))) (.seq (.block 3 (zg QqL [47,48,49,50,51,52,53,46,54,55] (zg QqK [56,57,58,59,60,61,62,63,64,65,66,67,68,69,70,71,72,73,74,75,76,77,78,79,80,81,82,83,84,85,86,87,88,89,90,91] (zg QqJ [92,93,94,95,96,97,98,99,100,101,102,103,104,105,106,107,108,109,110,111,112,113,114,115,116,117,118,119,120,121,122,123,124,125,126,127,128,129,130,131,132,133,134,135,136,137,138,139,140] (zw 141 (zg QqI [] .ret) .skip))))) (.reg QqH [44,45]))))))) (.reg QtP [34,35]))) fr σ (QbQ (fun fr σ=>∃ fr' σ',Shift G0 151 0 fr σ fr' σ'∧knJ m r (n+1) fr' σ') (knE m r)):=by
 obtain ⟨t,o,f1,f3,f5,rfl⟩:=hJ
 have hlt:=(List.getElem?_eq_some_iff.1 hn).1
 have hf:=fnB_of hof hw hml hn
 have hl:=hf.len
 have e2:=ZT hlt (by omega)
 refine Qh [(1,.ref (.agg (X5 m)) 0),(3,.lst 5 (r.map fun f=>V.agg (fC f)) false),(5,.int .i64 ((n:Nat):Int))] ⟨f1,f3,f5,trivial⟩  20 ?_
 simp -implicitDefEqProofs (disch:=omega) only [go_sem,↓reduceIte,rq,hlt]
 refine Xn (List.range (f.code.length+2)) (kjJ m r n) (kjE m r n) ⟨t,o,?_⟩ (fun j x hj fr σ hJ=>QxK hT hof hrl hn hf (by have:=(List.getElem?_eq_some_iff.1 hj).1; simpa using this) hJ) (fun j hj fr σ hJ=>?_) (fun e fr σ hE=>?_)
 ·simp -implicitDefEqProofs (disch:=omega) only [go_sem,↓reduceIte,rq]
  try simp
 ·obtain ⟨t2,o2,f1,f3,f5,f6,rfl⟩:=hJ
  rw [List.length_range] at hj
  have hD:(r.map fun f=>V.agg (fC f)).getD n V.any=.agg [.str f.name,.int .i64 f.pl,.lst 5 (f.code.map fun x=>V.agg [.int .u8 x.op,.int .u8 x.rd,.int .u8 x.rs1,.int .u8 x.rs2,.int .i64 x.imm]) false,.int .i64 f.frame,.lst 1 (ints f.cuts) false]:=by simp [List.getD_eq_getElem?_getD,hn]; rfl
  simp only [fC,fnC,Q9,Qz,inC] at hD
  obtain ⟨i,hi⟩:∃ i:Int,i=(j:Int) - 1:=⟨_,rfl⟩
  rw [← hi] at f6
  have hle:decide (i≤(f.code.length:Int))=false:=decide_eq_false (by omega)
  have hle':(i≤(f.code.length:Int))=False:=eq_false (by omega)
  refine Qh [(1,.ref (.agg (X5 m)) 0),(3,.lst 5 (r.map fun f=>V.agg (fC f)) false),(5,.int .i64 ((n:Nat):Int)),(6,.int .i64 i)] ⟨f1,f3,f5,f6,trivial⟩  20 ?_
  simp -implicitDefEqProofs (disch:=omega) only [go_sem,↓reduceIte,rA,rq,rL,hlt,hD,hle']
  exact ⟨t2,o2,rfl,rfl,rfl,rfl,rfl⟩
 ·obtain ⟨t2,o2,rfl,f1,f3,f5,rfl⟩:=hE
  refine Qa3 [(1,.ref (.agg (X5 m)) 0),(3,.lst 5 (r.map fun f=>V.agg (fC f)) false),(5,.int .i64 ((n:Nat):Int))] ⟨f1,f3,f5,trivial⟩ 12 ?_
  simp -implicitDefEqProofs (disch:=omega) only [go_sem,↓reduceIte,rq,e2]
  exact ⟨_,_,Shift.refl _ _ _ _,t2,o2,rfl,rfl,rfl,rfl⟩
theorem Qma (hT:Qk Tryz.prog tab) (m:Im) (hsn:∀ s∈m.syms,s.1.length≤9223372036854775807) (hw:∀ w∈m.code,0≤w∧w<4294967296) :
 Am.Pure Tryz.prog G0 Yr [QaY m] fun v=>v=.bool true:=by
 have hWk:=QlH hT
 have hin:=Qbv m
 intro t
 refine Qp 0 (zL _) (Qt hT Zs (by simp [Xj]) (Qn 5 ?_))
 simp -implicitDefEqProofs (disch:=omega) only [go_sem,↓reduceIte,reduceCtorEq,rq,QaY,X5,QU,QF]
 refine Q8 (Shift.freeze (k:=0) (v:=t) (T:=25) (cs:=X5 m) (zL _) rfl (QiU m)) ?_
 simp only [X5,QU,QF,YG,Zd,QiX,Qaa,Xt,List.set_cons_zero,Option.map_none]
 refine Qa 8 ?_
 by_cases g1:150<m.code.length
 ·have g1':decide ((150:Int)<(m.code.length:Int))=true:=decide_eq_true (by omega)
  have g1'':((150:Int)<(m.code.length:Int))=True:=eq_true (by omega)
  simp -implicitDefEqProofs (disch:=omega) only [go_sem,↓reduceIte,reduceCtorEq,rA,rq,g1'']
  iterate 6 (try (refine Qa 8 ?_; simp -implicitDefEqProofs (disch:=omega) only [go_sem,↓reduceIte,reduceCtorEq,rq]))
  refine Qf hT Qm hWk rfl 8 ?_
  simp -implicitDefEqProofs (disch:=omega) only [go_sem,↓reduceIte,reduceCtorEq,rq]
 have g1':decide ((150:Int)<(m.code.length:Int))=false:=decide_eq_false (by omega)
 have g1'':((150:Int)<(m.code.length:Int))=False:=eq_false (by omega)
 by_cases g2:20<m.syms.length
 ·have g2':decide ((20:Int)<(m.syms.length:Int))=true:=decide_eq_true (by omega)
  have g2'':((20:Int)<(m.syms.length:Int))=True:=eq_true (by omega)
  simp -implicitDefEqProofs (disch:=omega) only [go_sem,↓reduceIte,reduceCtorEq,rA,rq,g1'']
  iterate 6 (try (refine Qa 8 ?_; simp -implicitDefEqProofs (disch:=omega) only [go_sem,↓reduceIte,reduceCtorEq,rA,rq,rL,g2'']))
  refine Qf hT Qm hWk rfl 8 ?_
  simp -implicitDefEqProofs (disch:=omega) only [go_sem,↓reduceIte,reduceCtorEq,rq]
 have g2':decide ((20:Int)<(m.syms.length:Int))=false:=decide_eq_false (by omega)
 have g2'':((20:Int)<(m.syms.length:Int))=False:=eq_false (by omega)
 have hO:=c_Of hT m ⟨by omega,by omega,hsn⟩ hw (by omega)
 simp only [QaY,X5,QU,QF] at hO hin
 simp -implicitDefEqProofs (disch:=omega) only [go_sem,↓reduceIte,reduceCtorEq,rA,rq,g1'']
 iterate 6 (try (refine Qa 8 ?_; simp -implicitDefEqProofs (disch:=omega) only [go_sem,↓reduceIte,reduceCtorEq,rA,rq,rL,g2'']))
 refine Qf hT QbN hO hin 8 ?_
 cases hr:ofS m with
 | inr e =>
   obtain ⟨a,b,e⟩:=e
   have hne:e≠0:=by
    unfold ofS at hr
    split at hr
    ·exact QgV hr
    ·simp only [Sum.inr.injEq,Prod.mk.injEq] at hr; omega
   have hne':(e != 0)=true:=by simp [hne]
   simp only [ofV,Qad,List.map_nil]
   simp -implicitDefEqProofs (disch:=omega) only [go_sem,↓reduceIte,reduceCtorEq,rA,rq,rT,flt]
   iterate 4 (try (refine Qa 8 ?_; simp -implicitDefEqProofs (disch:=omega) only [go_sem,↓reduceIte,reduceCtorEq,rA,rq,hne']))
   refine Qf hT Qm hWk rfl 8 ?_
   simp -implicitDefEqProofs (disch:=omega) only [go_sem,↓reduceIte,reduceCtorEq,rA,rq]
 | inl r =>
   have hlen:=(Qev hr).2.1
   simp only [ofV,Qad]
   simp -implicitDefEqProofs (disch:=omega) only [go_sem,↓reduceIte,reduceCtorEq,rA,rq,rT,flt]
   iterate 4 (try (refine Qa 8 ?_; simp -implicitDefEqProofs (disch:=omega) only [go_sem,↓reduceIte,reduceCtorEq,rA,rq]))
   refine Xn r (knJ m r) (knE m r) (by exact ⟨_,_,rfl,rfl,rfl,rfl⟩) (fun n f hn fr σ hJ=>QxJ hT hr hw (by omega) (by omega) hn hJ) (fun n hn fr σ hJ=>?_) (fun e fr σ hE=>?_)
   ·obtain ⟨t2,o,f1,f3,f5,rfl⟩:=hJ
    refine Qh [(1,.ref (.agg (X5 m)) 0),(3,.lst 5 (r.map fun f=>V.agg (fC f)) false),(5,.int .i64 ((n:Nat):Int))] ⟨f1,f3,f5,trivial⟩  12 ?_
    simp -implicitDefEqProofs (disch:=omega) only [go_sem,↓reduceIte,rq,hn,Nat.lt_irrefl]
    exact ⟨t2,o,rfl,rfl,rfl,rfl⟩
   ·obtain ⟨t2,o,rfl,f1,f3,rfl⟩:=hE
    refine YE [(1,.ref (.agg (X5 m)) 0),(3,.lst 5 (r.map fun f=>V.agg (fC f)) false)] ⟨f1,f3,trivial⟩ 12 ?_
    have hl':((r.length:Int)==(m.syms.length:Int))=true:=by simp [hlen]
    have hl'':((r.length:Int)=(m.syms.length:Int))=True:=eq_true (by omega)
    simp -implicitDefEqProofs (disch:=omega) only [go_sem,↓reduceIte,rA,rq,rL,X5,QU,QF,hl']
    iterate 2 (try (refine Qa 8 ?_; simp -implicitDefEqProofs (disch:=omega) only [go_sem,↓reduceIte,reduceCtorEq,rA,rq,rL,rT,Nat.reduceSub,Nat.reduceMul,Int.reduceToNat,Int.reduceLE,Int.reduceLT,Int.reduceEq,Int.reduceNe,Nat.reduceBEq,Nat.reduceBNe,Int.reduceBEq,Int.reduceBNe,QaY,X5,QU,QF,flt,hl',hl'']))
    refine Qf hT Qm hWk rfl 8 ?_
    simp -implicitDefEqProofs (disch:=omega) only [go_sem,↓reduceIte,rq]
end
section
attribute [local go_sem] nF nT cA lM nA aZ lR Nat.mul_one Nat.one_mul Nat.succ_ne_zero zA zL Nat.zero_mul Option.getD_none Option.getD_some Option.isSome_none Option.isSome_some V.cells and_true beq_self_eq_true bne_self_eq_false Qz decide_false decide_true fC false_implies flt fnC ge_iff_le gt_iff_lt inC Q9 Qq Qw not_false_eq_true not_true_eq_false true_and true_implies
end
section
attribute [local go_sem] nF nT cA lM List.map_cons List.map_nil nA aZ lR Nat.mul_one Nat.one_mul Nat.succ_ne_zero zA zL Nat.zero_mul Option.getD_none Option.getD_some Option.isSome_none Option.isSome_some V.cells and_true beq_self_eq_true bne_self_eq_false decide_false decide_true false_implies ge_iff_le gt_iff_lt inC Qw not_false_eq_true not_true_eq_false QE Qtr Qtq Qmw QnS Qmv Qmu QkN QkM QkL QkK QkJ QkI Qtp Qmt QnR Qms Qmr Qmq Qmp Qmo QnQ Qmn Qmm QrG QkH QkG QkF QkE QkD Qml QnP QnO QrF Qpn Qpm Qpl Qpk Qpj true_and true_implies
def QHv (l:List In):V:=.lst 5 (l.map fun x=>V.agg (inC x)) true
def QFY (ls:List (List In)):V:=.lst 1 (ls.map QHv) true
theorem QEr:∀ ls:List (List In),WkL (ls.map QHv) (ls.map Q9)
 | []=>.nil
 | l::ls=>.cons _ _ _ _ (.lst 5 5 _ _ true (WkL.refl _) (.inr rfl)) (QEr ls)
structure QHC (m:Im):Prop where
 nm:∀ s∈m.syms,s.1.length≤9223372036854775807
 wb:∀ w∈m.code,0≤w∧w<4294967296
theorem Qx1 {m:Im} {l:List In} (h:QHC m) (hok:∀ x∈l,Zq x):QHC (Qln m l):=by
 refine ⟨fun s hs=>?_,fun w hw=>?_⟩
 ·simp only [Qln,List.mem_append,List.mem_singleton] at hs
  rcases hs with hs | rfl
  ·exact h.nm s hs
  ·simp [nameAt]
 ·simp only [Qln,List.mem_append] at hw
  rcases hw with hw | hw
  ·exact h.wb w hw
  ·exact enc_b hok w hw
theorem QiT (ls:List (List In)) (hok:∀ l∈ls,∀ x∈l,Zq x):QHC (ZR ls 0):=by
 unfold ZR
 suffices ∀ (ls:List (List In)) (m:Im),QHC m→(∀ l∈ls,∀ x∈l,Zq x)→QHC (ls.foldl Qln m) from this ls _ ⟨by simp,by simp⟩ hok
 intro ls
 induction ls with
 | nil=>intro m h _; exact h
 | cons l ls ih=>intro m h hk; exact ih _ (Qx1 h (hk l (by simp))) fun l' h'=>hk l' (by simp [h'])
def Qgd (ls:List (List In)):Prop:=ls.length≤100∧(∀ l∈ls,l.length≤1000)∧∀ l∈ls,∀ x∈l,Zq x
variable {ls:List (List In)}
theorem Qp0 (hT:Qk Tryz.prog tab) (h:Qgd ls):Am.Pure Tryz.prog G0 Y4 [QFY ls,.int .i64 0] fun v=>v=QaY (ZR ls 0) :=
 Pure.args (.cons _ _ _ _ (.lst 1 1 _ _ true (QEr ls) (.inr rfl)) (.cons _ _ _ _ (.refl _) .nil)) (Qwn hT h.1 h.2.1 h.2.2)
theorem Qr3 (hT:Qk Tryz.prog tab) (h:Qgd ls):Am.Pure Tryz.prog G0 YV [QaY (ZR ls 0)] fun v=>v=.bool true :=
 QhQ hT _ (QiT ls h.2.2).nm (QiT ls h.2.2).wb
theorem QxN (hT:Qk Tryz.prog tab) (h:Qgd ls):Am.Pure Tryz.prog G0 Yr [QaY (ZR ls 0)] fun v=>v=.bool true :=
 Qma hT _ (QiT ls h.2.2).nm (QiT ls h.2.2).wb
theorem QpZ (hT:Qk Tryz.prog tab) (h:Qgd ls) (ws:List Int) (hws:∀ w∈ws,0≤w∧w≤255):Am.Pure Tryz.prog G0 YF [QaY (ZR ls 0),.lst 1 (us ws) true] fun v=>v=.bool true :=
 Pure.args (.cons _ _ _ _ (.refl _) (.cons _ _ _ _ (.lst 1 1 _ _ true (WkL.refl _) (.inr rfl)) .nil)) (Qiz hT _ ws (QiT ls h.2.2).nm (QiT ls h.2.2).wb hws)
theorem Qk8 (ls:List (List In)):Qb [QFY ls,.int .i64 0]=true:=by simp [QFY,Qb,Qd]
theorem Qp1 (m:Im) (ws:List Int):Qb [QaY m,.lst 1 (us ws) true]=true:=by
 have:=Qbv m
 simp [Qb,Qd] at this ⊢
 exact this
def QcA:In:=QH 5 5 1
abbrev knH (t0:Nat):List (Option Ob):=[some (.arr t0 47 (inC QcA))]
abbrev k1J (t0:Nat) (op:Int) (X:List In):Nat→Fr→H→Prop:=fun k fr σ=>∃ t,Qg fr 1=.ptr 0 t0 0∧Qg fr 2=.int .u8 op∧Qg fr 36=.lst 5 (X.map fun x=>V.agg (inC x)) true∧Qg fr 37=.int .i64 X.length∧Qg fr 38=.int .i64 ((k:Nat):Int)∧σ=⟨t,knH t0⟩
abbrev k1E (t0:Nat) (op:Int):AE→Fr→H→Prop:=fun e fr σ=>∃ t,e=.ex 2∧Qg fr 1=.ptr 0 t0 0∧Qg fr 2=.int .u8 op∧σ=⟨t,knH t0⟩
theorem take1 (a b:Option Ob):YR [a] [a,b]:=Y0 1 [a,b]
variable {σ:H} {fr:Fr} {op:Int} {t0:Nat}
theorem QxU (hT:Qk Tryz.prog tab) {X:List In} (hX:X.length≤100) {k:Nat} {x:In} (hx:X[k]?=some x) (hxo:Zq x) (hJ:k1J t0 op X k fr σ) :
 W Tryz.prog G0 201 0 (zg Qpn [] (.seq (zw 39 .skip (.exit 2)) (.seq (.block 3 (zg Qpm [40,41] (zg Qpl [42,43,44,45,46,47,48,49,50,51,52,53,54,55,56,57,58,59,60,61,62,63] (zw 64 (zg Qpk [] .ret) .skip)))) (.reg Qpj [65])))) fr σ (QbQ (fun fr σ=>∃ fr' σ',Shift G0 201 0 fr σ fr' σ'∧k1J t0 op X (k+1) fr' σ') (k1E t0 op)):=by
 obtain ⟨t,f1,f2,f36,f37,f38,rfl⟩:=hJ
 have hlt:=(List.getElem?_eq_some_iff.1 hx).1
 have hlt':((k:Int)<(X.length:Int))=True:=eq_true (by omega)
 have hD:=Xo hx
 have e2:=ZT hlt (by omega)
 have okn:Zq QcA:=Qc3 (l:=[QcA]) rfl QcA (by simp)
 have okj:Zq jr:=Qc3 (l:=[jr]) rfl jr (by simp)
 have oka:Zq (QH 2 2 (-16)):=Qc3 (l:=[QH 2 2 (-16)]) rfl _ (by simp)
 have okb:Zq (QH 2 2 16):=Qc3 (l:=[QH 2 2 16]) rfl _ (by simp)
 have r1:Qgd [[QcA,x,QcA,QcA,jr]]:=⟨by simp,by simp,by simp [okn,okj,hxo]⟩
 have r2:Qgd [[QH 2 2 (-16),x,QcA,QH 2 2 16,jr]]:=⟨by simp,by simp,by simp [okn,okj,oka,okb,hxo]⟩
 have i1:=Qp0 hT r1
 have o1:=Qr3 hT r1
 have i2:=Qp0 hT r2
 have c2:=QpZ hT r2 [0,1,0,1,1,1] (by decide)
 have ni1:=Qk8 [[QcA,x,QcA,QcA,jr]]
 have ni2:=Qk8 [[QH 2 2 (-16),x,QcA,QH 2 2 16,jr]]
 have nm1:=Qbv (ZR [[QcA,x,QcA,QcA,jr]] 0)
 have nm2:=Qp1 (ZR [[QH 2 2 (-16),x,QcA,QH 2 2 16,jr]] 0) [0,1,0,1,1,1]
 have hJr:=c_jr (P:=Tryz.prog) (G:=G0) hT
 have hA1:=Qhq (P:=Tryz.prog) (G:=G0) hT 2 2 (-16)
 have hA2:=Qhq (P:=Tryz.prog) (G:=G0) hT 2 2 16
 generalize ZR [[QcA,x,QcA,QcA,jr]] 0=m1 at *
 generalize ZR [[QH 2 2 (-16),x,QcA,QH 2 2 16,jr]] 0=m2 at *
 simp only [QFY,QHv,QcA,QH,jr,inC,us,QaY,X5,QU,QF,List.map_cons,List.map_nil] at i1 o1 i2 c2 ni1 ni2 nm1 nm2 hJr hA1 hA2 hD
 refine Qh [(1,.ptr 0 t0 0),(2,.int .u8 op),(36,.lst 5 (X.map fun x=>V.agg (inC x)) true),(37,.int .i64 X.length),(38,.int .i64 ((k:Nat):Int))] ⟨f1,f2,f36,f37,f38,trivial⟩  30 ?_
 simp -implicitDefEqProofs (disch:=omega) only [go_sem,↓reduceIte,reduceCtorEq,rA,rq,hlt,hlt',hD,QcA,QH]
 iterate 2 (try (refine Qa 8 ?_; simp -implicitDefEqProofs (disch:=omega) only [go_sem,↓reduceIte,reduceCtorEq,rA,rq,rL,rT,Nat.reduceSub,Nat.reduceMul,Int.reduceToNat,Int.reduceLE,Int.reduceLT,Int.reduceEq,Int.reduceNe,Nat.reduceBEq,Nat.reduceBNe,Int.reduceBEq,Int.reduceBNe,hlt,hlt',hD,QcA,QH]))
 refine Qf hT QC hJr rfl 20 ?_
 simp -implicitDefEqProofs (disch:=omega) only [go_sem,↓reduceIte,rA,rq,rL]
 refine Qf hT QY i1 ni1 20 ?_
 simp -implicitDefEqProofs (disch:=omega) only [go_sem,↓reduceIte,rq]
 refine Qf hT Qy o1 nm1 20 ?_
 simp -implicitDefEqProofs (disch:=omega) only [go_sem,↓reduceIte,reduceCtorEq,rA,rq,rL]
 repeat' (first | with_reducible refine And.intro ?_ ?_ | (refine Qf hT Qi hA1 rfl 20 ?_; simp -implicitDefEqProofs (disch:=omega) only [go_sem,↓reduceIte,rA,rq,rL]) | (refine Qf hT Qi hA2 rfl 20 ?_; simp -implicitDefEqProofs (disch:=omega) only [go_sem,↓reduceIte,rA,rq,rL]) | (refine Qf hT QC hJr rfl 20 ?_; simp -implicitDefEqProofs (disch:=omega) only [go_sem,↓reduceIte,rA,rq,rL]) | (refine Qf hT QY i2 ni2 20 ?_; simp -implicitDefEqProofs (disch:=omega) only [go_sem,↓reduceIte,rA,rq,rL]) | (refine Qf hT Xb c2 nm2 20 ?_; simp -implicitDefEqProofs (disch:=omega) only [go_sem,↓reduceIte,rA,rq,e2]))
 all_goals
  refine ⟨_,_,Shift.drop (o':=knH t0) (t':=t+1) (take1 _ _) (lR _) (zL _),t+1,?_⟩
  exact ⟨rfl,rfl,rfl,rfl,rfl,rfl⟩
abbrev k0J (t0:Nat):Nat→Fr→H→Prop:=fun n fr σ=>∃ t,Qg fr 1=.ptr 0 t0 0∧Qg fr 2=.int .u8 ((n:Nat):Int)∧σ=⟨t,knH t0⟩
abbrev k0E (t0:Nat):AE→Fr→H→Prop:=fun e fr σ=>∃ t,e=.ex 0∧Qg fr 1=.ptr 0 t0 0∧σ=⟨t,knH t0⟩
def X1 (op:Int):List In:=[⟨op,0,0,0,0⟩,⟨op,5,2,0,16⟩,⟨op,2,5,0,0⟩,⟨op,0,2,5,8⟩,⟨op,0,5,2,8⟩,⟨op,0,2,2,4⟩,⟨op,1,0,0,-4⟩,⟨op,0,1,0,0⟩]
theorem X1_ok (h:0≤op∧op≤255):∀ x∈X1 op,Zq x:=fun x hx=>by
 simp only [X1,List.mem_cons,List.not_mem_nil,or_false] at hx
 rcases hx with rfl | rfl | rfl | rfl | rfl | rfl | rfl | rfl <;> (unfold Zq i64; simp only; omega)
theorem QxV (hT:Qk Tryz.prog tab) {n:Nat} (hn:n<67) (hJ:k0J t0 n fr σ) :
 W Tryz.prog G0 201 0 (.seq (zg QrG [16] (zw 17 .skip (.exit 0))) (.seq (.block 1 (zg QrF [20,21,22,23,24,25,26,27,28,29,30,31,32,33,34,35] (.block 2 (.loop (zg Qpn [] (.seq (zw 39 .skip (.exit 2)) (.seq (.block 3 (zg Qpm [40,41] (zg Qpl [42,43,44,45,46,47,48,49,50,51,52,53,54,55,56,57,58,59,60,61,62,63] (zw 64 (zg Qpk [] .ret) .skip)))) (.reg Qpj [65])))))))) (.reg Qmw [18,19]))) fr σ (QbQ (fun fr σ=>∃ fr' σ',Shift G0 201 0 fr σ fr' σ'∧k0J t0 (n+1) fr' σ') (k0E t0)):=by
 obtain ⟨t,f1,f2,rfl⟩:=hJ
 have hlt:decide ((n:Int)<67)=true:=decide_eq_true (by omega)
 have hlt':((n:Int)<67)=True:=eq_true (by omega)
 have w1:IntKind.u8.wrap ((n:Int)+1)=((n+1:Nat):Int):=by
  rw [X8]
  ·omega
  ·simp [IntKind.min,IntKind.signed]; try omega
  ·simp [IntKind.max,IntKind.signed,IntKind.bits]; try omega
 have h8:((X1 n).length:Int)=8:=rfl
 have hXv:V.lst 5 ((X1 n).map fun x=>V.agg (inC x)) true=.lst 5 [.agg [.int .u8 n,.int .u8 0,.int .u8 0,.int .u8 0,.int .i64 0],.agg [.int .u8 n,.int .u8 5,.int .u8 2,.int .u8 0,.int .i64 16],.agg [.int .u8 n,.int .u8 2,.int .u8 5,.int .u8 0,.int .i64 0],.agg [.int .u8 n,.int .u8 0,.int .u8 2,.int .u8 5,.int .i64 8],.agg [.int .u8 n,.int .u8 0,.int .u8 5,.int .u8 2,.int .i64 8],.agg [.int .u8 n,.int .u8 0,.int .u8 2,.int .u8 2,.int .i64 4],.agg [.int .u8 n,.int .u8 1,.int .u8 0,.int .u8 0,.int .i64 (-4)],.agg [.int .u8 n,.int .u8 0,.int .u8 1,.int .u8 0,.int .i64 0]] true:=rfl
 refine Qh [(1,.ptr 0 t0 0),(2,.int .u8 ((n:Nat):Int))] ⟨f1,f2,trivial⟩  60 ?_
 simp -implicitDefEqProofs (disch:=omega) only [go_sem,↓reduceIte,rA,rq,rL,hlt']
 iterate 6 (try (refine Qa 8 ?_; simp -implicitDefEqProofs (disch:=omega) only [go_sem]))
 refine Xn (X1 n) (k1J t0 n (X1 n)) (k1E t0 n) ⟨t,?_⟩ (fun k x hx fr σ hJ=>QxU hT (by simp [X1]) hx (X1_ok (by omega) x (List.mem_of_getElem? hx)) hJ) (fun k hk fr σ hJ=>?_) (fun e fr σ hE=>?_)
 ·rw [hXv,h8]
  simp -implicitDefEqProofs (disch:=omega) only [go_sem,↓reduceIte,rq]
  all_goals first | rfl | exact ⟨rfl,rfl⟩ | exact ⟨rfl,rfl,rfl⟩
 ·obtain ⟨t2,f1,f2,f36,f37,f38,rfl⟩:=hJ
  refine Qh [(1,.ptr 0 t0 0),(2,.int .u8 ((n:Nat):Int)),(37,.int .i64 (X1 n).length),(38,.int .i64 ((k:Nat):Int))] ⟨f1,f2,f37,f38,trivial⟩ 12 ?_
  simp -implicitDefEqProofs (disch:=omega) only [go_sem,↓reduceIte,rq,hk,Nat.lt_irrefl]
  exact ⟨t2,rfl,rfl,rfl,rfl⟩
 ·obtain ⟨t2,rfl,f1,f2,rfl⟩:=hE
  refine Qa3 [(1,.ptr 0 t0 0),(2,.int .u8 ((n:Nat):Int))] ⟨f1,f2,trivial⟩ 12 ?_
  simp -implicitDefEqProofs (disch:=omega) only [go_sem,↓reduceIte,rq,w1]
  exact ⟨_,_,Shift.refl _ _ _ _,t2,rfl,rfl,rfl⟩
end
end Go.Proofs.YtaidbdgndljaeaaGreatDoor
