/- The closed law: Yh. -/
import Derived.Test.YtaidbdgndljaeaaGreatDoorJ15
open Nat renaming reduceEqDiff → rq, reduceAdd → rA, reduceLeDiff → rL, reduceLT → rT, zero_add → zA, le_refl → lR, zero_le → zL, add_zero → aZ
open List renaming length_cons → lC, length_nil → lN, take_succ_cons → tS, length_append → lA, nil_append → nA, cons_append → cA, append_assoc → aA, take_nil → tN, take_zero → tZ, length_map → lM
open Bool renaming not_false → nF, not_true → nT
namespace Go.Proofs.YtaidbdgndljaeaaGreatDoor
open Go Go.Am Go.Rv Go.Rg
set_option maxRecDepth 100000
set_option maxHeartbeats 8000000
section
attribute [local go_sem] nF nT cA lM List.map_cons List.map_nil nA aZ lR Nat.mul_one Nat.one_mul Nat.succ_ne_zero zA zL Nat.zero_mul Option.getD_none Option.getD_some Option.isSome_none Option.isSome_some V.cells and_true beq_self_eq_true bne_self_eq_false decide_false decide_true false_implies ge_iff_le gt_iff_lt inC Qw not_false_eq_true not_true_eq_false QE Qtr Qtq Qmw QnS Qmv Qmu QkN QkM QkL QkK QkJ QkI Qtp Qmt QnR Qms Qmr Qmq Qmp Qmo QnQ Qmn Qmm QrG QkH QkG QkF QkE QkD Qml QnP QnO QrF Qpn Qpm Qpl Qpk Qpj true_and true_implies
abbrev k3J (t0:Nat) (n:Int) (X:List In):Nat→Fr→H→Prop:=fun k fr σ=>∃ t,Qg fr 1=.ptr 0 t0 0∧Qg fr 5=.int .i64 n∧Qg fr 78=.lst 5 (X.map fun x=>V.agg (inC x)) true∧Qg fr 79=.int .i64 X.length∧Qg fr 80=.int .i64 ((k:Nat):Int)∧σ=⟨t,knH t0⟩
abbrev k3E (t0:Nat) (n:Int):AE→Fr→H→Prop:=fun e fr σ=>∃ t,e=.ex 6∧Qg fr 1=.ptr 0 t0 0∧Qg fr 5=.int .i64 n∧σ=⟨t,knH t0⟩
theorem take1' (a b c:Option Ob):YR [a] [a,b,c]:=Y0 1 [a,b,c]
variable {σ:H} {fr:Fr} {n:Int} {t0:Nat}
theorem QxS (hT:Qk Tryz.prog tab) {X:List In} (hX:X.length≤100) {k:Nat} {x:In} (hx:X[k]?=some x) (hxo:Zq x) (hJ:k3J t0 n X k fr σ) :
 W Tryz.prog G0 201 0 (zg QkN [] (.seq (zw 81 .skip (.exit 6)) (.seq (.block 7 (zg QkM [82,83] (zg QkL [84,85,86,87,88,89,90,91,92,93,94,95] (zg QkK [96,97,98,99,100,101,102,103,104,105,106,107,108] (zw 109 (zg QkJ [] .ret) .skip))))) (.reg QkI [110])))) fr σ (QbQ (fun fr σ=>∃ fr' σ',Shift G0 201 0 fr σ fr' σ'∧k3J t0 n X (k+1) fr' σ') (k3E t0 n)):=by
 obtain ⟨t,f1,f5,f78,f79,f80,rfl⟩:=hJ
 have hlt:=(List.getElem?_eq_some_iff.1 hx).1
 have hlt':((k:Int)<(X.length:Int))=True:=eq_true (by omega)
 have hD:=Xo hx
 have e2:=ZT hlt (by omega)
 have okn:Zq QcA:=Qc3 (l:=[QcA]) rfl QcA (by simp)
 have okj:Zq jr:=Qc3 (l:=[jr]) rfl jr (by simp)
 have oka:Zq (QH 2 2 (-16)):=Qc3 (l:=[QH 2 2 (-16)]) rfl _ (by simp)
 have okb:Zq (QH 2 2 16):=Qc3 (l:=[QH 2 2 16]) rfl _ (by simp)
 have r1:Qgd [[QH 2 2 (-16),QcA,x,QH 2 2 16,jr],[QcA,x,jr]]:=⟨by simp,by simp,by simp [okn,okj,oka,okb,hxo]⟩
 have i1:=Qp0 hT r1
 have o1:=Qr3 hT r1
 have q1:=QxN hT r1
 have c1:=QpZ hT r1 [0,0,1,0,0,0,1] (by decide)
 have ni1:=Qk8 [[QH 2 2 (-16),QcA,x,QH 2 2 16,jr],[QcA,x,jr]]
 have nm1:=Qbv (ZR [[QH 2 2 (-16),QcA,x,QH 2 2 16,jr],[QcA,x,jr]] 0)
 have nm2:=Qp1 (ZR [[QH 2 2 (-16),QcA,x,QH 2 2 16,jr],[QcA,x,jr]] 0) [0,0,1,0,0,0,1]
 have hJr:=c_jr (P:=Tryz.prog) (G:=G0) hT
 have hA1:=Qhq (P:=Tryz.prog) (G:=G0) hT 2 2 (-16)
 have hA2:=Qhq (P:=Tryz.prog) (G:=G0) hT 2 2 16
 generalize ZR [[QH 2 2 (-16),QcA,x,QH 2 2 16,jr],[QcA,x,jr]] 0=m1 at *
 simp only [QFY,QHv,QcA,QH,jr,inC,us,QaY,X5,QU,QF,List.map_cons,List.map_nil] at i1 o1 q1 c1 ni1 nm1 nm2 hJr hA1 hA2 hD
 refine Qh [(1,.ptr 0 t0 0),(5,.int .i64 n),(78,.lst 5 (X.map fun x=>V.agg (inC x)) true),(79,.int .i64 X.length),(80,.int .i64 ((k:Nat):Int))] ⟨f1,f5,f78,f79,f80,trivial⟩  30 ?_
 simp -implicitDefEqProofs (disch:=omega) only [go_sem,↓reduceIte,reduceCtorEq,rA,rq,hlt,hlt',hD,QcA,QH]
 iterate 2 (try (refine Qa 8 ?_; simp -implicitDefEqProofs (disch:=omega) only [go_sem,↓reduceIte,reduceCtorEq,rA,rq,rL,rT,Nat.reduceSub,Nat.reduceMul,Int.reduceToNat,Int.reduceLE,Int.reduceLT,Int.reduceEq,Int.reduceNe,Nat.reduceBEq,Nat.reduceBNe,Int.reduceBEq,Int.reduceBNe,hlt,hlt',hD,QcA,QH]))
 repeat' (first | with_reducible refine And.intro ?_ ?_ | (refine Qf hT Qi hA1 rfl 20 ?_; simp -implicitDefEqProofs (disch:=omega) only [go_sem,↓reduceIte,rA,rq]) | (refine Qf hT Qi hA2 rfl 20 ?_; simp -implicitDefEqProofs (disch:=omega) only [go_sem,↓reduceIte,rA,rq]) | (refine Qf hT QC hJr rfl 20 ?_; simp -implicitDefEqProofs (disch:=omega) only [go_sem,↓reduceIte,rA,rq,rL]) | (refine Qf hT QY i1 ni1 30 ?_; simp -implicitDefEqProofs (disch:=omega) only [go_sem,↓reduceIte,reduceCtorEq,rA,rq]) | (refine Qf hT Qy o1 nm1 20 ?_; simp -implicitDefEqProofs (disch:=omega) only [go_sem,↓reduceIte,reduceCtorEq,rA,rq]) | (refine Qf hT Zs q1 nm1 20 ?_; simp -implicitDefEqProofs (disch:=omega) only [go_sem,↓reduceIte,reduceCtorEq,rA,rq,rL]) | (refine Qf hT Xb c1 nm2 20 ?_; simp -implicitDefEqProofs (disch:=omega) only [go_sem,↓reduceIte,rA,rq,e2]))
 all_goals
  refine ⟨_,_,Shift.drop (o':=knH t0) (t':=t+1+1) (take1' _ _ _) (lR _) (zL _),t+1+1,?_⟩
  exact ⟨rfl,rfl,rfl,rfl,rfl,rfl⟩
abbrev k2J (t0:Nat):Nat→Fr→H→Prop:=fun n fr σ=>∃ t,Qg fr 1=.ptr 0 t0 0∧Qg fr 5=.int .i64 (2 * ((n:Nat):Int) - 20)∧σ=⟨t,knH t0⟩
abbrev k2E (t0:Nat):AE→Fr→H→Prop:=fun e fr σ=>∃ t,e=.ex 4∧Qg fr 1=.ptr 0 t0 0∧σ=⟨t,knH t0⟩
def X3 (n:Int):List In:=[⟨3,0,0,0,n⟩,⟨5,0,5,0,n⟩,⟨3,1,0,0,n⟩,⟨3,3,0,0,n⟩]
theorem X3_ok (h:-100≤n∧n≤100):∀ x∈X3 n,Zq x:=fun x hx=>by
 simp only [X3,List.mem_cons,List.not_mem_nil,or_false] at hx
 rcases hx with rfl | rfl | rfl | rfl <;> (unfold Zq i64; simp only; omega)
theorem QxT (hT:Qk Tryz.prog tab) {n:Nat} (hn:n<23) (hJ:k2J t0 n fr σ) :
 W Tryz.prog G0 201 0 (.seq (zg Qmv [66] (zw 67 .skip (.exit 4))) (.seq (.block 5 (zg Qmu [70,71,72,73,74,75,76,77] (.block 6 (.loop (zg QkN [] (.seq (zw 81 .skip (.exit 6)) (.seq (.block 7 (zg QkM [82,83] (zg QkL [84,85,86,87,88,89,90,91,92,93,94,95] (zg QkK [96,97,98,99,100,101,102,103,104,105,106,107,108] (zw 109 (zg QkJ [] .ret) .skip))))) (.reg QkI [110])))))))) (.reg Qmt [68,69]))) fr σ (QbQ (fun fr σ=>∃ fr' σ',Shift G0 201 0 fr σ fr' σ'∧k2J t0 (n+1) fr' σ') (k2E t0)):=by
 obtain ⟨t,f1,f5,rfl⟩:=hJ
 obtain ⟨i,hi⟩:∃ i:Int,i=2 * ((n:Nat):Int) - 20:=⟨_,rfl⟩
 rw [← hi] at f5
 have hlt:decide (i≤24)=true:=decide_eq_true (by omega)
 have hlt':(i≤24)=True:=eq_true (by omega)
 have w1:IntKind.i64.wrap (i+2)=2 * ((n+1:Nat):Int) - 20:=by rw [XA (by omega)]; omega
 have h4:((X3 i).length:Int)=4:=rfl
 have hXv:V.lst 5 ((X3 i).map fun x=>V.agg (inC x)) true=.lst 5 [.agg [.int .u8 3,.int .u8 0,.int .u8 0,.int .u8 0,.int .i64 i],.agg [.int .u8 5,.int .u8 0,.int .u8 5,.int .u8 0,.int .i64 i],.agg [.int .u8 3,.int .u8 1,.int .u8 0,.int .u8 0,.int .i64 i],.agg [.int .u8 3,.int .u8 3,.int .u8 0,.int .u8 0,.int .i64 i]] true:=rfl
 refine Qh [(1,.ptr 0 t0 0),(5,.int .i64 i)] ⟨f1,f5,trivial⟩ 60 ?_
 simp -implicitDefEqProofs (disch:=omega) only [go_sem,↓reduceIte,rA,rq,rL,hlt']
 iterate 6 (try (refine Qa 8 ?_; simp -implicitDefEqProofs (disch:=omega) only [go_sem]))
 refine Xn (X3 i) (k3J t0 i (X3 i)) (k3E t0 i) ⟨t,?_⟩ (fun k x hx fr σ hJ=>QxS hT (by simp [X3]) hx (X3_ok (by omega) x (List.mem_of_getElem? hx)) hJ) (fun k hk fr σ hJ=>?_) (fun e fr σ hE=>?_)
 ·rw [hXv,h4]
  simp -implicitDefEqProofs (disch:=omega) only [go_sem,↓reduceIte,rq]
  all_goals first | rfl | exact ⟨rfl,rfl⟩ | exact ⟨rfl,rfl,rfl⟩
 ·obtain ⟨t2,f1,f5,f78,f79,f80,rfl⟩:=hJ
  refine Qh [(1,.ptr 0 t0 0),(5,.int .i64 i),(79,.int .i64 (X3 i).length),(80,.int .i64 ((k:Nat):Int))] ⟨f1,f5,f79,f80,trivial⟩ 12 ?_
  simp -implicitDefEqProofs (disch:=omega) only [go_sem,↓reduceIte,rq,hk,Nat.lt_irrefl]
  exact ⟨t2,rfl,rfl,rfl,rfl⟩
 ·obtain ⟨t2,rfl,f1,f5,rfl⟩:=hE
  refine Qa3 [(1,.ptr 0 t0 0),(5,.int .i64 i)] ⟨f1,f5,trivial⟩ 12 ?_
  simp -implicitDefEqProofs (disch:=omega) only [go_sem,↓reduceIte,rq,w1]
  exact ⟨_,_,Shift.refl _ _ _ _,t2,rfl,rfl,rfl⟩
end
section
attribute [local go_sem] nF nT cA lM List.map_cons List.map_nil nA aZ lR Nat.mul_one Nat.one_mul Nat.succ_ne_zero zA zL Nat.zero_mul Option.getD_none Option.getD_some Option.isSome_none Option.isSome_some V.cells and_true beq_self_eq_true bne_self_eq_false decide_false decide_true false_implies ge_iff_le gt_iff_lt inC Qw not_false_eq_true not_true_eq_false QE Qtr Qtq Qmw QnS Qmv Qmu QkN QkM QkL QkK QkJ QkI Qtp Qmt QnR Qms Qmr Qmq Qmp Qmo QnQ Qmn Qmm QrG QkH QkG QkF QkE QkD Qml QnP QnO QrF Qpn Qpm Qpl Qpk Qpj true_and true_implies
def fr4:List Int:=[-2048,-2000,-1992,-1984,-20,-16,-8,-4,0,8,16]
abbrev k4J (t0:Nat):Nat→Fr→H→Prop:=fun k fr σ=>∃ t,Qg fr 1=.ptr 0 t0 0∧Qg fr 111=.lst 1 (ints fr4) true∧Qg fr 112=.int .i64 fr4.length∧Qg fr 113=.int .i64 ((k:Nat):Int)∧σ=⟨t,knH t0⟩
abbrev k4E (t0:Nat):AE→Fr→H→Prop:=fun e fr σ=>∃ t,e=.ex 8∧Qg fr 1=.ptr 0 t0 0∧σ=⟨t,knH t0⟩
variable {σ:H} {fr:Fr} {t0 n:Nat}
theorem QxR (hT:Qk Tryz.prog tab) {k:Nat} {n:Int} (hx:fr4[k]?=some n) (hJ:k4J t0 k fr σ) :
 W Tryz.prog G0 201 0 (zg Qms [] (.seq (zw 114 .skip (.exit 8)) (.seq (.block 9 (zg Qmr [115,116] (zg Qmq [117,118,119,120,121,122,123,124,125,126,127,128,129,130,131,132,133,134,135,136,137,138,139,140,141,142,143,144,145,146,147,148,149,150] (zw 151 (zg Qmp [] .ret) .skip)))) (.reg Qmo [152])))) fr σ (QbQ (fun fr σ=>∃ fr' σ',Shift G0 201 0 fr σ fr' σ'∧k4J t0 (k+1) fr' σ') (k4E t0)):=by
 obtain ⟨t,f1,f111,f112,f113,rfl⟩:=hJ
 have hnb:-2048≤n∧n≤2048:=by
  have:=List.mem_of_getElem? hx
  simp only [fr4,List.mem_cons,List.not_mem_nil,or_false] at this
  omega
 have hlt:=(List.getElem?_eq_some_iff.1 hx).1
 have hll:fr4.length=11:=rfl
 have hlt':((k:Int)<(fr4.length:Int))=True:=eq_true (by omega)
 have hD:=Qdd hx
 have hIl:(ints fr4).length=fr4.length:=Qq _
 have e2:=ZT hlt (by omega)
 have wn:IntKind.i64.wrap (0 - n)=-n:=by rw [XA (by omega)]; omega
 have okj:Zq jr:=Qc3 (l:=[jr]) rfl jr (by simp)
 have okb:Zq (QH 2 2 16):=Qc3 (l:=[QH 2 2 16]) rfl _ (by simp)
 have oka:Zq (QH 2 2 n):=by unfold Zq i64 QH; simp only; omega
 have okc:Zq (QH 2 2 (-n)):=by unfold Zq i64 QH; simp only; omega
 have r1:Qgd [[QH 2 2 n,QH 2 2 (-n),jr]]:=⟨by simp,by simp,by simp [okj,oka,okc]⟩
 have r2:Qgd [[QH 2 2 n,jr]]:=⟨by simp,by simp,by simp [okj,oka]⟩
 have r3:Qgd [[QH 2 2 n,QH 2 2 (-n)],[QH 2 2 16]]:=⟨by simp,by simp,by simp [okb,oka,okc]⟩
 have i1:=Qp0 hT r1
 have i2:=Qp0 hT r2
 have i3:=Qp0 hT r3
 have o1:=Qr3 hT r1
 have o2:=Qr3 hT r2
 have o3:=Qr3 hT r3
 have ni1:=Qk8 [[QH 2 2 n,QH 2 2 (-n),jr]]
 have ni2:=Qk8 [[QH 2 2 n,jr]]
 have ni3:=Qk8 [[QH 2 2 n,QH 2 2 (-n)],[QH 2 2 16]]
 have nm1:=Qbv (ZR [[QH 2 2 n,QH 2 2 (-n),jr]] 0)
 have nm2:=Qbv (ZR [[QH 2 2 n,jr]] 0)
 have nm3:=Qbv (ZR [[QH 2 2 n,QH 2 2 (-n)],[QH 2 2 16]] 0)
 have hJr:=c_jr (P:=Tryz.prog) (G:=G0) hT
 have hA1:=Qhq (P:=Tryz.prog) (G:=G0) hT 2 2 n
 have hA2:=Qhq (P:=Tryz.prog) (G:=G0) hT 2 2 (-n)
 have hA3:=Qhq (P:=Tryz.prog) (G:=G0) hT 2 2 16
 generalize ZR [[QH 2 2 n,QH 2 2 (-n),jr]] 0=m1 at *
 generalize ZR [[QH 2 2 n,jr]] 0=m2 at *
 generalize ZR [[QH 2 2 n,QH 2 2 (-n)],[QH 2 2 16]] 0=m3 at *
 simp only [QFY,QHv,QH,jr,inC,QaY,X5,QU,QF,List.map_cons,List.map_nil] at i1 i2 i3 o1 o2 o3 ni1 ni2 ni3 nm1 nm2 nm3 hJr hA1 hA2 hA3
 refine Qh [(1,.ptr 0 t0 0),(111,.lst 1 (ints fr4) true),(112,.int .i64 fr4.length),(113,.int .i64 ((k:Nat):Int))] ⟨f1,f111,f112,f113,trivial⟩  30 ?_
 simp -implicitDefEqProofs (disch:=omega) only [go_sem,↓reduceIte,rq,hlt,hlt',hD,hIl]
 iterate 2 (try (refine Qa 8 ?_; simp -implicitDefEqProofs (disch:=omega) only [go_sem,↓reduceIte,reduceCtorEq,rA,rq,rL,rT,Nat.reduceSub,Nat.reduceMul,Int.reduceToNat,Int.reduceLE,Int.reduceLT,Int.reduceEq,Int.reduceNe,Nat.reduceBEq,Nat.reduceBNe,Int.reduceBEq,Int.reduceBNe,hlt,hlt',hD,hIl]))
 repeat' (first | with_reducible refine And.intro ?_ ?_ | (refine Qf hT Qi hA1 rfl 20 ?_; simp -implicitDefEqProofs (disch:=omega) only [go_sem,↓reduceIte,rA,rq,wn]) | (refine Qf hT Qi hA2 rfl 20 ?_; simp -implicitDefEqProofs (disch:=omega) only [go_sem,↓reduceIte,rA,rq,rL]) | (refine Qf hT Qi hA3 rfl 20 ?_; simp -implicitDefEqProofs (disch:=omega) only [go_sem,↓reduceIte,rA,rq,rL]) | (refine Qf hT QC hJr rfl 20 ?_; simp -implicitDefEqProofs (disch:=omega) only [go_sem,↓reduceIte,rA,rq,rL]) | (refine Qf hT QY i1 ni1 30 ?_; simp -implicitDefEqProofs (disch:=omega) only [go_sem,↓reduceIte,rq]) | (refine Qf hT QY i2 ni2 30 ?_; simp -implicitDefEqProofs (disch:=omega) only [go_sem,↓reduceIte,rA,rq]) | (refine Qf hT QY i3 ni3 30 ?_; simp -implicitDefEqProofs (disch:=omega) only [go_sem,↓reduceIte,rA,rq]) | (refine Qf hT Qy o1 nm1 20 ?_; simp -implicitDefEqProofs (disch:=omega) only [go_sem,↓reduceIte,rA,rq]) | (refine Qf hT Qy o2 nm2 20 ?_; simp -implicitDefEqProofs (disch:=omega) only [go_sem,↓reduceIte,rA,rq]) | (refine Qf hT Qy o3 nm3 20 ?_; simp -implicitDefEqProofs (disch:=omega) only [go_sem,↓reduceIte,rA,rq,e2]))
 all_goals
  exact ⟨_,_,Shift.refl _ _ _ _,t,rfl,rfl,rfl,rfl,rfl⟩
abbrev k6J (t0 n:Nat):Nat→Fr→H→Prop:=fun j fr σ=>∃ t,Qg fr 1=.ptr 0 t0 0∧Qg fr 11=.int .i64 ((n+2:Nat):Int)∧Qg fr 12=.int .i64 ((j:Nat):Int)∧σ=⟨t,knH t0⟩
abbrev k6E (t0 n:Nat):AE→Fr→H→Prop:=fun e fr σ=>∃ t,e=.ex 12∧Qg fr 1=.ptr 0 t0 0∧Qg fr 11=.int .i64 ((n+2:Nat):Int)∧σ=⟨t,knH t0⟩
theorem QxP (hT:Qk Tryz.prog tab) {j:Nat} (hn:n<4) (hj:j<4) (hJ:k6J t0 n j fr σ) :
 W Tryz.prog G0 201 0 (.seq (zg QkH [157] (zw 158 .skip (.exit 12))) (.seq (.block 13 (zg QkG [161,162,163,164,165,166,167,168,169,170,171,172,173,174] (zg QkF [175,176,177,178,179,180,181,182] (zw 183 (zg QkE [] .ret) .skip)))) (.reg QkD [159,160]))) fr σ (QbQ (fun fr σ=>∃ fr' σ',Shift G0 201 0 fr σ fr' σ'∧k6J t0 n (j+1) fr' σ') (k6E t0 n)):=by
 obtain ⟨t,f1,f11,f12,rfl⟩:=hJ
 have hlt:decide ((j:Int)<4)=true:=decide_eq_true (by omega)
 have hlt':((j:Int)<4)=True:=eq_true (by omega)
 obtain ⟨q,hq,hq0,hq1⟩:∃ q:Int,(j:Int).tdiv 3=q∧0≤q∧q≤1:=⟨_,rfl,by rw [Int.tdiv_eq_ediv_of_nonneg (by omega)]; omega,by rw [Int.tdiv_eq_ediv_of_nonneg (by omega)]; omega⟩
 have w0:IntKind.i64.wrap q=q:=XA (by omega)
 have w1:IntKind.u8.wrap q=q:=by
  rw [X8]
  ·simp [IntKind.min,IntKind.signed]; try omega
  ·simp [IntKind.max,IntKind.signed,IntKind.bits]; try omega
 have w2:IntKind.i64.wrap (-4 * (j:Int))=-4 * (j:Int):=XA (by omega)
 have e2:IntKind.i64.wrap ((j:Int)+1)=((j+1:Nat):Int):=by rw [XA (by omega)]; rfl
 have okn:Zq QcA:=Qc3 (l:=[QcA]) rfl QcA (by simp)
 have okj:Zq jr:=Qc3 (l:=[jr]) rfl jr (by simp)
 have oka:Zq (QH 17 q ((n+2:Nat):Int)):=by unfold Zq i64 QH; simp only; omega
 have oke:Zq Qbe:=Qc3 (l:=[Qbe]) rfl _ (by simp)
 have okb:Zq (⟨5,0,5,0,-4 * (j:Int)⟩:In):=by unfold Zq i64; simp only; omega
 have r1:Qgd [[QcA,QH 17 q ((n+2:Nat):Int),Qbe,⟨5,0,5,0,-4 * (j:Int)⟩,jr]]:=⟨by simp,by simp,by
  intro l hl x hx
  simp only [List.mem_cons,List.not_mem_nil,or_false] at hl
  subst hl
  simp only [List.mem_cons,List.not_mem_nil,or_false] at hx
  rcases hx with rfl | rfl | rfl | rfl | rfl <;> assumption⟩
 have i1:=Qp0 hT r1
 have o1:=Qr3 hT r1
 have c1:=QpZ hT r1 [0,0,0,0,0,1,0,0,1] (by decide)
 have ni1:=Qk8 [[QcA,QH 17 q ((n+2:Nat):Int),Qbe,⟨5,0,5,0,-4 * (j:Int)⟩,jr]]
 have nm1:=Qbv (ZR [[QcA,QH 17 q ((n+2:Nat):Int),Qbe,⟨5,0,5,0,-4 * (j:Int)⟩,jr]] 0)
 have nm2:=Qp1 (ZR [[QcA,QH 17 q ((n+2:Nat):Int),Qbe,⟨5,0,5,0,-4 * (j:Int)⟩,jr]] 0) [0,0,0,0,0,1,0,0,1]
 have hJr:=c_jr (P:=Tryz.prog) (G:=G0) hT
 have hA1:=Qhq (P:=Tryz.prog) (G:=G0) hT 17 q ((n+2:Nat):Int)
 generalize ZR [[QcA,QH 17 q ((n+2:Nat):Int),Qbe,⟨5,0,5,0,-4 * (j:Int)⟩,jr]] 0=m1 at *
 simp only [QFY,QHv,QcA,QH,Qbe,jr,inC,us,QaY,X5,QU,QF,List.map_cons,List.map_nil] at i1 o1 c1 ni1 nm1 nm2 hJr hA1
 refine Qh [(1,.ptr 0 t0 0),(11,.int .i64 ((n+2:Nat):Int)),(12,.int .i64 ((j:Nat):Int))] ⟨f1,f11,f12,trivial⟩  30 ?_
 simp -implicitDefEqProofs (disch:=omega) only [go_sem,↓reduceIte,reduceCtorEq,rA,rq,rL,Int.reduceEq,hlt',hq,w0,w1,w2,QcA,QH]
 iterate 3 (try (refine Qa 8 ?_; simp -implicitDefEqProofs (disch:=omega) only [go_sem,↓reduceIte,reduceCtorEq,rA,rq,rL,rT,Nat.reduceSub,Nat.reduceMul,Int.reduceToNat,Int.reduceLE,Int.reduceLT,Int.reduceEq,Int.reduceNe,Nat.reduceBEq,Nat.reduceBNe,Int.reduceBEq,Int.reduceBNe,hlt,hlt',hq,w0,w1,w2,QcA,QH]))
 repeat' (first | with_reducible refine And.intro ?_ ?_ | (refine Qf hT Qi hA1 rfl 20 ?_; simp -implicitDefEqProofs (disch:=omega) only [go_sem,↓reduceIte,rA,rq]) | (refine Qf hT QC hJr rfl 20 ?_; simp -implicitDefEqProofs (disch:=omega) only [go_sem,↓reduceIte,rA,rq,rL]) | (refine Qf hT QY i1 ni1 30 ?_; simp -implicitDefEqProofs (disch:=omega) only [go_sem,↓reduceIte,reduceCtorEq,rA,rq]) | (refine Qf hT Qy o1 nm1 20 ?_; simp -implicitDefEqProofs (disch:=omega) only [go_sem,↓reduceIte,reduceCtorEq,rA,rq,rL]) | (refine Qf hT Xb c1 nm2 20 ?_; simp -implicitDefEqProofs (disch:=omega) only [go_sem,↓reduceIte,rA,rq,e2]))
 all_goals
  refine ⟨_,_,Shift.drop (o':=knH t0) (t':=t+1) (take1 _ _) (lR _) (zL _),t+1,?_⟩
  exact ⟨rfl,rfl,rfl,rfl⟩
abbrev k5J (t0:Nat):Nat→Fr→H→Prop:=fun n fr σ=>∃ t,Qg fr 1=.ptr 0 t0 0∧Qg fr 11=.int .i64 ((n+2:Nat):Int)∧σ=⟨t,knH t0⟩
abbrev k5E:AE→Fr→H→Prop:=fun e fr σ=>∃ t t0,e=.ex 10∧Qg fr 1=.ptr 0 t0 0∧σ=⟨t,knH t0⟩
theorem QxQ (hT:Qk Tryz.prog tab) (hn:n<4) (hJ:k5J t0 n fr σ) :
 W Tryz.prog G0 201 0 (.seq (zg Qmn [153] (zw 154 .skip (.exit 10))) (.seq (.block 11 (zg Qmm [] (.block 12 (.loop (.seq (zg QkH [157] (zw 158 .skip (.exit 12))) (.seq (.block 13 (zg QkG [161,162,163,164,165,166,167,168,169,170,171,172,173,174] (zg QkF [175,176,177,178,179,180,181,182] (zw 183 (zg QkE [] .ret) .skip)))) (.reg QkD [159,160]))))))) (.reg Qml [155,156]))) fr σ (QbQ (fun fr σ=>∃ fr' σ',Shift G0 201 0 fr σ fr' σ'∧k5J t0 (n+1) fr' σ') k5E):=by
 obtain ⟨t,f1,f11,rfl⟩:=hJ
 have hlt:decide (((n+2:Nat):Int)<6)=true:=decide_eq_true (by omega)
 have hlt':(((n+2:Nat):Int)<6)=True:=eq_true (by omega)
 have w1:IntKind.i64.wrap (((n+2:Nat):Int)+1)=((n+1+2:Nat):Int):=by rw [XA (by omega)]; omega
 refine Qh [(1,.ptr 0 t0 0),(11,.int .i64 ((n+2:Nat):Int))] ⟨f1,f11,trivial⟩  30 ?_
 simp -implicitDefEqProofs (disch:=omega) only [go_sem,↓reduceIte,rq,hlt']
 refine Qkm 4 (k6J t0 n) (k6E t0 n) ⟨t,?_⟩ (fun j hj fr σ hJ=>QxP hT hn hj hJ) (fun j hj fr σ hJ=>?_) (fun e fr σ hE=>?_)
 ·simp -implicitDefEqProofs (disch:=omega) only [go_sem,↓reduceIte,rq]
  all_goals first | rfl | exact ⟨rfl,rfl⟩ | exact ⟨rfl,rfl,rfl⟩
 ·obtain ⟨t2,f1,f11,f12,rfl⟩:=hJ
  subst hj
  have h4:((4:Nat):Int)=4:=rfl
  rw [h4] at f12
  refine Qh [(1,.ptr 0 t0 0),(11,.int .i64 ((n+2:Nat):Int)),(12,.int .i64 4)] ⟨f1,f11,f12,trivial⟩ 12 ?_
  simp -implicitDefEqProofs (disch:=omega) only [go_sem,↓reduceIte,rq,Int.reduceLT]
  exact ⟨t2,rfl,rfl,rfl,rfl⟩
 ·obtain ⟨t2,rfl,f1,f11,rfl⟩:=hE
  refine Qa3 [(1,.ptr 0 t0 0),(11,.int .i64 ((n+2:Nat):Int))] ⟨f1,f11,trivial⟩ 12 ?_
  simp -implicitDefEqProofs (disch:=omega) only [go_sem,↓reduceIte,rq,w1]
  exact ⟨_,_,Shift.refl _ _ _ _,t2,rfl,rfl,rfl⟩
end
section
attribute [local go_sem] nF nT cA lM List.map_cons List.map_nil nA aZ lR Nat.mul_one Nat.one_mul Nat.succ_ne_zero zA zL Nat.zero_mul Option.getD_none Option.getD_some Option.isSome_none Option.isSome_some V.cells and_true beq_self_eq_true bne_self_eq_false decide_false decide_true false_implies ge_iff_le gt_iff_lt inC Qw not_false_eq_true not_true_eq_false QE Qtr Qtq Qmw QnS Qmv Qmu QkN QkM QkL QkK QkJ QkI Qtp Qmt QnR Qms Qmr Qmq Qmp Qmo QnQ Qmn Qmm QrG QkH QkG QkF QkE QkD Qml QnP QnO QrF Qpn Qpm Qpl Qpk Qpj true_and true_implies
def QHB:Im:=⟨0,[([97],0)],[0]⟩
theorem bad_ok:QHC QHB:=⟨fun s hs=>by simp [QHB] at hs; subst hs; simp,fun w hw=>by simp [QHB] at hw; omega⟩
theorem Ql9 (hT:Qk Tryz.prog tab):Am.Pure Tryz.prog G0 Zx [] fun v=>v=.bool true:=by
 intro t
 have hA:=Qhq (P:=Tryz.prog) (G:=G0) hT 5 5 1
 have hWk:=QlH hT
 have hE:=Pure.args (.cons _ _ _ _ (.agg [.int .i64 0,.lst 0 [] true,.lst 0 [] true] _ (.cons _ _ _ _ (.refl _) (.cons _ _ _ _ (.lst 0 2 [] [] true .nil (.inl rfl)) (.cons _ _ _ _ (.lst 0 1 [] [] true .nil (.inl rfl)) .nil)))) .nil) (QhQ hT ⟨0,[],[]⟩ (by simp) (by simp))
 have wb:Wk (.agg [.int .i64 0,.lst 2 [.agg [.str [97],.int .i64 0]] true,.lst 1 [.int .u32 0] true]) (QaY QHB):=.agg _ _ (.cons _ _ _ _ (.refl _) (.cons _ _ _ _ (.lst 2 2 _ _ true (WkL.refl _) (.inr rfl)) (.cons _ _ _ _ (.lst 1 1 _ _ true (WkL.refl _) (.inr rfl)) .nil)))
 have hB1:=Pure.args (.cons _ _ _ _ wb .nil) (QhQ hT QHB bad_ok.nm bad_ok.wb)
 have hB2:=Pure.args (.cons _ _ _ _ wb (.cons _ _ _ _ (.lst 0 1 [] [] true .nil (.inl rfl)) .nil)) (Qiz hT QHB [] bad_ok.nm bad_ok.wb (by simp))
 have nE:Qb [.agg [.int .i64 0,.lst 0 [] true,.lst 0 [] true]]=true:=by simp [Qb,Qd]
 have nB1:Qb [.agg [.int .i64 0,.lst 2 [.agg [.str [97],.int .i64 0]] true,.lst 1 [.int .u32 0] true]]=true:=by simp [Qb,Qd]
 have nB2:Qb [.agg [.int .i64 0,.lst 2 [.agg [.str [97],.int .i64 0]] true,.lst 1 [.int .u32 0] true],.lst 0 [] true]=true:=by simp [Qb,Qd]
 simp only [inC] at hA
 refine Qp 0 (zL _) (Qt hT Qb9 (by simp [QE]) (Qn 20 ?_))
 simp -implicitDefEqProofs (disch:=omega) only [go_sem,↓reduceIte]
 refine Qf hT Qi hA rfl 20 ?_
 simp -implicitDefEqProofs (disch:=omega) only [go_sem,↓reduceIte,reduceCtorEq,rA,rq]
 refine Qkm 67 (k0J t) (k0E t) ⟨t+1,?_⟩ (fun n hn fr σ hJ=>QxV hT hn hJ) (fun n hn fr σ hJ=>?_) (fun e fr σ hE'=>?_)
 ·simp -implicitDefEqProofs (disch:=omega) only [go_sem,↓reduceIte,reduceCtorEq,rq]
  all_goals first | rfl | exact ⟨rfl,rfl⟩ | exact ⟨rfl,rfl,rfl⟩
 ·obtain ⟨t2,f1,f2,rfl⟩:=hJ
  subst hn
  have h67:((67:Nat):Int)=67:=rfl
  rw [h67] at f2
  refine Qh [(1,.ptr 0 t 0),(2,.int .u8 67)] ⟨f1,f2,trivial⟩ 12 ?_
  simp -implicitDefEqProofs (disch:=omega) only [go_sem,↓reduceIte,rq,Int.reduceLT]
  exact ⟨t2,rfl,rfl,rfl⟩
 ·obtain ⟨t2,rfl,f1,rfl⟩:=hE'
  refine YE [(1,.ptr 0 t 0)] ⟨f1,trivial⟩ 20 ?_
  simp -implicitDefEqProofs (disch:=omega) only [go_sem,↓reduceIte,rq]
  refine Qkm 23 (k2J t) (k2E t) ⟨t2,?_⟩ (fun n hn fr σ hJ=>QxT hT hn hJ) (fun n hn fr σ hJ=>?_) (fun e fr σ hE'=>?_)
  ·simp -implicitDefEqProofs (disch:=omega) only [go_sem,↓reduceIte,rq]
   all_goals first | rfl | exact ⟨rfl,rfl⟩ | exact ⟨rfl,rfl,rfl⟩
  ·obtain ⟨t3,f1,f5,rfl⟩:=hJ
   subst hn
   have h26:(2 * ((23:Nat):Int) - 20)=26:=rfl
   rw [h26] at f5
   refine Qh [(1,.ptr 0 t 0),(5,.int .i64 26)] ⟨f1,f5,trivial⟩ 12 ?_
   simp -implicitDefEqProofs (disch:=omega) only [go_sem,↓reduceIte,rq,Int.reduceLE]
   exact ⟨t3,rfl,rfl,rfl⟩
  ·obtain ⟨t3,rfl,f1,rfl⟩:=hE'
   refine YE [(1,.ptr 0 t 0)] ⟨f1,trivial⟩ 20 ?_
   simp -implicitDefEqProofs (disch:=omega) only [go_sem,↓reduceIte,rA,rq,rL]
   refine Xn fr4 (k4J t) (k4E t) ⟨t3,?_⟩ (fun k n hx fr σ hJ=>QxR hT hx hJ) (fun k hk fr σ hJ=>?_) (fun e fr σ hE'=>?_)
   ·simp -implicitDefEqProofs (disch:=omega) only [go_sem,↓reduceIte,rq]
    all_goals first | rfl | exact ⟨rfl,rfl⟩ | exact ⟨rfl,rfl,rfl⟩ | exact ⟨rfl,rfl,rfl,rfl⟩
   ·obtain ⟨t4,f1,f111,f112,f113,rfl⟩:=hJ
    refine Qh [(1,.ptr 0 t 0),(112,.int .i64 fr4.length),(113,.int .i64 ((k:Nat):Int))] ⟨f1,f112,f113,trivial⟩ 12 ?_
    simp -implicitDefEqProofs (disch:=omega) only [go_sem,↓reduceIte,rq,hk,Nat.lt_irrefl]
    exact ⟨t4,rfl,rfl,rfl⟩
   ·obtain ⟨t4,rfl,f1,rfl⟩:=hE'
    refine YE [(1,.ptr 0 t 0)] ⟨f1,trivial⟩ 20 ?_
    simp -implicitDefEqProofs (disch:=omega) only [go_sem,↓reduceIte,rq]
    refine Qkm 4 (k5J t) k5E ⟨t4,?_⟩ (fun n hn fr σ hJ=>QxQ hT hn hJ) (fun n hn fr σ hJ=>?_) (fun e fr σ hE'=>?_)
    ·simp -implicitDefEqProofs (disch:=omega) only [go_sem,↓reduceIte,rq]
     all_goals first | rfl | exact ⟨rfl,rfl⟩ | exact ⟨rfl,rfl,rfl⟩
    ·obtain ⟨t5,f1,f11,rfl⟩:=hJ
     subst hn
     have h6:((4+2:Nat):Int)=6:=rfl
     rw [h6] at f11
     refine Qh [(1,.ptr 0 t 0),(11,.int .i64 6)] ⟨f1,f11,trivial⟩ 12 ?_
     simp -implicitDefEqProofs (disch:=omega) only [go_sem,↓reduceIte,rq,Int.reduceLT]
     exact ⟨t5,t,rfl,rfl,rfl⟩
    ·obtain ⟨t5,t0,rfl,f1,rfl⟩:=hE'
     refine YE [(1,.ptr 0 t0 0)] ⟨f1,trivial⟩ 20 ?_
     simp -implicitDefEqProofs (disch:=omega) only [go_sem,↓reduceIte,rA,rq,rL]
     iterate 3 (try (refine Qa 8 ?_; simp -implicitDefEqProofs (disch:=omega) only [go_sem,↓reduceIte,reduceCtorEq,rA,rq,rL,rT,Nat.reduceSub,Nat.reduceMul,Int.reduceToNat,Int.reduceLE,Int.reduceLT,Int.reduceEq,Int.reduceNe,Nat.reduceBEq,Nat.reduceBNe,Int.reduceBEq,Int.reduceBNe]))
     refine Qf hT Qy hE nE 20 ?_
     simp -implicitDefEqProofs (disch:=omega) only [go_sem,↓reduceIte,reduceCtorEq,rA,rq]
     iterate 2 (try (refine Qa 8 ?_; simp -implicitDefEqProofs (disch:=omega) only [go_sem,↓reduceIte,reduceCtorEq,rA,rq,rL,rT,Nat.reduceSub,Nat.reduceMul,Int.reduceToNat,Int.reduceLE,Int.reduceLT,Int.reduceEq,Int.reduceNe,Nat.reduceBEq,Nat.reduceBNe,Int.reduceBEq,Int.reduceBNe]))
     refine Qf hT Qy hB1 nB1 20 ?_
     simp -implicitDefEqProofs (disch:=omega) only [go_sem,↓reduceIte,reduceCtorEq,rA,rq]
     iterate 2 (try (refine Qa 8 ?_; simp -implicitDefEqProofs (disch:=omega) only [go_sem,↓reduceIte,reduceCtorEq,rA,rq,rL,rT,Nat.reduceSub,Nat.reduceMul,Int.reduceToNat,Int.reduceLE,Int.reduceLT,Int.reduceEq,Int.reduceNe,Nat.reduceBEq,Nat.reduceBNe,Int.reduceBEq,Int.reduceBNe]))
     refine Qf hT Xb hB2 nB2 20 ?_
     simp -implicitDefEqProofs (disch:=omega) only [go_sem,↓reduceIte,rA,rq]
     iterate 2 (try (refine Qa 8 ?_; simp -implicitDefEqProofs (disch:=omega) only [go_sem,↓reduceIte,reduceCtorEq,rA,rq,rL,rT,Nat.reduceSub,Nat.reduceMul,Int.reduceToNat,Int.reduceLE,Int.reduceLT,Int.reduceEq,Int.reduceNe,Nat.reduceBEq,Nat.reduceBNe,Int.reduceBEq,Int.reduceBNe]))
     refine Qf hT Qm hWk rfl 20 ?_
     simp -implicitDefEqProofs (disch:=omega) only [go_sem,↓reduceIte,reduceCtorEq,rA,rq]
end
end Go.Proofs.YtaidbdgndljaeaaGreatDoor
