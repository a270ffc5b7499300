/- What is wrong with an instruction. -/
import Derived.Test.YtaidbdgndljaeaaGreatDoorJ6
import Derived.Test.YtaidbdgndljaeaaGreatDoorJ5
import Derived.Test.YtaidbdgndljaeaaGreatDoorJ4
import Derived.Test.YtaidbdgndljaeaaGreatDoorAmD
open Nat renaming reduceEqDiff → rq, reduceAdd → rA, reduceLeDiff → rL, reduceLT → rT, zero_add → zA, le_refl → lR, zero_le → zL, add_zero → aZ
open List renaming length_cons → lC, length_nil → lN, take_succ_cons → tS, length_append → lA, nil_append → nA, cons_append → cA, append_assoc → aA, take_nil → tN, take_zero → tZ, length_map → lM
open Bool renaming not_false → nF, not_true → nT
namespace Go.Proofs.YtaidbdgndljaeaaGreatDoor
open Go Go.Am Go.Rv Go.Rg
set_option maxRecDepth 100000
section
attribute [local go_sem] nF nT cA lM nA aZ lR Nat.mul_one Nat.one_mul Nat.succ_ne_zero zA zL Nat.zero_mul Option.getD_none Option.getD_some Option.isSome_none Option.isSome_some V.cells and_true beq_self_eq_true bne_self_eq_false QF decide_false decide_true false_implies ge_iff_le gt_iff_lt inC Q9 Qw not_false_eq_true not_true_eq_false rdC Yu QC5 QC4 QC3 Qug Quf Que Qud Quc QC2 QU true_and true_implies
def rd6 (m:Im) (nm:List UInt8) (pl:Int) (c:List In) (F:Int) (vr:Nat) (X1 X2 X4:Option Ob):List (Option Ob):=[none,X1,X2,some (.arr vr 107 (rdC m nm pl c F)),X4,none]
def mB (n vr:Nat):V:=.fn (.func n) [.ptr 3 vr 0] []
def asks (vr:Nat):List V:=[mB QaL vr,.int .i64 220,mB ZD vr,.int .i64 221,mB Zl vr,.int .i64 222,mB Z4 vr,.int .i64 223]
structure Ask (m:Im) (pl:Int) (c:List In) (i:Nat) (x:In):Prop where
 hx:c[i]?=some x
 hl:c.length≤1000000
 hs:m.syms.length≤1000
 hxo:Zq x
 hb:-1099511627776≤x.imm∧x.imm≤1099511627776
 hpl:0≤pl∧pl≤1099511627776
def Qso (m:Im) (pl:Int) (c:List In) (F:Int) (i:Nat) (x:In) (k:Nat):Bool:=if k=0 then Qna x else if k=1 then QaH c F i x else if k=2 then XN (ats m) pl c F i x else QiC c F i x
def QGE (k:Nat):Int:=if k=0 then 220 else if k=1 then 221 else if k=2 then 222 else 223
variable {x:In} {X2 X4:Option Ob} {i k:Nat} {c:List In} {pl F:Int} {nm:List UInt8} {m:Im}
theorem ask_k (hT:Qk Tryz.prog tab) {vr:Nat} {X1:Option Ob} (h:Ask m pl c i x) (hk:k<4) (t:Nat) (X6 X7:Option Ob) :
 CV Tryz.prog G0 0 ((asks vr).getD (2 * k) .any) [.int .i64 (i:Int)] ⟨t,rd6 m nm pl c F vr X1 X2 X4++[X6,X7]⟩ fun v σ=>v=.bool (Qso m pl c F i x k)∧∃ t',t≤t'∧σ=⟨t',rd6 m nm pl c F vr X1 X2 X4++[X6,X7]⟩:=by
 match k,hk with
 | 0,_=>exact QlP (first:=[.ptr 3 vr 0]) (cap:=[]) hT QcV (c_op hT h.hx h.hl)
 | 1,_=>exact QlP (first:=[.ptr 3 vr 0]) (cap:=[]) hT Qbk (QGU hT h.hx h.hl h.hxo)
 | 2,_=>exact QlP (first:=[.ptr 3 vr 0]) (cap:=[]) hT Qa0 (Qyr hT h.hx h.hl h.hs h.hb h.hpl)
 | 3,_=>exact QlP (first:=[.ptr 3 vr 0]) (cap:=[]) hT QbM (c_back hT h.hx h.hl)
theorem QGv (hk:k<4) (h0:∀ j,j<k→Qso m pl c F i x j=true) (h1:Qso m pl c F i x k=false):Yi (ats m) pl c F i x=QGE k:=by
 unfold Yi
 match k,hk with
 | 0,_=>have h1:Qna x=false:=h1; rw [if_pos h1]; rfl
 | 1,_ =>
   have e0:Qna x=true:=h0 0 (by omega)
   have h1:QaH c F i x=false:=h1
   rw [e0,if_neg (by simp),if_pos h1]; rfl
 | 2,_ =>
   have e0:Qna x=true:=h0 0 (by omega)
   have e1:QaH c F i x=true:=h0 1 (by omega)
   have h1:XN (ats m) pl c F i x=false:=h1
   rw [e0,e1,if_neg (by simp),if_neg (by simp),if_pos h1]; rfl
 | 3,_ =>
   have e0:Qna x=true:=h0 0 (by omega)
   have e1:QaH c F i x=true:=h0 1 (by omega)
   have e2:XN (ats m) pl c F i x=true:=h0 2 (by omega)
   have h1:QiC c F i x=false:=h1
   rw [e0,e1,e2,if_neg (by simp),if_neg (by simp),if_neg (by simp),if_pos h1]; rfl
theorem Qyc (h0:∀ j,j<4→Qso m pl c F i x j=true):Yi (ats m) pl c F i x=0:=by
 unfold Yi
 have e0:Qna x=true:=h0 0 (by omega)
 have e1:QaH c F i x=true:=h0 1 (by omega)
 have e2:XN (ats m) pl c F i x=true:=h0 2 (by omega)
 have e3:QiC c F i x=true:=h0 3 (by omega)
 simp [e0,e1,e2,e3]
abbrev fkJ (m:Im) (nm:List UInt8) (pl:Int) (c:List In) (F:Int) (vr:Nat) (X1 X2 X4:Option Ob) (i ta t0:Nat) (x:In):Nat→Fr→H→Prop:=fun k fr σ=>∃ t,t0≤t∧(∀ j,j<k→Qso m pl c F i x j=true)∧Qg fr 0=.ptr 3 vr 0∧Qg fr 1=.int .i64 (i:Int)∧Qg fr 21=.sl 6 ta 0 2 4 none∧Qg fr 22=.int .i64 4∧Qg fr 23=.int .i64 ((k:Nat):Int)∧σ=⟨t,rd6 m nm pl c F vr X1 X2 X4++[some (.arr ta 138 (asks vr))]⟩
abbrev fkE (m:Im) (nm:List UInt8) (pl:Int) (c:List In) (F:Int) (vr:Nat) (X1 X2 X4:Option Ob) (i t0:Nat) (x:In):AE→Fr→H→Prop:=fun e fr σ=>(∃ t ex,t0≤t∧σ=⟨t,rd6 m nm pl c F vr X1 X2 X4++ex⟩)∧((e=.ret∧Qg fr 4=.int .i64 (Yi (ats m) pl c F i x))∨(e=.ex 0∧Yi (ats m) pl c F i x=0))
theorem Qx9 (hT:Qk Tryz.prog tab) {vr:Nat} {X1:Option Ob} (h:Ask m pl c i x) {ta t0:Nat} (hk:k<4) {fr:Fr} {σ:H} (hJ:fkJ m nm pl c F vr X1 X2 X4 i ta t0 x k fr σ) :
 W Tryz.prog G0 35 0 (zg Qug [] (.seq (zw 24 .skip (.exit 0)) (.seq (.block 1 (zg Quf [25,26] (zg Que [27,28,29,30] (zw 31 (zg Qud [32,33] .ret) .skip)))) (.reg Quc [34])))) fr σ (QbQ (fun fr σ=>∃ fr' σ',Shift G0 35 0 fr σ fr' σ'∧fkJ m nm pl c F vr X1 X2 X4 i ta t0 x (k+1) fr' σ') (fkE m nm pl c F vr X1 X2 X4 i t0 x)):=by
 obtain ⟨t,ht,hno,f0,f1,f21,f22,f23,rfl⟩:=hJ
 have hq:=ask_k hT h hk (nm:=nm) (F:=F) (vr:=vr) (X1:=X1) (X2:=X2) (X4:=X4)
 have hlt:((k:Int)<4)=True:=eq_true (by omega)
 have e2:IntKind.i64.wrap ((k:Int)+1)=((k+1:Nat):Int):=by rw [XA (by omega)]; rfl
 have hload:List.take 2 (List.drop (k * 2) (asks vr))=[(asks vr).getD (2 * k) .any,.int .i64 (QGE k)]:=by
  match k,hk with
  | 0,_=>rfl
  | 1,_=>rfl
  | 2,_=>rfl
  | 3,_=>rfl
 have hsol:Qc0 ((asks vr).getD (2 * k) .any)=true:=by
  match k,hk with
  | 0,_=>rfl
  | 1,_=>rfl
  | 2,_=>rfl
  | 3,_=>rfl
 have hone:QwI ((asks vr).getD (2 * k) .any)=true:=by
  match k,hk with
  | 0,_=>rfl
  | 1,_=>rfl
  | 2,_=>rfl
  | 3,_=>rfl
 have hal:(asks vr).length=8:=rfl
 have hk2:(k * 2+2≤8)=True:=eq_true (by omega)
 generalize (asks vr).getD (2 * k) .any=fv at *
 refine Qh [(0,.ptr 3 vr 0),(1,.int .i64 (i:Int)),(21,.sl 6 ta 0 2 4 none),(22,.int .i64 4),(23,.int .i64 ((k:Nat):Int))] ⟨f0,f1,f21,f22,f23,trivial⟩  12 ?_
 simp -implicitDefEqProofs (disch:=omega) only [go_sem,↓reduceIte,reduceCtorEq,rq,rd6,hlt]
 have hso1:ones [fv,V.int .i64 (QGE k)]:=by
  intro u hu
  simp only [List.mem_cons,List.not_mem_nil,or_false] at hu
  rcases hu with rfl | rfl
  ·exact hone
  ·rfl
 refine Qa 12 ?_
 simp -implicitDefEqProofs (disch:=omega) only [go_sem,↓reduceIte,reduceCtorEq,rA,rq,rL,hload,hal,hk2,hso1,vo2]
 have hsb:∀ Y,YR (rd6 m nm pl c F vr X1 X2 X4++[some (.arr ta 138 (asks vr))]) (rd6 m nm pl c F vr X1 X2 X4++[some (.arr ta 138 (asks vr)),Y]):=fun Y=>Y0 7 (rd6 m nm pl c F vr X1 X2 X4++[some (.arr ta 138 (asks vr)),Y])
 simp only [rd6,rdC,Q9,QU,QF,inC,cA,nA] at hq
 refine CV.use 12 (hq _ _ _) fun v σ hv=>?_
 obtain ⟨rfl,t2,ht2,rfl⟩:=hv
 cases hb:Qso m pl c F i x k with
 | false =>
   simp -implicitDefEqProofs (disch:=omega) only [go_sem,↓reduceIte,reduceCtorEq,rA,rq]
   iterate 4 (try (refine Qa 4 ?_; simp -implicitDefEqProofs (disch:=omega) only [go_sem]))
   refine ⟨⟨t2,_,by omega,rfl⟩,?_⟩
   rw [QGv hk hno hb]
   exact .inl ⟨rfl,rfl⟩
 | true =>
   simp -implicitDefEqProofs (disch:=omega) only [go_sem,↓reduceIte,reduceCtorEq,rq]
   iterate 4 (try (refine Qa 4 ?_; simp -implicitDefEqProofs (disch:=omega) only [go_sem,↓reduceIte,reduceCtorEq,rA,rq,rL,rT,Nat.reduceSub,Nat.reduceMul,Int.reduceToNat,Int.reduceLE,Int.reduceLT,Int.reduceEq,Int.reduceNe,Nat.reduceBEq,Nat.reduceBNe,Int.reduceBEq,Int.reduceBNe,rd6]))
   refine ⟨_,_,Shift.drop (o':=rd6 m nm pl c F vr X1 X2 X4++[some (.arr ta 138 (asks vr))]) (t':=t2) (hsb _) (lR _) (zL _),t2,by omega,fun j hj=>?_,?_⟩
   ·rcases Nat.lt_or_ge j k with h | h
    ·exact hno j h
    ·rw [show j=k by omega]; exact hb
   ·simp -implicitDefEqProofs (disch:=omega) only [go_sem,↓reduceIte,reduceCtorEq,rq,rd6,e2]
theorem QGZ (hT:Qk Tryz.prog tab) {vr t:Nat} {X1:Option Ob} (h:Ask m pl c i x) :
 C Tryz.prog G0 0 Qbr [.ptr 3 vr 0,.int .i64 (i:Int)] ⟨t,rd6 m nm pl c F vr X1 X2 X4⟩ fun v σ=>v=.int .i64 (Yi (ats m) pl c F i x)∧∃ t',t≤t'∧σ=⟨t',rd6 m nm pl c F vr X1 X2 X4⟩:=by
 have ho:ones (asks vr):=by
  intro u hu
  simp only [asks,mB,List.mem_cons,List.not_mem_nil,or_false] at hu
  rcases hu with rfl | rfl | rfl | rfl | rfl | rfl | rfl | rfl <;> rfl
 refine Qp 6 (zL _) (Qt hT Qbm (by simp [Yu]) (Qn 60 ?_))
 simp -implicitDefEqProofs (disch:=omega) only [go_sem,↓reduceIte,reduceCtorEq,rA,rq,rL,rd6,H.push]
 refine Xn [(0:Nat),1,2,3] (fkJ m nm pl c F vr X1 X2 X4 i t t x) (fkE m nm pl c F vr X1 X2 X4 i t x) ⟨t+1,by omega,fun j hj=>absurd hj (Nat.not_lt_zero j),?_⟩ (fun k a ha fr σ hJ=>?_) (fun k hk fr σ hJ=>?_) (fun e fr σ hE=>?_)
 ·simp -implicitDefEqProofs (disch:=omega) only [go_sem,↓reduceIte,reduceCtorEq,rq,rd6]
  exact ⟨rfl,rfl,rfl⟩
 ·have hk:=(List.getElem?_eq_some_iff.1 ha).1
  exact Qx9 hT h hk hJ
 ·obtain ⟨t2,ht2,hno,f0,f1,f21,f22,f23,rfl⟩:=hJ
  obtain rfl:k=4:=hk
  have h44:(((4:Nat):Int)<4)=False:=eq_false (by decide)
  refine Qh [(0,.ptr 3 vr 0),(1,.int .i64 (i:Int)),(21,.sl 6 t 0 2 4 none),(22,.int .i64 4),(23,.int .i64 ((4:Nat):Int))] ⟨f0,f1,f21,f22,f23,trivial⟩  12 ?_
  simp -implicitDefEqProofs (disch:=omega) only [go_sem,↓reduceIte,reduceCtorEq,rq,rd6,h44]
  exact ⟨⟨t2,_,ht2,rfl⟩,.inr ⟨rfl,Qyc hno⟩⟩
 ·obtain ⟨⟨t2,ex,ht2,rfl⟩,hE⟩:=hE
  rcases hE with ⟨rfl,f4⟩ | ⟨rfl,h0⟩
  ·refine Qa 12 ?_
   simp -implicitDefEqProofs (disch:=omega) only [go_sem,rL,rd6,f4]
   exact ⟨t2,ht2,rfl⟩
  ·refine Qa 12 ?_
   simp -implicitDefEqProofs (disch:=omega) only [go_sem,↓reduceIte,rL,rd6,h0]
   exact ⟨t2,ht2,rfl⟩
end
end Go.Proofs.YtaidbdgndljaeaaGreatDoor
namespace Go.Rg
open Go Go.Am Go.Rv
set_option maxRecDepth 100000
variable {w:Int}
theorem QEA (h:0≤w) (a m:Nat):0≤fld w a m∧fld w a m<2 ^ m:=by
 unfold fld
 have hp:(0:Int)<2 ^ m:=Int.pow_pos (by decide)
 exact ⟨Int.emod_nonneg _ (by omega),Int.emod_lt_of_pos _ hp⟩
theorem Qof {n:Int} {b:Nat} {B:Int} (h0:0≤n) (h1:n<B) (hb:(2:Int) ^ b≤B):-B≤sgn n b∧sgn n b≤B:=by
 have hp:(0:Int)<2 ^ b:=Int.pow_pos (by decide)
 unfold sgn
 split <;> omega
theorem Qvx (h0:0≤w) (f:Int):-8589934592≤number w f∧number w f≤8589934592:=by
 unfold number
 have q:=fun a m=>QEA h0 a m
 split
 ·have:=q 20 12
  have:=Qof (B:=8589934592) this.1 (by have:=this.2; omega) (b:=12) (by decide)
  omega
 split
 ·have:=q 20 6; omega
 split
 ·have:=q 20 5; omega
 split
 ·have h1:=q 25 7; have h2:=q 7 5
  have:=Qof (n:=fld w 25 7 * 32+fld w 7 5) (B:=8589934592) (by omega) (by omega) (b:=12) (by decide)
  omega
 split
 ·have h1:=q 31 1; have h2:=q 7 1; have h3:=q 25 6; have h4:=q 8 4
  have:=Qof (n:=fld w 31 1 * 4096+fld w 7 1 * 2048+fld w 25 6 * 32+fld w 8 4 * 2) (B:=8589934592) (by omega) (by omega) (b:=13) (by decide)
  omega
 split
 ·have h1:=q 12 20
  have:=Qof (n:=fld w 12 20 * 4096) (B:=8589934592) (by omega) (by omega) (b:=32) (by decide)
  omega
 split
 ·have h1:=q 31 1; have h2:=q 12 8; have h3:=q 20 1; have h4:=q 21 10
  have:=Qof (n:=fld w 31 1 * 1048576+fld w 12 8 * 4096+fld w 20 1 * 2048+fld w 21 10 * 2) (B:=8589934592) (by omega) (by omega) (b:=21) (by decide)
  omega
 ·omega
theorem QlA (h0:0≤w) {x:In} (h:dec w=some x):((0≤x.op∧x.op≤255)∧(0≤x.rd∧x.rd≤255)∧(0≤x.rs1∧x.rs1≤255)∧(0≤x.rs2∧x.rs2≤255))∧(-8589934592≤x.imm∧x.imm≤8589934592):=by
 obtain ⟨k,r,hk,_,rfl⟩:=QiZ h
 have hkl:=(List.getElem?_eq_some_iff.1 hk).1
 rw [QbF] at hkl
 have q:=fun a=>QEA h0 a 5
 refine ⟨⟨?_,?_,?_,?_⟩,Qvx h0 _⟩
 ·simp only [mk]; omega
 ·simp only [mk]; split
  ·have:=q 7; omega
  ·omega
 ·simp only [mk]; split
  ·have:=q 15; omega
  ·omega
 ·simp only [mk]; split
  ·have:=q 20; omega
  ·omega
end Go.Rg
namespace Go.Proofs.YtaidbdgndljaeaaGreatDoor
open Go Go.Am Go.Rv Go.Rg
set_option maxRecDepth 100000
variable {P:Program} {G:Nat→Option V}
section
attribute [local go_sem] nT lM nA lR zA zL V.cells and_true QF decide_false decide_true false_implies ge_iff_le Qb1 QDr QDq QDp QDo QDn QDm QDl X5 QaY Qw QU true_implies
theorem Qbv (m:Im):Qb [QaY m]=true:=by simp [QaY,X5,QU,QF,Qb,Qd]
variable {s:List UInt8 × Int} {n:Nat}
theorem QhY {m:Im} (h:m.syms[n]?=some s):(m.syms.map Qju).getD n V.any=Qju s:=by simp [List.getD_eq_getElem?_getD,h]
theorem QrA (hT:Qk P tab) (m:Im) (hm:ImB m) (hr:right m=true) (hs:m.syms[n]?=some s):Am.Pure P G Qhn [QaY m,.int .i64 (n:Int)] fun v=>v=.tup [.int .i64 (from_ m n),.int .i64 (to_ m n)]:=by
 intro t
 have hR:=Qje (P:=P) (G:=G) hT m hm
 rw [hr] at hR
 have hnl:=Qbv m
 have hlt:=(List.getElem?_eq_some_iff.1 hs).1
 have hsl:=hm.s
 have hcl:=hm.c
 have hD:=QhY hs
 have w1:IntKind.i64.wrap ((n:Int)+1)=((n+1:Nat):Int):=by rw [XA (by omega)]; rfl
 have w4:IntKind.i64.wrap (4 * (m.code.length:Int))=4 * (m.code.length:Int):=XA (by omega)
 have h0:¬ ((n:Int)<0):=by omega
 have h0':decide ((n:Int)<0)=false:=decide_eq_false h0
 have h1:¬ (m.syms.length≤n):=by omega
 have h1':decide ((m.syms.length:Int)≤(n:Int))=false:=decide_eq_false (by omega)
 have hf:from_ m n=s.2:=by unfold from_ ats; simp [List.getD_eq_getElem?_getD,hs]
 simp only [QaY,X5,QU,QF] at hR hnl
 simp only [Qju] at hD
 refine Qp 0 (zL _) (Qt hT QdU (by simp [Qb1]) (Qn 12 ?_))
 simp -implicitDefEqProofs (disch:=omega) only [go_sem,↓reduceIte,reduceCtorEq,rA,rq]
 refine Qf hT QcG hR hnl 4 ?_
 simp -implicitDefEqProofs (disch:=omega) only [go_sem,↓reduceIte,reduceCtorEq,rA,rq]
 iterate 4 (try (refine Qa 4 ?_; simp -implicitDefEqProofs (disch:=omega) only [go_sem,↓reduceIte,reduceCtorEq,rA,rq,rL,h0,h1]))
 cases hs2:m.syms[n+1]? with
 | some s2 =>
   have hlt2:=(List.getElem?_eq_some_iff.1 hs2).1
   have hD2:=QhY hs2
   simp only [Qju] at hD2
   have h2':decide (((n+1:Nat):Int)<(m.syms.length:Int))=true:=decide_eq_true (by omega)
   have ht:to_ m n=s2.2:=by unfold to_ ats; rw [if_pos hlt2]; simp [List.getD_eq_getElem?_getD,hs2]
   rw [hf,ht]
   iterate 12 (try (refine Qa 4 ?_; simp -implicitDefEqProofs (disch:=omega) only [go_sem,↓reduceIte,reduceCtorEq,rA,rq,rL,w1,w4,hlt2,hlt,hD,hD2]))
 | none =>
   have hlt2:¬ (n+1<m.syms.length):=by have:=List.getElem?_eq_none_iff.1 hs2; omega
   have h2':decide (((n+1:Nat):Int)<(m.syms.length:Int))=false:=decide_eq_false (by omega)
   have ht:to_ m n=4 * (m.code.length:Int):=by unfold to_; rw [if_neg hlt2]
   rw [hf,ht]
   iterate 12 (try (refine Qa 4 ?_; simp -implicitDefEqProofs (disch:=omega) only [go_sem,↓reduceIte,reduceCtorEq,rA,rq,rL,w1,w4,hlt2,hlt,hD]))
end
end Go.Proofs.YtaidbdgndljaeaaGreatDoor
namespace Go.Proofs.YtaidbdgndljaeaaGreatDoor
open Go Go.Am Go.Rv
set_option maxRecDepth 100000
variable {P:Program} {G:Nat→Option V}
section
attribute [local go_sem] aZ lR Nat.succ_ne_zero zA Nat.zero_mul decide_false decide_true Qw QbT QBO QBN Q4 QBW QBV QBU QBT QBS QBR QBQ QBP
def hD (tb:List V) (b v1 v2:Nat) (w:Int):List (Option Ob):=[some (.arr b 43 [.int .u32 w]),some (.arr v1 47 [.int .u8 0,.int .u8 0,.int .u8 0,.int .u8 0,.int .i64 0]),some (.arr v2 117 tb)]
variable {base b v1 v2 t:Nat} {tb:List V}
theorem c_S1 (hT:Qk P tab) (w:Int) (a0 a1 a2 a5 q:Bool) (y:Nat) (L:List V) (a4:Int) (a7:List UInt8) (m k:Int) (hb:base≤3) :
 C P G base Qhm [.agg [.bool a0,.bool a1,.bool a2,.lst y L q,.int .i64 a4,.bool a5,.int .u32 m,.str a7,.int .u32 k],.ptr 0 b 0] ⟨t,hD tb b v1 v2 w⟩ fun v σ=>v=.bool (decide (m≠0)&&(andI .u32 w m==k))∧∃ t',t≤t'∧σ=⟨t',hD tb b v1 v2 w⟩:=by
 refine Qp 3 hb (Qt hT QdS (by simp [QbT]) (Qn 12 ?_))
 cases hm:(m != 0) with
 | true =>
   simp -implicitDefEqProofs (disch:=omega) only [go_sem,↓reduceIte,reduceCtorEq,rA,rq,rL,hD,hm]
   refine Qa 2 ?_
   simp -implicitDefEqProofs (disch:=omega) only [go_sem,↓reduceIte,reduceCtorEq,rA,rq]
   refine Qa 2 ?_
   simp -implicitDefEqProofs (disch:=omega) only [go_sem,↓reduceIte,reduceCtorEq,rA,rq,rL]
   refine Qa 2 ?_
   simp -implicitDefEqProofs (disch:=omega) only [go_sem,↓reduceIte,reduceCtorEq,rA,rq]
   refine Qa 2 ?_
   simp -implicitDefEqProofs (disch:=omega) only [go_sem,↓reduceIte,reduceCtorEq,rA,rq]
   refine Qa 2 ?_
   simp -implicitDefEqProofs (disch:=omega) only [go_sem,↓reduceIte,reduceCtorEq,rq]
   refine Qa 1000 ?_
   simp -implicitDefEqProofs (disch:=omega) only [go_sem,↓reduceIte,reduceCtorEq,rA,rq,rL]
   refine ⟨?_,_,?_,rfl⟩
   ·have:m≠0:=by simpa using hm
    simp only [this,not_false_eq_true,decide_true,Bool.true_and]
   ·omega
 | false =>
   simp -implicitDefEqProofs (disch:=omega) only [go_sem,↓reduceIte,reduceCtorEq,rA,rq,rL,hD,hm]
   refine Qa 2 ?_
   simp -implicitDefEqProofs (disch:=omega) only [go_sem,↓reduceIte,reduceCtorEq,rq]
   refine Qa 2 ?_
   simp -implicitDefEqProofs (disch:=omega) only [go_sem,↓reduceIte,reduceCtorEq,rq]
   refine Qa 2 ?_
   simp -implicitDefEqProofs (disch:=omega) only [go_sem,↓reduceIte,reduceCtorEq,rq]
   refine Qa 2 ?_
   simp -implicitDefEqProofs (disch:=omega) only [go_sem,↓reduceIte,reduceCtorEq,rq]
   refine Qa 2 ?_
   simp -implicitDefEqProofs (disch:=omega) only [go_sem,↓reduceIte,reduceCtorEq,rq]
   refine Qa 1000 ?_
   simp -implicitDefEqProofs (disch:=omega) only [go_sem,↓reduceIte,reduceCtorEq,rA,rq,rL]
   refine ⟨?_,_,?_,rfl⟩
   ·have:m=0:=by simpa using hm
    simp only [this,not_true_eq_false,decide_false,Bool.false_and]
   ·omega
structure TbOk (tb:List V):Prop where
 len:tb.length=594
 get:∀ k,k<66→(tb.drop (k * 9)).take 9=if k=0 then zeroC else QlV (T.getD (k - 1) ⟨0,[],0,0,0⟩)
 ones:ones tb
theorem tbOk:TbOk tabC:=⟨QmY,fun k hk=>QqY ⟨k,hk⟩,QkZ⟩
def hitP (w j:Int):Prop:=(j=-1∧first w 0 T=none)∨∃ k r,j=((k+1:Nat):Int)∧T[k]?=some r∧is w r=true∧first w 0 T=some (mk k r w)
theorem QFU {w:Int} (h0:0≤w) (h1:w<4294967296) {i:Nat} (h:1≤i) (hi:i<66) {r:RR} (hr:T[i - 1]?=some r):(decide (QcF r.form≠0)&&(andI .u32 w (QcF r.form)==Qv r))=is w r:=by
 have hg:=ZS r (List.mem_of_getElem? hr)
 have hm:QcF r.form≠0:=by
  unfold QcF
  split
  ·decide
  split
  ·decide
  split
  ·decide
  split <;> decide
 have:=QGj hg h0 h1
 rw [decide_eq_true hm,Bool.true_and]
 rw [Bool.eq_iff_iff,beq_iff_eq]
 exact this
theorem Qql (hT:Qk P tab) (htb:TbOk tb) (w:Int) (h0:0≤w) (h1:w<4294967296) (lim:Option Nat) (hb:base≤3) :
 C P G base Y3 [.sl 2 v2 0 9 66 lim,.fn (.func 77) [] [.ptr 0 b 0]] ⟨t,hD tb b v1 v2 w⟩ fun v σ=>∃ j,v=.int .i64 j∧hitP w j∧∃ t',t≤t'∧σ=⟨t',hD tb b v1 v2 w⟩:=by
 have hl:=htb.len
 refine Qt hT Y2 (by simp [Q4]) (Qn 1000 ?_)
 simp -implicitDefEqProofs (disch:=omega) only [go_sem,↓reduceIte,reduceCtorEq,rq,hD]
 refine QcH (fun n fr σ=>∃ i t',i≤66∧n=66 - i∧(∀ j r,j+1<i→T[j]?=some r→is w r=false)∧t≤t'∧Qg fr 0=.sl 2 v2 0 9 66 lim∧Qg fr 1=.fn (.func 77) [] [.ptr 0 b 0]∧Qg fr 7=.int .i64 ((66:Nat):Int)∧Qg fr 8=.int .i64 i∧σ=⟨t',hD tb b v1 v2 w⟩)
  (fun e fr σ=>∃ t',t≤t'∧σ=⟨t',hD tb b v1 v2 w⟩∧((e=.ret∧∃ j,Qg fr 4=.int .i64 j∧hitP w j)∨(e=.ex 0∧first w 0 T=none)))
  (m0:=66) ⟨0,t,by omega,rfl,fun j r h=>by omega,by omega,?_⟩ (fun n fr σ hJ=>?_) (fun e fr σ hE=>?_)
 ·simp -implicitDefEqProofs (disch:=omega) only [go_sem,↓reduceIte,reduceCtorEq,rq,hD]
  rfl
 ·obtain ⟨i,t',hi,rfl,hno,ht,f0,f1,f7,f8,rfl⟩:=hJ
  refine Qn 1000 ?_
  rcases Nat.lt_or_ge i 66 with hlt | hge
  ·have hg:=htb.get i hlt
   have e2:=Qd2 hlt (by omega)
   simp -implicitDefEqProofs (disch:=omega) only [go_sem,↓reduceIte,reduceCtorEq,rq,hD,f0,f1,f7,f8,hlt]
   rw [hg]
   rcases Nat.eq_zero_or_pos i with hz | hp
   ·subst hz
    rw [if_pos rfl,zeroC]
    have hc:=c_S1 (P:=P) (G:=G) hT (tb:=tb) (base:=base) (b:=b) (v1:=v1) (v2:=v2) (t:=t') w false false false false true 0 [] 0 [] 0 0 hb
    simp only [hD] at hc
    refine callK hT QdS hc 1000 fun v σ hv=>?_
    obtain ⟨rfl,t2,ht2,rfl⟩:=hv
    simp -implicitDefEqProofs (disch:=omega) only [go_sem,↓reduceIte,rq,Nat.reduceSub,f8]
    refine ⟨66 - (0+1),_,_,by omega,Shift.refl _ _ _ _,0+1,t2,by omega,rfl,fun j r h=>by omega,by omega,?_⟩
    simp -implicitDefEqProofs (disch:=omega) only [go_sem,↓reduceIte,reduceCtorEq,rq,f0,f1,f7]
    rfl
   ·obtain ⟨r,hr⟩:∃ r,T[i - 1]?=some r:=⟨_,List.getElem?_eq_getElem (by rw [QbF]; omega)⟩
    obtain ⟨y,hy,_⟩:=Qen (bitsOf r.form)
    have hgd:T.getD (i - 1) ⟨0,[],0,0,0⟩=r:=by rw [List.getD_eq_getElem?_getD,hr]; rfl
    rw [if_neg (by omega),hgd]
    simp only [QlV,Qlp,hy,cA,nA]
    have hc:=c_S1 (P:=P) (G:=G) hT (tb:=tb) (base:=base) (b:=b) (v1:=v1) (v2:=v2) (t:=t') w (QW r.form) (Q1 r.form) (Q5 r.form) (Qlm r.form) true y ((bitsOf r.form).map fun b=>pr b.1 b.2) (Qed r.form) r.name (QcF r.form) (Qv r) hb
    rw [QFU h0 h1 hp hlt hr] at hc
    simp only [hD] at hc
    refine callK hT QdS hc 1000 fun v σ hv=>?_
    obtain ⟨rfl,t2,ht2,rfl⟩:=hv
    cases his:is w r with
    | true =>
      simp -implicitDefEqProofs (disch:=omega) only [go_sem,↓reduceIte,reduceCtorEq,rq]
      refine ⟨t2,by omega,rfl,i,rfl,.inr ⟨i - 1,r,by congr 1; omega,hr,his,?_⟩⟩
      have:=Qkw h0 h1 (i:=0) ZS Qqt hr his
      rwa [zA] at this
    | false =>
      simp -implicitDefEqProofs (disch:=omega) only [go_sem,↓reduceIte,rq,f8]
      refine ⟨66 - (i+1),_,_,by omega,Shift.refl _ _ _ _,i+1,t2,by omega,rfl,fun j s hj hs=>?_,by omega,?_⟩
      ·by_cases hji:j=i - 1
       ·subst hji; rw [hr] at hs; cases hs; exact his
       ·exact hno j s (by omega) hs
      ·simp -implicitDefEqProofs (disch:=omega) only [go_sem,↓reduceIte,reduceCtorEq,rq,f0,f1,f7,e2]
  ·have hi:i=66:=by omega
   subst hi
   simp -implicitDefEqProofs (disch:=omega) only [go_sem,↓reduceIte,reduceCtorEq,rq,Nat.reduceSub,f7,f8,Nat.lt_irrefl]
   refine ⟨t',by omega,rfl,Qi0 fun r hr=>?_⟩
   obtain ⟨j,hj⟩:=List.mem_iff_getElem?.1 hr
   have hjl:=(List.getElem?_eq_some_iff.1 hj).1
   rw [QbF] at hjl
   exact hno j r (by omega) hj
 ·obtain ⟨t',ht,rfl,hE⟩:=hE
  rcases hE with ⟨rfl,j,f4,hh⟩ | ⟨rfl,hh⟩
  ·refine Qa 1000 ?_
   simp -implicitDefEqProofs (disch:=omega) only [go_sem,f4]
   exact ⟨j,rfl,hh,t',ht,rfl,rfl⟩
  ·refine Qa 1000 ?_
   simp -implicitDefEqProofs (disch:=omega) only [go_sem,↓reduceIte]
   exact ⟨-1,rfl,.inl ⟨rfl,hh⟩,t',ht,rfl,rfl⟩
end
end Go.Proofs.YtaidbdgndljaeaaGreatDoor
namespace Go.Proofs.YtaidbdgndljaeaaGreatDoor
open Go Go.Am Go.Rv
set_option maxRecDepth 100000
section
attribute [local go_sem] nF aZ lR Nat.one_mul zA zL Nat.zero_mul decide_false decide_true Qw Qgc QDk QDj Quk Quj Qui Quh QDi QDh QDg QDf QDe QDd QDc QDb
theorem c_numF {P:Program} {G:Nat→Option V} (hT:Qk P tab) {f w:Int} (hf:f=82∨f=87∨f=73∨f=72∨f=83∨f=66∨f=85∨f=74∨f=69) (hw:u32 w) :
 Pure P G Qcc [.agg (Qlp f),.int .u32 w] fun v=>v=.int .i64 (number w f):=by
 have h:=Qyu (G:=G) hT (QW f) (Q1 f) (Q5 f) (bitsOf f) (Qed f) (Qlm f) (QcF f) w
  (by rcases hf with h | h | h | h | h | h | h | h | h <;> rw [h] <;> decide) (by rcases hf with h | h | h | h | h | h | h | h | h <;> rw [h] <;> decide)
  (by rcases hf with h | h | h | h | h | h | h | h | h <;> rw [h] <;> decide) (by rcases hf with h | h | h | h | h | h | h | h | h <;> rw [h] <;> decide)
  (by rcases hf with h | h | h | h | h | h | h | h | h <;> rw [h] <;> decide) (by rcases hf with h | h | h | h | h | h | h | h | h <;> rw [h] <;> decide) hw
 have e:=QGc w hf
 unfold numP at e
 simp only at e
 rw [e] at h
 exact h
def errT (o:Option In):List V:=match o with
 | some x=>[.agg (inC x),.int .i64 0]
 | none=>[.agg (inC ⟨0,0,0,0,0⟩),.int .i64 100]
def dH (tb rc:List V) (t t2:Nat) (a b c:Bool) (w op rd r1 r2 im:Int):List (Option Ob) :=
 [some (.arr t 43 [.int .u32 w]),some (.arr (t+1) 47 [.int .u8 0,.int .u8 0,.int .u8 0,.int .u8 0,.int .i64 0]),some (.arr (t+1+1) 117 tb),some (.arr t2 74 rc),
  some (.arr (t2+1) 47 [.int .u8 op,.int .u8 rd,.int .u8 r1,.int .u8 r2,.int .i64 im]),
  some (.arr (t2+1+1) 135 [.bool a,.ptr 4 (t2+1) 1,.int .i64 7,.int .i64 5,.bool b,.ptr 4 (t2+1) 2,.int .i64 15,.int .i64 5,.bool c,.ptr 4 (t2+1) 3,.int .i64 20,.int .i64 5])]
theorem Qd3 (w:Int) (a:Nat):IntKind.u8.wrap (fld w a 5)=fld w a 5:=by
 have:=Qrm w a 5
 exact X8 _ (by simp [IntKind.min,IntKind.signed]; omega) (by simp [IntKind.max,IntKind.signed,IntKind.bits]; omega)
theorem QyD (hT:Qk Tryz.prog tab) (w:Int) (h0:0≤w) (h1:w<4294967296):Pure Tryz.prog G0 Qld [.int .u32 w] fun v=>v=.tup (errT (first w 0 T)):=by
 intro t
 obtain ⟨tb,htb⟩:∃ tb,tb=tabC:=⟨_,rfl⟩
 have ct:=Qwb hT
 rw [← htb] at ct
 have ok:TbOk tb:=by rw [htb]; exact tbOk
 have hnl:Qb tb=true:=by rw [htb]; exact Qh3
 clear htb
 have hl:=ok.len
 have ho:=ok.ones
 refine Qp 0 (zL _) (Qt hT Qhw (by simp [Qgc]) (Qn 1000 ?_))
 simp -implicitDefEqProofs (disch:=omega) only [go_sem,↓reduceIte,reduceCtorEq,rq]
 refine QN hT Qmx ct (by simp [Qb]) 1000 fun v hv=>?_
 subst hv
 simp -implicitDefEqProofs (disch:=omega) only [go_sem,↓reduceIte,reduceCtorEq,rA,rq,Nat.reduceSub,Nat.reduceMul,hl,ho]
 have hx:=Qql (G:=G0) hT ok (base:=0) (b:=t) (v1:=t+1) (v2:=t+1+1) (t:=t+1+1+1) w h0 h1 (some 66) (zL _)
 simp only [hD] at hx
 refine call hT Y2 hx 1000 fun v σ hv=>?_
 obtain ⟨j,rfl,hj,t2,ht2,rfl⟩:=hv
 rcases hj with ⟨rfl,hno⟩ | ⟨k,r,rfl,hk,his,hfi⟩
 ·simp -implicitDefEqProofs (disch:=omega) only [go_sem,↓reduceIte,reduceCtorEq,rA,rq,Int.reduceLT]
  rw [hno]
  rfl
 ·have hkl:k<65:=by have:=(List.getElem?_eq_some_iff.1 hk).1; rw [QbF] at this; exact this
  have hg:=ok.get (k+1) (by omega)
  have hgd:T.getD (k+1 - 1) ⟨0,[],0,0,0⟩=r:=by rw [Nat.add_sub_cancel,List.getD_eq_getElem?_getD,hk]; rfl
  rw [if_neg (by omega),hgd] at hg
  have hf:=QjO (ZS r (List.mem_of_getElem? hk))
  obtain ⟨y,hy,_⟩:=Qen (bitsOf r.form)
  have hrc:QlV r=[.bool (QW r.form),.bool (Q1 r.form),.bool (Q5 r.form),.lst y ((bitsOf r.form).map fun b=>pr b.1 b.2) true,.int .i64 (Qed r.form),.bool (Qlm r.form),.int .u32 (QcF r.form),.str r.name,.int .u32 (Qv r)]:=by
   simp only [QlV,Qlp,hy,cA,nA]
  rw [hrc] at hg
  have cn:=c_numF (G:=G0) hT hf (w:=w) ⟨h0,h1⟩
  simp only [Qlp,hy] at cn
  have n1:¬ (((k+1:Nat):Int)<0):=by omega
  have n2:(((k+1:Nat):Int)).toNat=k+1:=by omega
  have n3:IntKind.u8.wrap ((k+1:Nat):Int)=(k:Int)+1:=by rw [X8 _ (by simp [IntKind.min,IntKind.signed]; omega) (by simp [IntKind.max,IntKind.signed,IntKind.bits]; omega)]; push_cast; rfl
  simp -implicitDefEqProofs (disch:=omega) only [go_sem,↓reduceIte,reduceCtorEq,rA,rq,rL,n1,n2,n3,hl,hg,show (k+1) * 9≤585 by omega,show k+1<66 by omega]
  refine QN hT Qe7 cn (by simp [Qb,Qd]) 3 fun v hv=>?_
  subst hv
  simp -implicitDefEqProofs (disch:=omega) only [go_sem,↓reduceIte,reduceCtorEq,rA,rq,rL]
  iterate 14 (try (refine Qa 3 ?_; simp -implicitDefEqProofs (disch:=omega) only [go_sem,↓reduceIte,reduceCtorEq,rA,rq,rL,g0a,g0b,g0c]))
  have oc:(Value.pointer none).oneCell'=true:=rfl
  have co:∀ a:Nat,a≤31→Pure Tryz.prog G0 Qgg [.agg [.int .i64 a,.int .i64 5],.int .u32 w] fun v=>v=.int .u32 (fld w a 5):=fun a ha=>c_of (G:=G0) hT w a 5 ⟨h0,h1⟩ ha (by omega)
  have wz:∀ i:Nat,i<3→IntKind.i64.wrap ((i:Int)+1)=((i+1:Nat):Int):=fun i hi=>Qd2 hi (by omega)
  refine Qm3 (fun n fr σ=>∃ i t3,i≤3∧n=3 - i∧Qg fr 1=.ptr 0 t 0∧Qg fr 2=.ptr 1 (t+1) 0∧Qg fr 3=.int .i64 0∧Qg fr 7=.ptr 4 (t2+1) 0∧Qg fr 45=.sl 5 (t2+1+1) 0 4 3 none∧Qg fr 46=.int .i64 ((3:Nat):Int)∧Qg fr 47=.int .i64 i ∧
   σ=⟨t3,dH tb (QlV r) t t2 (QW r.form) (Q1 r.form) (Q5 r.form) w ((k:Int)+1) (if 1≤i then (if QW r.form then fld w 7 5 else 0) else 0) (if 2≤i then (if Q1 r.form then fld w 15 5 else 0) else 0) (if 3≤i then (if Q5 r.form then fld w 20 5 else 0) else 0) (number w r.form)⟩)
   (fun n fr σ hJ=>?_) (m0:=3) ⟨0,t2+1+1+1,by omega,rfl,?_⟩
  ·obtain ⟨i,t3,hi,rfl,f1,f2,f3,f7,f45,f46,f47,rfl⟩:=hJ
   refine Qn 3 ?_
   have hcase:i=0∨i=1∨i=2∨i=3:=by omega
   rcases hcase with rfl | rfl | rfl | rfl
   ·-- round 0
    cases hA:QW r.form with
    | true =>
      simp -implicitDefEqProofs (disch:=omega) only [go_sem,↓reduceIte,rL,Nat.reduceSub,dH,f46,f47]
      iterate 12 (try (refine Qa 3 ?_; simp -implicitDefEqProofs (disch:=omega) only [go_sem,↓reduceIte,reduceCtorEq,rA,rq,rL,oc,f1,f45,f47]))
      refine QN hT QbL (co 7 (by omega)) rfl 3 fun v hv=>?_
      subst hv
      simp -implicitDefEqProofs (disch:=omega) only [go_sem,↓reduceIte,rA,rq,rL,Qd3]
      iterate 12 (try (refine Qa 3 ?_; simp -implicitDefEqProofs (disch:=omega) only [go_sem,↓reduceIte,rq,f47]))
      refine ⟨3 - 1,_,_,by omega,Shift.drop (o':=dH tb (QlV r) t t2 (QW r.form) (Q1 r.form) (Q5 r.form) w ((k:Int)+1) (if QW r.form then fld w 7 5 else 0) 0 0 (number w r.form)) (t':=t3+1) (by simp [YR,dH,hA]) (lR _) (zL _),1,t3+1,by omega,rfl,?_⟩
      simp -implicitDefEqProofs (disch:=omega) only [go_sem,↓reduceIte,rq,rL,f1,f2,f3,f7,f45,f46,wz]
      simp [hA,dH]
    | false =>
      simp -implicitDefEqProofs (disch:=omega) only [go_sem,↓reduceIte,rL,Nat.reduceSub,dH,f46,f47]
      iterate 12 (try (refine Qa 3 ?_; simp -implicitDefEqProofs (disch:=omega) only [go_sem,↓reduceIte,reduceCtorEq,rA,rq,rL,oc,f45,f47]))
      refine ⟨3 - 1,_,_,by omega,Shift.drop (o':=dH tb (QlV r) t t2 (QW r.form) (Q1 r.form) (Q5 r.form) w ((k:Int)+1) (if QW r.form then fld w 7 5 else 0) 0 0 (number w r.form)) (t':=t3+1) (by simp [YR,dH,hA]) (lR _) (zL _),1,t3+1,by omega,rfl,?_⟩
      simp -implicitDefEqProofs (disch:=omega) only [go_sem,↓reduceIte,rq,rL,f1,f2,f3,f7,f45,f46,wz]
      simp [hA,dH]
   ·-- round 1
    cases hA:Q1 r.form with
    | true =>
      simp -implicitDefEqProofs (disch:=omega) only [go_sem,↓reduceIte,rL,Nat.reduceSub,dH,f46,f47]
      iterate 12 (try (refine Qa 3 ?_; simp -implicitDefEqProofs (disch:=omega) only [go_sem,↓reduceIte,reduceCtorEq,rA,rq,rL,oc,f1,f45,f47]))
      refine QN hT QbL (co 15 (by omega)) rfl 3 fun v hv=>?_
      subst hv
      simp -implicitDefEqProofs (disch:=omega) only [go_sem,↓reduceIte,rA,rq,rL,Qd3]
      iterate 12 (try (refine Qa 3 ?_; simp -implicitDefEqProofs (disch:=omega) only [go_sem,↓reduceIte,rq,f47]))
      refine ⟨3 - 2,_,_,by omega,Shift.drop (o':=dH tb (QlV r) t t2 (QW r.form) (Q1 r.form) (Q5 r.form) w ((k:Int)+1) (if QW r.form then fld w 7 5 else 0) (if Q1 r.form then fld w 15 5 else 0) 0 (number w r.form)) (t':=t3+1) (by simp [YR,dH,hA]) (lR _) (zL _),2,t3+1,by omega,rfl,?_⟩
      simp -implicitDefEqProofs (disch:=omega) only [go_sem,↓reduceIte,rA,rq,rL,f1,f2,f3,f7,f45,f46,wz]
      simp [hA,dH]
    | false =>
      simp -implicitDefEqProofs (disch:=omega) only [go_sem,↓reduceIte,rL,Nat.reduceSub,dH,f46,f47]
      iterate 12 (try (refine Qa 3 ?_; simp -implicitDefEqProofs (disch:=omega) only [go_sem,↓reduceIte,reduceCtorEq,rA,rq,rL,oc,f45,f47]))
      refine ⟨3 - 2,_,_,by omega,Shift.drop (o':=dH tb (QlV r) t t2 (QW r.form) (Q1 r.form) (Q5 r.form) w ((k:Int)+1) (if QW r.form then fld w 7 5 else 0) (if Q1 r.form then fld w 15 5 else 0) 0 (number w r.form)) (t':=t3+1) (by simp [YR,dH,hA]) (lR _) (zL _),2,t3+1,by omega,rfl,?_⟩
      simp -implicitDefEqProofs (disch:=omega) only [go_sem,↓reduceIte,rA,rq,rL,f1,f2,f3,f7,f45,f46,wz]
      simp [hA,dH]
   ·-- round 2
    cases hA:Q5 r.form with
    | true =>
      simp -implicitDefEqProofs (disch:=omega) only [go_sem,↓reduceIte,rL,rT,Nat.reduceSub,dH,f46,f47]
      iterate 12 (try (refine Qa 3 ?_; simp -implicitDefEqProofs (disch:=omega) only [go_sem,↓reduceIte,reduceCtorEq,rA,rq,rL,rT,Nat.reduceMul,oc,f1,f45,f47]))
      refine QN hT QbL (co 20 (by omega)) rfl 3 fun v hv=>?_
      subst hv
      simp -implicitDefEqProofs (disch:=omega) only [go_sem,↓reduceIte,rA,rq,rL,Qd3]
      iterate 12 (try (refine Qa 3 ?_; simp -implicitDefEqProofs (disch:=omega) only [go_sem,↓reduceIte,rq,f47]))
      refine ⟨3 - 3,_,_,by omega,Shift.drop (o':=dH tb (QlV r) t t2 (QW r.form) (Q1 r.form) (Q5 r.form) w ((k:Int)+1) (if QW r.form then fld w 7 5 else 0) (if Q1 r.form then fld w 15 5 else 0) (if Q5 r.form then fld w 20 5 else 0) (number w r.form)) (t':=t3+1) (by simp [YR,dH,hA]) (lR _) (zL _),3,t3+1,by omega,rfl,?_⟩
      simp -implicitDefEqProofs (disch:=omega) only [go_sem,↓reduceIte,rA,rq,rL,f1,f2,f3,f7,f45,f46,wz]
      simp [hA,dH]
    | false =>
      simp -implicitDefEqProofs (disch:=omega) only [go_sem,↓reduceIte,rL,rT,Nat.reduceSub,dH,f46,f47]
      iterate 12 (try (refine Qa 3 ?_; simp -implicitDefEqProofs (disch:=omega) only [go_sem,↓reduceIte,reduceCtorEq,rA,rq,rL,rT,Nat.reduceMul,oc,f45,f47]))
      refine ⟨3 - 3,_,_,by omega,Shift.drop (o':=dH tb (QlV r) t t2 (QW r.form) (Q1 r.form) (Q5 r.form) w ((k:Int)+1) (if QW r.form then fld w 7 5 else 0) (if Q1 r.form then fld w 15 5 else 0) (if Q5 r.form then fld w 20 5 else 0) (number w r.form)) (t':=t3+1) (by simp [YR,dH,hA]) (lR _) (zL _),3,t3+1,by omega,rfl,?_⟩
      simp -implicitDefEqProofs (disch:=omega) only [go_sem,↓reduceIte,rA,rq,rL,f1,f2,f3,f7,f45,f46,wz]
      simp [hA,dH]
   ·simp -implicitDefEqProofs (disch:=omega) only [go_sem,↓reduceIte,rL,Nat.reduceSub,f47,f46,Nat.lt_irrefl]
    iterate 6 (try (refine Qa 3 ?_; simp -implicitDefEqProofs (disch:=omega) only [go_sem,↓reduceIte,reduceCtorEq,rA,rq,dH,f2,f7]))
    rw [hfi]; rfl
  ·rw [hrc]
   simp -implicitDefEqProofs (disch:=omega) only [go_sem,↓reduceIte,reduceCtorEq,rq,rL,dH]
   rfl
end
end Go.Proofs.YtaidbdgndljaeaaGreatDoor
namespace Go.Proofs.YtaidbdgndljaeaaGreatDoor
open Go Go.Am Go.Rv Go.Rg
set_option maxRecDepth 100000
section
attribute [local go_sem] nF nT cA lM nA lR zA zL V.cells and_true bne_self_eq_false QF decide_true false_implies Qw QnF QnE QsF QsE QsD QsC QsB QU true_and true_implies
theorem take6 (a b c d e f g:Option Ob):YR [a,b,c,d,e,f] [a,b,c,d,e,f,g]:=Y0 6 [a,b,c,d,e,f,g]
def QpW:Int→V:=fun _=>.int .i64 1
def Qnx (ws:List Int) (i:Nat):List Int:=((List.range i).filter fun j=>(ws[j]?.bind dec).isNone).map fun j:Nat=>(j:Int)
theorem Qss (ws:List Int) (i:Nat):(Qnx ws i).Nodup:=by
 unfold Qnx List.Nodup
 rw [List.pairwise_map]
 exact (List.nodup_range.filter _).imp fun h e=>h (by omega)
theorem QyI (ws:List Int) (i:Nat):(i:Int) ∉ Qnx ws i:=fun h=>by
 unfold Qnx at h
 obtain ⟨j,hj,e⟩:=List.mem_map.1 h
 have:=(List.mem_filter.1 hj).1
 rw [List.mem_range] at this
 omega
variable {w:Int} {i:Nat} {ws:List Int}
theorem Qwv (h:ws[i]?=some w):Qnx ws (i+1)=Qnx ws i++if (dec w).isNone then [(i:Int)] else []:=by
 unfold Qnx
 rw [List.range_succ,List.filter_append,List.map_append]
 congr 1
 simp only [List.filter_cons,List.filter_nil,h,Option.bind_some]
 split <;> rfl
theorem Qra {j:Nat}:(j:Int)∈Qnx ws i↔j<i∧(ws[j]?.bind dec).isNone:=by
 unfold Qnx
 simp only [List.mem_map,List.mem_filter,List.mem_range]
 constructor
 ·rintro ⟨k,hk,e⟩
  rw [show j=k by omega]; exact hk
 ·exact fun h=>⟨j,h,rfl⟩
def QaJ (c:List In):List V:=(c.map inC).flatten
theorem QmA (c:List In) (x:In):QaJ (c++[x])=QaJ c++inC x:=by simp [QaJ]
theorem Qid (c:List In):(QaJ c).length=5 * c.length:=by
 induction c with
 | nil=>rfl
 | cons x c ih =>
   show (inC x++QaJ c).length=_
   rw [lA,ih,lC]
   simp [inC]; omega
def rcC (m:Im) (nm:List UInt8) (pl:Int) (w i:Nat):List V:=[.int .i64 m.data,QU m.syms,QF m.code,.str nm,.int .i64 pl,.sl 5 w 0 5 i none,.int .i64 0,.lst 0 [] true]
abbrev rwJ (m:Im) (nm:List UInt8) (pl:Int) (ws:List Int) (n v1 v2 vr vm:Nat) (X1 X2:Option Ob):Nat→Fr→H→Prop:=fun i fr σ=>∃ t w,Qg fr 1=.int .i64 ((n:Nat):Int)∧Qg fr 4=.ptr 1 v1 0∧Qg fr 5=.ptr 2 v2 0∧Qg fr 8=.ptr 3 vr 0∧Qg fr 9=.mp 4 vm∧Qg fr 40=QF ws∧Qg fr 41=.int .i64 ws.length∧Qg fr 42=.int .i64 ((i:Nat):Int)∧σ=⟨t,[none,X1,X2,some (.arr vr 107 (rcC m nm pl w i)),some (.map vm (km kI QpW (Qnx ws i))),some (.arr w 47 (QaJ ((codeOf ws).take i)))]⟩
abbrev rwE (m:Im) (nm:List UInt8) (pl:Int) (ws:List Int) (n v1 v2 vr vm:Nat) (X1 X2:Option Ob):AE→Fr→H→Prop:=fun e fr σ=>∃ t w,e=.ex 0∧Qg fr 1=.int .i64 ((n:Nat):Int)∧Qg fr 4=.ptr 1 v1 0∧Qg fr 5=.ptr 2 v2 0∧Qg fr 8=.ptr 3 vr 0∧Qg fr 9=.mp 4 vm∧σ=⟨t,[none,X1,X2,some (.arr vr 107 (rcC m nm pl w ws.length)),some (.map vm (km kI QpW (Qnx ws ws.length))),some (.arr w 47 (QaJ (codeOf ws)))]⟩
theorem Qxj (hT:Qk Tryz.prog tab) {m:Im} {nm:List UInt8} {pl:Int} {n v1 v2 vr vm:Nat} {X1 X2:Option Ob} (hw:∀ w∈ws,0≤w∧w<4294967296) (hl:ws.length≤1000000) (hx:ws[i]?=some w) {fr:Fr} {σ:H} (hJ:rwJ m nm pl ws n v1 v2 vr vm X1 X2 i fr σ) :
 W Tryz.prog G0 124 0 (zg QsF [] (.seq (zw 43 .skip (.exit 0)) (.seq (.block 1 (zg QsE [44,45,46] (zg QsD [48,49,47,50,51] (.seq (zg QsC [52] (zw 53 (.reg QsB [54,55,56]) .skip)) (.reg QnF [57,58,59,60,61,62,63,64,65,66,67,68]))))) (.reg QnE [69])))) fr σ (QbQ (fun fr σ=>∃ fr' σ',Shift G0 124 0 fr σ fr' σ'∧rwJ m nm pl ws n v1 v2 vr vm X1 X2 (i+1) fr' σ') (rwE m nm pl ws n v1 v2 vr vm X1 X2)):=by
 obtain ⟨t,wv,f1,f4,f5,f8,f9,f40,f41,f42,rfl⟩:=hJ
 have hlt:=(List.getElem?_eq_some_iff.1 hx).1
 have hD:(ws.map (V.int .u32)).getD i V.any=.int .u32 w:=by simp [List.getD_eq_getElem?_getD,hx]
 have e2:=ZT hlt (by omega)
 have hwb:=hw w (List.mem_of_getElem? hx)
 have hDec:=QyD hT w hwb.1 hwb.2
 have hbs:=Qwv hx
 have hct:(codeOf ws).take (i+1)=(codeOf ws).take i++[(dec w).getD zeroI]:=by
  rw [List.take_add_one]; congr 1; unfold codeOf; simp [hx]
 have hrl:(QaJ ((codeOf ws).take i)).length=5 * i:=by
  rw [Qid,List.length_take]; unfold codeOf; rw [lM]; omega
 have hk:∀ f S,Qdc false [Kd.i] (V.int .i64 (i:Int)) (km kI f S)=True:=fun f S=>eq_true (Qni (i:Int) f S)
 have hnl:Qd (V.int .i64 (i:Int))=true:=rfl
 have hp:=Qlf (ks:=[Kd.i]) (key:=kI) QxO QpW (i:Int) (.int .i64 1) (Qnx ws i) (Qss ws i)
 rw [show Qr1 QpW (i:Int) (.int .i64 1)=QpW from funext fun b=>by simp [Qr1,QpW],Qrf,if_neg (QyI ws i)] at hp
 simp only [kI] at hp
 have hsnoc:=QmA ((codeOf ws).take i) ((dec w).getD zeroI)
 rw [← hct] at hsnoc
 have hcl:i+1≤9223372036854775807:=by omega
 unfold dec at hbs hsnoc
 generalize first w 0 T=d at *
 generalize Qnx ws i=B0 at *
 generalize QaJ ((codeOf ws).take i)=R0 at *
 cases d with
 | some x =>
   simp only [errT,inC] at hDec
   simp only [Option.isNone_some,Bool.false_eq_true,if_false,List.append_nil,Option.getD_some,inC] at hbs hsnoc
   refine Qh [(1,.int .i64 ((n:Nat):Int)),(4,.ptr 1 v1 0),(5,.ptr 2 v2 0),(8,.ptr 3 vr 0),(9,.mp 4 vm),(40,QF ws),(41,.int .i64 ws.length),(42,.int .i64 ((i:Nat):Int))] ⟨f1,f4,f5,f8,f9,f40,f41,f42,trivial⟩  12 ?_
   simp -implicitDefEqProofs (disch:=omega) only [go_sem,↓reduceIte,rq,rcC,hlt]
   iterate 3 (try (refine Qa 4 ?_; simp -implicitDefEqProofs (disch:=omega) only [go_sem,↓reduceIte,rq,hlt,hD]))
   refine Qf hT Qhw hDec rfl 12 ?_
   simp -implicitDefEqProofs (disch:=omega) only [go_sem,↓reduceIte,rA,rq,rT]
   iterate 9 (try (refine Qa 9 ?_; simp -implicitDefEqProofs (disch:=omega) only [go_sem,↓reduceIte,reduceCtorEq,rA,rq,rL,hrl]))
   refine ⟨_,_,Shift.drop (o':=[none,X1,X2,some (.arr vr 107 (rcC m nm pl (t+1) (i+1))),some (.map vm (km kI QpW (Qnx ws (i+1)))),some (.arr (t+1) 47 (QaJ ((codeOf ws).take (i+1))))]) (t':=t+1+1) (by rw [hbs,hsnoc]; exact take6 _ _ _ _ _ _ _) (lR _) (zL _),t+1+1,t+1,?_⟩
   simp -implicitDefEqProofs (disch:=omega) only [go_sem,↓reduceIte,rq,rcC,e2]
   try simp
 | none =>
   simp only [errT,inC] at hDec
   simp only [Option.isNone_none,if_true,Option.getD_none,inC,zeroI] at hbs hsnoc
   refine Qh [(1,.int .i64 ((n:Nat):Int)),(4,.ptr 1 v1 0),(5,.ptr 2 v2 0),(8,.ptr 3 vr 0),(9,.mp 4 vm),(40,QF ws),(41,.int .i64 ws.length),(42,.int .i64 ((i:Nat):Int))] ⟨f1,f4,f5,f8,f9,f40,f41,f42,trivial⟩  12 ?_
   simp -implicitDefEqProofs (disch:=omega) only [go_sem,↓reduceIte,rq,rcC,hlt]
   iterate 3 (try (refine Qa 4 ?_; simp -implicitDefEqProofs (disch:=omega) only [go_sem,↓reduceIte,rq,hlt,hD]))
   refine Qf hT Qhw hDec rfl 12 ?_
   simp -implicitDefEqProofs (disch:=omega) only [go_sem,↓reduceIte,rA,rq,rT,Int.reduceBNe]
   iterate 9 (try (refine Qa 9 ?_; simp -implicitDefEqProofs (disch:=omega) only [go_sem,↓reduceIte,reduceCtorEq,rA,rq,rL,hrl,hk,hp,hnl]))
   refine ⟨_,_,Shift.drop (o':=[none,X1,X2,some (.arr vr 107 (rcC m nm pl (t+1) (i+1))),some (.map vm (km kI QpW (Qnx ws (i+1)))),some (.arr (t+1) 47 (QaJ ((codeOf ws).take (i+1))))]) (t':=t+1+1) (by rw [hbs,hsnoc]; exact take6 _ _ _ _ _ _ _) (lR _) (zL _),t+1+1,t+1,?_⟩
   simp -implicitDefEqProofs (disch:=omega) only [go_sem,↓reduceIte,rq,rcC,e2]
   try simp
end
section
attribute [local go_sem] nF nT cA lM nA aZ lR Nat.mul_one Nat.one_mul Nat.succ_ne_zero zA zL Nat.zero_mul Option.getD_none Option.getD_some Option.isSome_none Option.isSome_some V.cells and_true beq_self_eq_true bne_self_eq_false QF decide_false decide_true false_implies ge_iff_le gt_iff_lt inC Q9 Qw not_false_eq_true not_true_eq_false rd6 rdC QaV QE4 QE3 QnF QnE QsJ QsI QqB QqA Qqz Qqy Qqx Qqw QE2 Qqv Qqu QsH QsG QE1 QE0 QsF QsE QsD QsC QsB QU true_and true_implies
def zF:List V:=[.str [],.int .i64 0,.lst 0 [] true,.int .i64 0,.lst 0 [] true]
def flt (n i e:Int):List V:=[.int .i64 n,.int .i64 i,.int .i64 e]
variable {i:Nat} {ws:List Int} {pl F w:Int}
theorem QjE {al:List Int} {c:List In} (h:ws[i]?=some w):Yj al pl c F i (ws.drop i)=match dec w with
 | none=>some (i,220)
 | some x=>if Yi al pl c F i x≠0 then some (i,Yi al pl c F i x) else Yj al pl c F (i+1) (ws.drop (i+1)):=by
 have hl:=(List.getElem?_eq_some_iff.1 h).1
 rw [List.drop_eq_getElem_cons hl,(List.getElem?_eq_some_iff.1 h).2]
 rfl
abbrev fH (m:Im) (nm:List UInt8) (pl:Int) (c:List In) (F:Int) (ws:List Int) (v1 v2 vr vm:Nat):List (Option Ob):=rd6 m nm pl c F vr (some (.arr v1 37 zF)) (some (.arr v2 31 (flt 0 0 0))) (some (.map vm (km kI QpW (Qnx ws ws.length))))
abbrev flJ (m:Im) (nm:List UInt8) (pl:Int) (c:List In) (F:Int) (ws:List Int) (n v1 v2 vr vm:Nat):Nat→Fr→H→Prop:=fun i fr σ=>∃ t,Yj (ats m) pl c F 0 ws=Yj (ats m) pl c F i (ws.drop i)∧Qg fr 1=.int .i64 ((n:Nat):Int)∧Qg fr 4=.ptr 1 v1 0∧Qg fr 5=.ptr 2 v2 0∧Qg fr 8=.ptr 3 vr 0∧Qg fr 9=.mp 4 vm∧Qg fr 87=.int .i64 c.length∧Qg fr 88=.int .i64 ((i:Nat):Int)∧σ=⟨t,fH m nm pl c F ws v1 v2 vr vm⟩
abbrev flE (m:Im) (nm:List UInt8) (pl:Int) (c:List In) (F:Int) (ws:List Int) (n v1 v2 vr vm:Nat):AE→Fr→H→Prop:=fun e fr σ =>
 (e=.ret∧Qg fr 4=.ptr 1 v1 0∧Qg fr 5=.ptr 2 v2 0∧∃ (i:Nat) (er:Int) (t:Nat) (X3 X4:Option Ob),Yj (ats m) pl c F 0 ws=some (i,er)∧σ=⟨t,[none,some (.arr v1 37 zF),some (.arr v2 31 (flt n i er)),X3,X4,none]⟩) ∨
 (e=.ex 2∧Yj (ats m) pl c F 0 ws=none∧Qg fr 1=.int .i64 ((n:Nat):Int)∧Qg fr 4=.ptr 1 v1 0∧Qg fr 5=.ptr 2 v2 0∧Qg fr 8=.ptr 3 vr 0∧∃ t,σ=⟨t,fH m nm pl c F ws v1 v2 vr vm⟩)
theorem Qx8 (hT:Qk Tryz.prog tab) {m:Im} {nm:List UInt8} {n v1 v2 vr vm:Nat} (hw:∀ w∈ws,0≤w∧w<4294967296) (hl:ws.length≤1000) (hs:m.syms.length≤1000) (hpl:0≤pl∧pl≤1099511627776) (hx:ws[i]?=some w) {fr:Fr} {σ:H} (hJ:flJ m nm pl (codeOf ws) F ws n v1 v2 vr vm i fr σ) :
 W Tryz.prog G0 124 0 (zg QqB [] (.seq (zw 89 .skip (.exit 2)) (.seq (.block 3 (zg QqA [90] (.seq (zg Qqz [91,92,93] (zw 94 (zg Qqy [95,96,97,98] .ret) .skip)) (zg Qqx [99,100,101] (zg Qqw [102] (zw 103 (zg Qqv [104,105,106,107,108] .ret) .skip)))))) (.reg Qqu [109])))) fr σ (QbQ (fun fr σ=>∃ fr' σ',Shift G0 124 0 fr σ fr' σ'∧flJ m nm pl (codeOf ws) F ws n v1 v2 vr vm (i+1) fr' σ') (flE m nm pl (codeOf ws) F ws n v1 v2 vr vm)):=by
 obtain ⟨t,hf,f1,f4,f5,f8,f9,f87,f88,rfl⟩:=hJ
 have hlt:=(List.getElem?_eq_some_iff.1 hx).1
 have hcl:(codeOf ws).length=ws.length:=by simp [codeOf]
 have hltc:((i:Int)<((codeOf ws).length:Int))=True:=eq_true (by omega)
 have e2:=ZT hlt (by omega)
 have hwb:=hw w (List.mem_of_getElem? hx)
 have hfn:=QjE (al:=ats m) (pl:=pl) (F:=F) (c:=codeOf ws) hx
 rw [← hf] at hfn
 have hg:=QiR (ks:=[Kd.i]) (key:=kI) QxO QpW (i:Int) (Qnx ws ws.length)
 have hk:∀ f S,Qdc false [Kd.i] (V.int .i64 (i:Int)) (km kI f S)=True:=fun f S=>eq_true (Qni (i:Int) f S)
 have hci:(codeOf ws)[i]?=some ((dec w).getD zeroI):=by simp [codeOf,hx]
 have hltn:i<(codeOf ws).length:=by omega
 cases hd:dec w with
 | none =>
   rw [hd] at hfn
   rw [if_pos (Qra.2 ⟨hlt,by rw [hx]; simp [hd]⟩)] at hg
   simp only [kI,QpW] at hg
   refine Qh [(1,.int .i64 ((n:Nat):Int)),(4,.ptr 1 v1 0),(5,.ptr 2 v2 0),(8,.ptr 3 vr 0),(9,.mp 4 vm),(87,.int .i64 (codeOf ws).length),(88,.int .i64 ((i:Nat):Int))] ⟨f1,f4,f5,f8,f9,f87,f88,trivial⟩  60 ?_
   simp -implicitDefEqProofs (disch:=omega) only [go_sem,↓reduceIte,rA,rq,rL,Int.reduceLT,zF,flt,hltc,hg,hk]
   exact .inl ⟨rfl,rfl,rfl,i,220,t,_,_,hfn,rfl⟩
 | some x =>
   rw [hd] at hfn
   simp only at hfn
   rw [if_neg (fun h=>by have:=(Qra.1 h).2; rw [hx] at this; simp [hd] at this)] at hg
   simp only [kI] at hg
   rw [hd] at hci
   obtain ⟨d1,d2⟩:=QlA hwb.1 hd
   have hA:Ask m pl (codeOf ws) i x:=⟨hci,by omega,hs,⟨d1.1,d1.2.1,d1.2.2.1,d1.2.2.2,by unfold i64; omega⟩,by omega,hpl⟩
   have hF:=QGZ hT (nm:=nm) (F:=F) (vr:=vr) (t:=t) (X1:=some (.arr v1 37 zF)) (X2:=some (.arr v2 31 (flt 0 0 0))) (X4:=some (.map vm (km kI QpW (Qnx ws ws.length)))) hA
   simp only [rd6,rdC,zF,flt,Q9,QU,QF,inC] at hF
   generalize Yi (ats m) pl (codeOf ws) F i x=er at *
   refine Qh [(1,.int .i64 ((n:Nat):Int)),(4,.ptr 1 v1 0),(5,.ptr 2 v2 0),(8,.ptr 3 vr 0),(9,.mp 4 vm),(87,.int .i64 (codeOf ws).length),(88,.int .i64 ((i:Nat):Int))] ⟨f1,f4,f5,f8,f9,f87,f88,trivial⟩  60 ?_
   simp -implicitDefEqProofs (disch:=omega) only [go_sem,↓reduceIte,rq,Int.reduceLT,zF,flt,hltc,hg,hk]
   refine call hT Qbm hF 40 fun v σ hv=>?_
   obtain ⟨rfl,t2,ht2,rfl⟩:=hv
   by_cases h0:er=0
   ·have h0':(er != 0)=false:=by simp [h0]
    rw [if_neg (by simpa using h0)] at hfn
    simp -implicitDefEqProofs (disch:=omega) only [go_sem,↓reduceIte,rq,h0']
    iterate 4 (try (refine Qa 4 ?_; simp -implicitDefEqProofs (disch:=omega) only [go_sem,↓reduceIte,reduceCtorEq,rA,rq,rL,rT,Nat.reduceSub,Nat.reduceMul,Int.reduceToNat,Int.reduceLE,Int.reduceLT,Int.reduceEq,Int.reduceNe,Nat.reduceBEq,Nat.reduceBNe,zF,flt,Int.reduceBEq,Int.reduceBNe,h0']))
    refine ⟨_,_,Shift.refl _ _ _ _,t2,hfn,?_⟩
    simp -implicitDefEqProofs (disch:=omega) only [go_sem,↓reduceIte,rq,zF,flt,e2]
    try simp
   ·have h0':(er != 0)=true:=by simp [h0]
    rw [if_pos h0] at hfn
    simp -implicitDefEqProofs (disch:=omega) only [go_sem,↓reduceIte,rA,rq,rL,h0']
    iterate 4 (try (refine Qa 4 ?_; simp -implicitDefEqProofs (disch:=omega) only [go_sem,↓reduceIte,reduceCtorEq,rA,rq,rL,rT,Nat.reduceSub,Nat.reduceMul,Int.reduceToNat,Int.reduceLE,Int.reduceLT,Int.reduceEq,Int.reduceNe,Nat.reduceBEq,Nat.reduceBNe,zF,flt,Int.reduceBEq,Int.reduceBNe,h0']))
    exact .inl ⟨rfl,rfl,rfl,i,er,t2,_,_,hfn,rfl⟩
end
end Go.Proofs.YtaidbdgndljaeaaGreatDoor
