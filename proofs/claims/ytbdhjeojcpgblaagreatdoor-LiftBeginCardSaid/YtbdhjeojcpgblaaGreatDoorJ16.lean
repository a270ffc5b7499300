/- Ours. -/
import Derived.Test.YtbdhjeojcpgblaaGreatDoorJ15
import Derived.Test.YtbdhjeojcpgblaaGreatDoorJ12
import Derived.Test.YtbdhjeojcpgblaaGreatDoorJ11
import Derived.Test.YtbdhjeojcpgblaaGreatDoorJ13
import Derived.Test.YtbdhjeojcpgblaaGreatDoorY
open Nat renaming reduceEqDiff → rq, reduceAdd → rA, reduceLeDiff → rL, reduceLT → rT, zero_add → zA, le_refl → lR, zero_le → zL, add_zero → aZ
open List renaming length_cons → lC, length_nil → lN, take_succ_cons → tSq, length_append → lA, nil_append → nA, cons_append → cA, append_assoc → aA, take_nil → tN, take_zero → tZ, length_map → lM
open Bool renaming not_false → nF, not_true → nT
namespace Go.Proofs.YtbdhjeojcpgblaaGreatDoor
open Go Go.Am Go.Rv
set_option maxRecDepth 100000
set_option maxHeartbeats 1000000
section
attribute [local go_sem] nF aZ lR Nat.one_mul zA zL Nat.zero_mul decide_false decide_true Qu QfS QON QOM QA0 QAZ QAY QAX QOL QOK QOJ QOI QOH QOG QOF QOE
theorem c_numF {P:Program} {G:Nat→Option V} (hT:Qf P tab) {f w:Int} (hf:f=82∨f=87∨f=73∨f=72∨f=83∨f=66∨f=85∨f=74∨f=69) (hw:u32 w) :
 Pure P G QbN [.agg (Qno f),.int .u32 w] fun v=>v=.int .i64 (number w f):=by
 have h:=QFX (G:=G) hT (Zt f) (Qao f) (QaO f) (bitsOf f) (Qd6 f) (Qnl f) (Qb8 f) w
  (by rcases hf with h | h | h | h | h | h | h | h | h <;> rw [h] <;> decide) (by rcases hf with h | h | h | h | h | h | h | h | h <;> rw [h] <;> decide)
  (by rcases hf with h | h | h | h | h | h | h | h | h <;> rw [h] <;> decide) (by rcases hf with h | h | h | h | h | h | h | h | h <;> rw [h] <;> decide)
  (by rcases hf with h | h | h | h | h | h | h | h | h <;> rw [h] <;> decide) (by rcases hf with h | h | h | h | h | h | h | h | h <;> rw [h] <;> decide) hw
 have e:=QR0 w hf
 unfold numP at e
 simp only at e
 rw [e] at h
 exact h
def errT (o:Option In):List V:=match o with
 | some x=>[.agg (inC x),.int .i64 0]
 | none=>[.agg (inC ⟨0,0,0,0,0⟩),.int .i64 100]
def dH (tb rc:List V) (t t2:Nat) (a b c:Bool) (w op rd r1 r2 im:Int):List (Option Ob) :=
 [some (.arr t 108 [.int .u32 w]),some (.arr (t+1) 70 [.int .u8 0,.int .u8 0,.int .u8 0,.int .u8 0,.int .i64 0]),some (.arr (t+1+1) 196 tb),some (.arr t2 185 rc),
  some (.arr (t2+1) 70 [.int .u8 op,.int .u8 rd,.int .u8 r1,.int .u8 r2,.int .i64 im]),
  some (.arr (t2+1+1) 203 [.bool a,.ptr 4 (t2+1) 1,.int .i64 7,.int .i64 5,.bool b,.ptr 4 (t2+1) 2,.int .i64 15,.int .i64 5,.bool c,.ptr 4 (t2+1) 3,.int .i64 20,.int .i64 5])]
theorem Qmo (w:Int) (a:Nat):IntKind.u8.wrap (fld w a 5)=fld w a 5:=by
 have:=QCR w a 5
 exact Qas _ (by simp [IntKind.min,IntKind.signed]; omega) (by simp [IntKind.max,IntKind.signed,IntKind.bits]; omega)
theorem QF6 (hT:Qf Tryz.prog tab) (w:Int) (h0:0≤w) (h1:w<4294967296):Pure Tryz.prog G0 Qm1 [.int .u32 w] fun v=>v=.tup (errT (first w 0 T)):=by
 intro t
 obtain ⟨tb,htb⟩:∃ tb,tb=tabC:=⟨_,rfl⟩
 have ct:=QDt hT
 rw [← htb] at ct
 have ok:TbOk tb:=by rw [htb]; exact tbOk
 have hnl:Qb tb=true:=by rw [htb]; exact Qic
 clear htb
 have hl:=ok.len
 have ho:=ok.ones
 refine Qi 0 (zL _) (Qk hT Qhy (by simp [QfS]) (Qg 1000 ?_))
 refine ya ?_
 refine Qbe hT QoK ct (by simp [Qb]) 1000 fun v hv=>?_
 subst hv
 simp -implicitDefEqProofs (disch:=omega) only [go_sem,↓reduceIte,reduceCtorEq,rA,rq,Nat.reduceSub,Nat.reduceMul,hl,ho]
 have hx:=Qvw (G:=G0) hT ok (base:=0) (b:=t) (v1:=t+1) (v2:=t+1+1) (t:=t+1+1+1) w h0 h1 (some 66) (zL _)
 simp only [hD] at hx
 refine call hT Yp hx 1000 fun v σ hv=>?_
 obtain ⟨j,rfl,hj,t2,ht2,rfl⟩:=hv
 rcases hj with ⟨rfl,hno⟩ | ⟨k,r,rfl,hk,his,hfi⟩
 ·refine ya ?_
  rw [hno]
  rfl
 ·have hkl:k<65:=by have:=(List.getElem?_eq_some_iff.1 hk).1; rw [QoD] at this; exact this
  have hg:=ok.get (k+1) (by omega)
  have hgd:T.getD (k+1 - 1) ⟨0,[],0,0,0⟩=r:=by rw [Nat.add_sub_cancel,List.getD_eq_getElem?_getD,hk]; rfl
  rw [if_neg (by omega),hgd] at hg
  have hf:=forms (QnV r (List.mem_of_getElem? hk))
  obtain ⟨y,hy,_⟩:=Qep (bitsOf r.form)
  have hrc:Qoa r=[.bool (Zt r.form),.bool (Qao r.form),.bool (QaO r.form),.lst y ((bitsOf r.form).map fun b=>pr b.1 b.2) true,.int .i64 (Qd6 r.form),.bool (Qnl r.form),.int .u32 (Qb8 r.form),.str r.name,.int .u32 (Yy r)]:=by
   simp only [Qoa,Qno,hy,cA,nA]
  rw [hrc] at hg
  have cn:=c_numF (G:=G0) hT hf (w:=w) ⟨h0,h1⟩
  simp only [Qno,hy] at cn
  have n1:¬ (((k+1:Nat):Int)<0):=by omega
  have n2:(((k+1:Nat):Int)).toNat=k+1:=by omega
  have n3:IntKind.u8.wrap ((k+1:Nat):Int)=(k:Int)+1:=by rw [Qas _ (by simp [IntKind.min,IntKind.signed]; omega) (by simp [IntKind.max,IntKind.signed,IntKind.bits]; omega)]; push_cast; rfl
  simp -implicitDefEqProofs (disch:=omega) only [go_sem,↓reduceIte,reduceCtorEq,rA,rq,rL,n1,n2,n3,hl,hg,show (k+1) * 9≤585 by omega,show k+1<66 by omega]
  refine Qbe hT QeU cn (by simp [Qb,Qd]) 3 fun v hv=>?_
  subst hv
  refine ya ?_
  iterate 14 (try (refine Qa 3 ?_; simp -implicitDefEqProofs (disch:=omega) only [go_sem,↓reduceIte,reduceCtorEq,rA,rq,rL,g0a,g0b,g0c]))
  have oc:(Value.pointer none).oneCell'=true:=rfl
  have co:∀ a:Nat,a≤31→Pure Tryz.prog G0 Qf9 [.agg [.int .i64 a,.int .i64 5],.int .u32 w] fun v=>v=.int .u32 (fld w a 5):=fun a ha=>c_of (G:=G0) hT w a 5 ⟨h0,h1⟩ ha (by omega)
  have wz:∀ i:Nat,i<3→IntKind.i64.wrap ((i:Int)+1)=((i+1:Nat):Int):=fun i hi=>QfB hi (by omega)
  refine QmK (fun n fr σ=>∃ i t3,i≤3∧n=3 - i∧Ql fr 1=.ptr 0 t 0∧Ql fr 2=.ptr 1 (t+1) 0∧Ql fr 3=.int .i64 0∧Ql fr 7=.ptr 4 (t2+1) 0∧Ql fr 45=.sl 5 (t2+1+1) 0 4 3 none∧Ql fr 46=.int .i64 ((3:Nat):Int)∧Ql fr 47=.int .i64 i ∧
   σ=⟨t3,dH tb (Qoa r) t t2 (Zt r.form) (Qao r.form) (QaO r.form) w ((k:Int)+1) (if 1≤i then (if Zt r.form then fld w 7 5 else 0) else 0) (if 2≤i then (if Qao r.form then fld w 15 5 else 0) else 0) (if 3≤i then (if QaO r.form then fld w 20 5 else 0) else 0) (number w r.form)⟩)
   (fun n fr σ hJ=>?_) (m0:=3) ⟨0,t2+1+1+1,by omega,rfl,?_⟩
  ·obtain ⟨i,t3,hi,rfl,f1,f2,f3,f7,f45,f46,f47,rfl⟩:=hJ
   refine Qg 3 ?_
   have hcase:i=0∨i=1∨i=2∨i=3:=by omega
   rcases hcase with rfl | rfl | rfl | rfl
   ·-- round 0
    cases hA:Zt r.form with
    | true =>
      simp -implicitDefEqProofs (disch:=omega) only [go_sem,↓reduceIte,rL,Nat.reduceSub,dH,f46,f47]
      iterate 12 (try (refine Qa 3 ?_; simp -implicitDefEqProofs (disch:=omega) only [go_sem,↓reduceIte,reduceCtorEq,rA,rq,rL,oc,f1,f45,f47]))
      refine Qbe hT Qbn (co 7 (by omega)) rfl 3 fun v hv=>?_
      subst hv
      simp -implicitDefEqProofs (disch:=omega) only [go_sem,↓reduceIte,rA,rq,rL,Qmo]
      iterate 12 (try (refine Qa 3 ?_; simp -implicitDefEqProofs (disch:=omega) only [go_sem,↓reduceIte,rq,f47]))
      refine ⟨3 - 1,_,_,by omega,Shift.drop (o':=dH tb (Qoa r) t t2 (Zt r.form) (Qao r.form) (QaO r.form) w ((k:Int)+1) (if Zt r.form then fld w 7 5 else 0) 0 0 (number w r.form)) (t':=t3+1) (by simp [XT,dH,hA]) (lR _) (zL _),1,t3+1,by omega,rfl,?_⟩
      simp -implicitDefEqProofs (disch:=omega) only [go_sem,↓reduceIte,rq,rL,f1,f2,f3,f7,f45,f46,wz]
      simp [hA,dH]
    | false =>
      simp -implicitDefEqProofs (disch:=omega) only [go_sem,↓reduceIte,rL,Nat.reduceSub,dH,f46,f47]
      iterate 12 (try (refine Qa 3 ?_; simp -implicitDefEqProofs (disch:=omega) only [go_sem,↓reduceIte,reduceCtorEq,rA,rq,rL,oc,f45,f47]))
      refine ⟨3 - 1,_,_,by omega,Shift.drop (o':=dH tb (Qoa r) t t2 (Zt r.form) (Qao r.form) (QaO r.form) w ((k:Int)+1) (if Zt r.form then fld w 7 5 else 0) 0 0 (number w r.form)) (t':=t3+1) (by simp [XT,dH,hA]) (lR _) (zL _),1,t3+1,by omega,rfl,?_⟩
      simp -implicitDefEqProofs (disch:=omega) only [go_sem,↓reduceIte,rq,rL,f1,f2,f3,f7,f45,f46,wz]
      simp [hA,dH]
   ·-- round 1
    cases hA:Qao r.form with
    | true =>
      simp -implicitDefEqProofs (disch:=omega) only [go_sem,↓reduceIte,rL,Nat.reduceSub,dH,f46,f47]
      iterate 12 (try (refine Qa 3 ?_; simp -implicitDefEqProofs (disch:=omega) only [go_sem,↓reduceIte,reduceCtorEq,rA,rq,rL,oc,f1,f45,f47]))
      refine Qbe hT Qbn (co 15 (by omega)) rfl 3 fun v hv=>?_
      subst hv
      simp -implicitDefEqProofs (disch:=omega) only [go_sem,↓reduceIte,rA,rq,rL,Qmo]
      iterate 12 (try (refine Qa 3 ?_; simp -implicitDefEqProofs (disch:=omega) only [go_sem,↓reduceIte,rq,f47]))
      refine ⟨3 - 2,_,_,by omega,Shift.drop (o':=dH tb (Qoa r) t t2 (Zt r.form) (Qao r.form) (QaO r.form) w ((k:Int)+1) (if Zt r.form then fld w 7 5 else 0) (if Qao r.form then fld w 15 5 else 0) 0 (number w r.form)) (t':=t3+1) (by simp [XT,dH,hA]) (lR _) (zL _),2,t3+1,by omega,rfl,?_⟩
      simp -implicitDefEqProofs (disch:=omega) only [go_sem,↓reduceIte,rA,rq,rL,f1,f2,f3,f7,f45,f46,wz]
      simp [hA,dH]
    | false =>
      simp -implicitDefEqProofs (disch:=omega) only [go_sem,↓reduceIte,rL,Nat.reduceSub,dH,f46,f47]
      iterate 12 (try (refine Qa 3 ?_; simp -implicitDefEqProofs (disch:=omega) only [go_sem,↓reduceIte,reduceCtorEq,rA,rq,rL,oc,f45,f47]))
      refine ⟨3 - 2,_,_,by omega,Shift.drop (o':=dH tb (Qoa r) t t2 (Zt r.form) (Qao r.form) (QaO r.form) w ((k:Int)+1) (if Zt r.form then fld w 7 5 else 0) (if Qao r.form then fld w 15 5 else 0) 0 (number w r.form)) (t':=t3+1) (by simp [XT,dH,hA]) (lR _) (zL _),2,t3+1,by omega,rfl,?_⟩
      simp -implicitDefEqProofs (disch:=omega) only [go_sem,↓reduceIte,rA,rq,rL,f1,f2,f3,f7,f45,f46,wz]
      simp [hA,dH]
   ·-- round 2
    cases hA:QaO r.form with
    | true =>
      simp -implicitDefEqProofs (disch:=omega) only [go_sem,↓reduceIte,rL,rT,Nat.reduceSub,dH,f46,f47]
      iterate 12 (try (refine Qa 3 ?_; simp -implicitDefEqProofs (disch:=omega) only [go_sem,↓reduceIte,reduceCtorEq,rA,rq,rL,rT,Nat.reduceMul,oc,f1,f45,f47]))
      refine Qbe hT Qbn (co 20 (by omega)) rfl 3 fun v hv=>?_
      subst hv
      simp -implicitDefEqProofs (disch:=omega) only [go_sem,↓reduceIte,rA,rq,rL,Qmo]
      iterate 12 (try (refine Qa 3 ?_; simp -implicitDefEqProofs (disch:=omega) only [go_sem,↓reduceIte,rq,f47]))
      refine ⟨3 - 3,_,_,by omega,Shift.drop (o':=dH tb (Qoa r) t t2 (Zt r.form) (Qao r.form) (QaO r.form) w ((k:Int)+1) (if Zt r.form then fld w 7 5 else 0) (if Qao r.form then fld w 15 5 else 0) (if QaO r.form then fld w 20 5 else 0) (number w r.form)) (t':=t3+1) (by simp [XT,dH,hA]) (lR _) (zL _),3,t3+1,by omega,rfl,?_⟩
      simp -implicitDefEqProofs (disch:=omega) only [go_sem,↓reduceIte,rA,rq,rL,f1,f2,f3,f7,f45,f46,wz]
      simp [hA,dH]
    | false =>
      simp -implicitDefEqProofs (disch:=omega) only [go_sem,↓reduceIte,rL,rT,Nat.reduceSub,dH,f46,f47]
      iterate 12 (try (refine Qa 3 ?_; simp -implicitDefEqProofs (disch:=omega) only [go_sem,↓reduceIte,reduceCtorEq,rA,rq,rL,rT,Nat.reduceMul,oc,f45,f47]))
      refine ⟨3 - 3,_,_,by omega,Shift.drop (o':=dH tb (Qoa r) t t2 (Zt r.form) (Qao r.form) (QaO r.form) w ((k:Int)+1) (if Zt r.form then fld w 7 5 else 0) (if Qao r.form then fld w 15 5 else 0) (if QaO r.form then fld w 20 5 else 0) (number w r.form)) (t':=t3+1) (by simp [XT,dH,hA]) (lR _) (zL _),3,t3+1,by omega,rfl,?_⟩
      simp -implicitDefEqProofs (disch:=omega) only [go_sem,↓reduceIte,rA,rq,rL,f1,f2,f3,f7,f45,f46,wz]
      simp [hA,dH]
   ·simp -implicitDefEqProofs (disch:=omega) only [go_sem,↓reduceIte,rL,Nat.reduceSub,f47,f46,Nat.lt_irrefl]
    iterate 6 (try (refine Qa 3 ?_; simp -implicitDefEqProofs (disch:=omega) only [go_sem,↓reduceIte,reduceCtorEq,rA,rq,dH,f2,f7]))
    rw [hfi]; rfl
  ·rw [hrc]
   simp -implicitDefEqProofs (disch:=omega) only [go_sem,↓reduceIte,reduceCtorEq,rq,rL,dH]
   rfl
end
end Go.Proofs.YtbdhjeojcpgblaaGreatDoor
namespace Go.Proofs.YtbdhjeojcpgblaaGreatDoor
open Go Go.Am Go.Rv Go.Rg
set_option maxRecDepth 100000
set_option maxHeartbeats 1000000
section
attribute [local go_sem] nF nT cA lM nA lR zA zL V.cells and_true bne_self_eq_false Xs decide_true false_implies Qu QqZ QqY QyL QyK QyJ QyI QyH Xe true_and true_implies
theorem take6 (a b c d e f g:Option Ob):XT [a,b,c,d,e,f] [a,b,c,d,e,f,g]:=Z7 6 [a,b,c,d,e,f,g]
def QuE:Int→V:=fun _=>.int .i64 1
def QqB (ws:List Int) (i:Nat):List Int:=((List.range i).filter fun j=>(ws[j]?.bind dec).isNone).map fun j:Nat=>(j:Int)
theorem Qyo (ws:List Int) (i:Nat):(QqB ws i).Nodup:=by
 unfold QqB List.Nodup
 rw [List.pairwise_map]
 exact (List.nodup_range.filter _).imp fun h e=>h (by omega)
theorem QGd (ws:List Int) (i:Nat):(i:Int) ∉ QqB ws i:=fun h=>by
 unfold QqB at h
 obtain ⟨j,hj,e⟩:=List.mem_map.1 h
 have:=(List.mem_filter.1 hj).1
 rw [List.mem_range] at this
 omega
variable {w:Int} {i:Nat} {ws:List Int}
theorem QDI (h:ws[i]?=some w):QqB ws (i+1)=QqB ws i++if (dec w).isNone then [(i:Int)] else []:=by
 unfold QqB
 rw [List.range_succ,List.filter_append,List.map_append]
 congr 1
 simp only [List.filter_cons,List.filter_nil,h,Option.bind_some]
 split <;> rfl
theorem Qwu {j:Nat}:(j:Int)∈QqB ws i↔j<i∧(ws[j]?.bind dec).isNone:=by
 unfold QqB
 simp only [List.mem_map,List.mem_filter,List.mem_range]
 constructor
 ·rintro ⟨k,hk,e⟩
  rw [show j=k by omega]; exact hk
 ·exact fun h=>⟨j,h,rfl⟩
def Qd2 (c:List In):List V:=(c.map inC).flatten
theorem Qxo (c:List In) (x:In):Qd2 (c++[x])=Qd2 c++inC x:=by simp [Qd2]
theorem QrG (c:List In):(Qd2 c).length=5 * c.length:=by
 induction c with
 | nil=>rfl
 | cons x c ih =>
   show (inC x++Qd2 c).length=_
   rw [lA,ih,lC]
   simp [inC]; omega
def rcC (m:Im) (nm:List UInt8) (pl:Int) (w i:Nat):List V:=[.int .i64 m.data,Xe m.syms,Xs m.code,.str nm,.int .i64 pl,.sl 5 w 0 5 i none,.int .i64 0,.lst 0 [] true]
abbrev rwJ (m:Im) (nm:List UInt8) (pl:Int) (ws:List Int) (n v1 v2 vr vm:Nat) (X1 X2:Option Ob):Nat→Fr→H→Prop:=fun i fr σ=>∃ t w,Ql fr 1=.int .i64 ((n:Nat):Int)∧Ql fr 4=.ptr 1 v1 0∧Ql fr 5=.ptr 2 v2 0∧Ql fr 8=.ptr 3 vr 0∧Ql fr 9=.mp 4 vm∧Ql fr 40=Xs ws∧Ql fr 41=.int .i64 ws.length∧Ql fr 42=.int .i64 ((i:Nat):Int)∧σ=⟨t,[none,X1,X2,some (.arr vr 132 (rcC m nm pl w i)),some (.map vm (km kI QuE (QqB ws i))),some (.arr w 70 (Qd2 ((codeOf ws).take i)))]⟩
abbrev rwE (m:Im) (nm:List UInt8) (pl:Int) (ws:List Int) (n v1 v2 vr vm:Nat) (X1 X2:Option Ob):AE→Fr→H→Prop:=fun e fr σ=>∃ t w,e=.ex 0∧Ql fr 1=.int .i64 ((n:Nat):Int)∧Ql fr 4=.ptr 1 v1 0∧Ql fr 5=.ptr 2 v2 0∧Ql fr 8=.ptr 3 vr 0∧Ql fr 9=.mp 4 vm∧σ=⟨t,[none,X1,X2,some (.arr vr 132 (rcC m nm pl w ws.length)),some (.map vm (km kI QuE (QqB ws ws.length))),some (.arr w 70 (Qd2 (codeOf ws)))]⟩
theorem QEG (hT:Qf Tryz.prog tab) {m:Im} {nm:List UInt8} {pl:Int} {n v1 v2 vr vm:Nat} {X1 X2:Option Ob} (hw:∀ w∈ws,0≤w∧w<4294967296) (hl:ws.length≤1000000) (hx:ws[i]?=some w) {fr:Fr} {σ:H} (hJ:rwJ m nm pl ws n v1 v2 vr vm X1 X2 i fr σ) :
 W Tryz.prog G0 124 0 (zg QyL [] (.seq (zw 43 .skip (.exit 0)) (.seq (.block 1 (zg QyK [44,45,46] (zg QyJ [48,49,47,50,51] (.seq (zg QyI [52] (zw 53 (.reg QyH [54,55,56]) .skip)) (.reg QqZ [57,58,59,60,61,62,63,64,65,66,67,68]))))) (.reg QqY [69])))) fr σ (QgX (fun fr σ=>∃ fr' σ',Shift G0 124 0 fr σ fr' σ'∧rwJ m nm pl ws n v1 v2 vr vm X1 X2 (i+1) fr' σ') (rwE m nm pl ws n v1 v2 vr vm X1 X2)):=by
 obtain ⟨t,wv,f1,f4,f5,f8,f9,f40,f41,f42,rfl⟩:=hJ
 have hlt:=(List.getElem?_eq_some_iff.1 hx).1
 have hD:(ws.map (V.int .u32)).getD i V.any=.int .u32 w:=by simp [List.getD_eq_getElem?_getD,hx]
 have e2:=Qe9 hlt (by omega)
 have hwb:=hw w (List.mem_of_getElem? hx)
 have hDec:=QF6 hT w hwb.1 hwb.2
 have hbs:=QDI hx
 have hct:(codeOf ws).take (i+1)=(codeOf ws).take i++[(dec w).getD Qpr]:=by
  rw [List.take_add_one]; congr 1; unfold codeOf; simp [hx]
 have hrl:(Qd2 ((codeOf ws).take i)).length=5 * i:=by
  rw [QrG,List.length_take]; unfold codeOf; rw [lM]; omega
 have hk:∀ f S,Qan false [Kd.i] (V.int .i64 (i:Int)) (km kI f S)=True:=fun f S=>eq_true (Qp4 (i:Int) f S)
 have hnl:Qd (V.int .i64 (i:Int))=true:=rfl
 have hp:=Qm8 (ks:=[Kd.i]) (key:=kI) QFj QuE (i:Int) (.int .i64 1) (QqB ws i) (Qyo ws i)
 rw [show Qxy QuE (i:Int) (.int .i64 1)=QuE from funext fun b=>by simp [Qxy,QuE],QwC,if_neg (QGd ws i)] at hp
 simp only [kI] at hp
 have hsnoc:=Qxo ((codeOf ws).take i) ((dec w).getD Qpr)
 rw [← hct] at hsnoc
 have hcl:i+1≤9223372036854775807:=by omega
 unfold dec at hbs hsnoc
 generalize first w 0 T=d at *
 generalize QqB ws i=B0 at *
 generalize Qd2 ((codeOf ws).take i)=R0 at *
 cases d with
 | some x =>
   simp only [errT,inC] at hDec
   simp only [Option.isNone_some,Bool.false_eq_true,if_false,List.append_nil,Option.getD_some,inC] at hbs hsnoc
   refine Qt [(1,.int .i64 ((n:Nat):Int)),(4,.ptr 1 v1 0),(5,.ptr 2 v2 0),(8,.ptr 3 vr 0),(9,.mp 4 vm),(40,Xs ws),(41,.int .i64 ws.length),(42,.int .i64 ((i:Nat):Int))] ⟨f1,f4,f5,f8,f9,f40,f41,f42,trivial⟩  12 ?_
   simp -implicitDefEqProofs (disch:=omega) only [go_sem,↓reduceIte,rq,rcC,hlt]
   iterate 3 (try (refine Qa 4 ?_; simp -implicitDefEqProofs (disch:=omega) only [go_sem,↓reduceIte,rq,hlt,hD]))
   refine Qj hT Qhy hDec rfl 12 ?_
   refine ya ?_
   iterate 9 (try (refine Qa 9 ?_; simp -implicitDefEqProofs (disch:=omega) only [go_sem,↓reduceIte,reduceCtorEq,rA,rq,rL,hrl]))
   refine ⟨_,_,Shift.drop (o':=[none,X1,X2,some (.arr vr 132 (rcC m nm pl (t+1) (i+1))),some (.map vm (km kI QuE (QqB ws (i+1)))),some (.arr (t+1) 70 (Qd2 ((codeOf ws).take (i+1))))]) (t':=t+1+1) (by rw [hbs,hsnoc]; exact take6 _ _ _ _ _ _ _) (lR _) (zL _),t+1+1,t+1,?_⟩
   simp -implicitDefEqProofs (disch:=omega) only [go_sem,↓reduceIte,rq,rcC,e2]
   try simp
 | none =>
   simp only [errT,inC] at hDec
   simp only [Option.isNone_none,if_true,Option.getD_none,inC,Qpr] at hbs hsnoc
   refine Qt [(1,.int .i64 ((n:Nat):Int)),(4,.ptr 1 v1 0),(5,.ptr 2 v2 0),(8,.ptr 3 vr 0),(9,.mp 4 vm),(40,Xs ws),(41,.int .i64 ws.length),(42,.int .i64 ((i:Nat):Int))] ⟨f1,f4,f5,f8,f9,f40,f41,f42,trivial⟩  12 ?_
   simp -implicitDefEqProofs (disch:=omega) only [go_sem,↓reduceIte,rq,rcC,hlt]
   iterate 3 (try (refine Qa 4 ?_; simp -implicitDefEqProofs (disch:=omega) only [go_sem,↓reduceIte,rq,hlt,hD]))
   refine Qj hT Qhy hDec rfl 12 ?_
   simp -implicitDefEqProofs (disch:=omega) only [go_sem,↓reduceIte,rA,rq,rT,Int.reduceBNe]
   iterate 9 (try (refine Qa 9 ?_; simp -implicitDefEqProofs (disch:=omega) only [go_sem,↓reduceIte,reduceCtorEq,rA,rq,rL,hrl,hk,hp,hnl]))
   refine ⟨_,_,Shift.drop (o':=[none,X1,X2,some (.arr vr 132 (rcC m nm pl (t+1) (i+1))),some (.map vm (km kI QuE (QqB ws (i+1)))),some (.arr (t+1) 70 (Qd2 ((codeOf ws).take (i+1))))]) (t':=t+1+1) (by rw [hbs,hsnoc]; exact take6 _ _ _ _ _ _ _) (lR _) (zL _),t+1+1,t+1,?_⟩
   simp -implicitDefEqProofs (disch:=omega) only [go_sem,↓reduceIte,rq,rcC,e2]
   try simp
end
section
attribute [local go_sem] nF nT cA lM nA aZ lR Nat.mul_one Nat.one_mul Nat.succ_ne_zero zA zL Nat.zero_mul Option.getD_none Option.getD_some Option.isSome_none Option.isSome_some V.cells and_true beq_self_eq_true bne_self_eq_false Xs decide_false decide_true false_implies ge_iff_le gt_iff_lt inC Y9 Qu not_false_eq_true not_true_eq_false rd6 rdC Qak QQC QQB QqZ QqY QyP QyO QvY QvX QvW QvV QvU QvT QQA QvS QvR QyN QyM QQz QQy QyL QyK QyJ QyI QyH Xe true_and true_implies
def zF:List V:=[.str [],.int .i64 0,.lst 0 [] true,.int .i64 0,.lst 0 [] true]
def flt (n i e:Int):List V:=[.int .i64 n,.int .i64 i,.int .i64 e]
variable {i:Nat} {ws:List Int} {pl F w:Int}
theorem Qsh {al:List Int} {c:List In} (h:ws[i]?=some w):YY al pl c F i (ws.drop i)=match dec w with
 | none=>some (i,220)
 | some x=>if YG al pl c F i x≠0 then some (i,YG al pl c F i x) else YY al pl c F (i+1) (ws.drop (i+1)):=by
 have hl:=(List.getElem?_eq_some_iff.1 h).1
 rw [List.drop_eq_getElem_cons hl,(List.getElem?_eq_some_iff.1 h).2]
 rfl
abbrev fH (m:Im) (nm:List UInt8) (pl:Int) (c:List In) (F:Int) (ws:List Int) (v1 v2 vr vm:Nat):List (Option Ob):=rd6 m nm pl c F vr (some (.arr v1 46 zF)) (some (.arr v2 29 (flt 0 0 0))) (some (.map vm (km kI QuE (QqB ws ws.length))))
abbrev flJ (m:Im) (nm:List UInt8) (pl:Int) (c:List In) (F:Int) (ws:List Int) (n v1 v2 vr vm:Nat):Nat→Fr→H→Prop:=fun i fr σ=>∃ t,YY (ats m) pl c F 0 ws=YY (ats m) pl c F i (ws.drop i)∧Ql fr 1=.int .i64 ((n:Nat):Int)∧Ql fr 4=.ptr 1 v1 0∧Ql fr 5=.ptr 2 v2 0∧Ql fr 8=.ptr 3 vr 0∧Ql fr 9=.mp 4 vm∧Ql fr 87=.int .i64 c.length∧Ql fr 88=.int .i64 ((i:Nat):Int)∧σ=⟨t,fH m nm pl c F ws v1 v2 vr vm⟩
abbrev flE (m:Im) (nm:List UInt8) (pl:Int) (c:List In) (F:Int) (ws:List Int) (n v1 v2 vr vm:Nat):AE→Fr→H→Prop:=fun e fr σ =>
 (e=.ret∧Ql fr 4=.ptr 1 v1 0∧Ql fr 5=.ptr 2 v2 0∧∃ (i:Nat) (er:Int) (t:Nat) (X3 X4:Option Ob),YY (ats m) pl c F 0 ws=some (i,er)∧σ=⟨t,[none,some (.arr v1 46 zF),some (.arr v2 29 (flt n i er)),X3,X4,none]⟩) ∨
 (e=.ex 2∧YY (ats m) pl c F 0 ws=none∧Ql fr 1=.int .i64 ((n:Nat):Int)∧Ql fr 4=.ptr 1 v1 0∧Ql fr 5=.ptr 2 v2 0∧Ql fr 8=.ptr 3 vr 0∧∃ t,σ=⟨t,fH m nm pl c F ws v1 v2 vr vm⟩)
theorem QFy (hT:Qf Tryz.prog tab) {m:Im} {nm:List UInt8} {n v1 v2 vr vm:Nat} (hw:∀ w∈ws,0≤w∧w<4294967296) (hl:ws.length≤262144) (hs:m.syms.length≤1000) (hpl:0≤pl∧pl≤1099511627776) (hx:ws[i]?=some w) {fr:Fr} {σ:H} (hJ:flJ m nm pl (codeOf ws) F ws n v1 v2 vr vm i fr σ) :
 W Tryz.prog G0 124 0 (zg QvY [] (.seq (zw 89 .skip (.exit 2)) (.seq (.block 3 (zg QvX [90] (.seq (zg QvW [91,92,93] (zw 94 (zg QvV [95,96,97,98] .ret) .skip)) (zg QvU [99,100,101] (zg QvT [102] (zw 103 (zg QvS [104,105,106,107,108] .ret) .skip)))))) (.reg QvR [109])))) fr σ (QgX (fun fr σ=>∃ fr' σ',Shift G0 124 0 fr σ fr' σ'∧flJ m nm pl (codeOf ws) F ws n v1 v2 vr vm (i+1) fr' σ') (flE m nm pl (codeOf ws) F ws n v1 v2 vr vm)):=by
 obtain ⟨t,hf,f1,f4,f5,f8,f9,f87,f88,rfl⟩:=hJ
 have hlt:=(List.getElem?_eq_some_iff.1 hx).1
 have hcl:(codeOf ws).length=ws.length:=by simp [codeOf]
 have hltc:((i:Int)<((codeOf ws).length:Int))=True:=eq_true (by omega)
 have e2:=Qe9 hlt (by omega)
 have hwb:=hw w (List.mem_of_getElem? hx)
 have hfn:=Qsh (al:=ats m) (pl:=pl) (F:=F) (c:=codeOf ws) hx
 rw [← hf] at hfn
 have hg:=QjL (ks:=[Kd.i]) (key:=kI) QFj QuE (i:Int) (QqB ws ws.length)
 have hk:∀ f S,Qan false [Kd.i] (V.int .i64 (i:Int)) (km kI f S)=True:=fun f S=>eq_true (Qp4 (i:Int) f S)
 have hci:(codeOf ws)[i]?=some ((dec w).getD Qpr):=by simp [codeOf,hx]
 have hltn:i<(codeOf ws).length:=by omega
 cases hd:dec w with
 | none =>
   rw [hd] at hfn
   rw [if_pos (Qwu.2 ⟨hlt,by rw [hx]; simp [hd]⟩)] at hg
   simp only [kI,QuE] at hg
   refine Qt [(1,.int .i64 ((n:Nat):Int)),(4,.ptr 1 v1 0),(5,.ptr 2 v2 0),(8,.ptr 3 vr 0),(9,.mp 4 vm),(87,.int .i64 (codeOf ws).length),(88,.int .i64 ((i:Nat):Int))] ⟨f1,f4,f5,f8,f9,f87,f88,trivial⟩  60 ?_
   simp -implicitDefEqProofs (disch:=omega) only [go_sem,↓reduceIte,rA,rq,rL,Int.reduceLT,zF,flt,hltc,hg,hk]
   exact .inl ⟨rfl,rfl,rfl,i,220,t,_,_,hfn,rfl⟩
 | some x =>
   rw [hd] at hfn
   simp only at hfn
   rw [if_neg (fun h=>by have:=(Qwu.1 h).2; rw [hx] at this; simp [hd] at this)] at hg
   simp only [kI] at hg
   rw [hd] at hci
   obtain ⟨d1,d2⟩:=QQi hwb.1 hd
   have hA:Ask m pl (codeOf ws) i x:=⟨hci,by omega,hs,⟨d1.1,d1.2.1,d1.2.2.1,d1.2.2.2,by unfold i64; omega⟩,by omega,hpl⟩
   have hF:=QS7 hT (nm:=nm) (F:=F) (vr:=vr) (t:=t) (X1:=some (.arr v1 46 zF)) (X2:=some (.arr v2 29 (flt 0 0 0))) (X4:=some (.map vm (km kI QuE (QqB ws ws.length)))) hA
   simp only [rd6,rdC,zF,flt,Y9,Xe,Xs,inC] at hF
   generalize YG (ats m) pl (codeOf ws) F i x=er at *
   refine Qt [(1,.int .i64 ((n:Nat):Int)),(4,.ptr 1 v1 0),(5,.ptr 2 v2 0),(8,.ptr 3 vr 0),(9,.mp 4 vm),(87,.int .i64 (codeOf ws).length),(88,.int .i64 ((i:Nat):Int))] ⟨f1,f4,f5,f8,f9,f87,f88,trivial⟩  60 ?_
   simp -implicitDefEqProofs (disch:=omega) only [go_sem,↓reduceIte,rq,Int.reduceLT,zF,flt,hltc,hg,hk]
   refine call hT QaU hF 40 fun v σ hv=>?_
   obtain ⟨rfl,t2,ht2,rfl⟩:=hv
   by_cases h0:er=0
   ·have h0':(er != 0)=false:=by simp [h0]
    rw [if_neg (by simpa using h0)] at hfn
    refine yj ?_
    iterate 4 (try (refine Qa 4 ?_; simp -implicitDefEqProofs (disch:=omega) only [go_sem,↓reduceIte,reduceCtorEq,rA,rq,rL,rT,Nat.reduceSub,Nat.reduceMul,Int.reduceToNat,Int.reduceLE,Int.reduceLT,Int.reduceEq,Int.reduceNe,Nat.reduceBEq,Nat.reduceBNe,zF,flt,Int.reduceBEq,Int.reduceBNe,h0']))
    refine ⟨_,_,Shift.refl _ _ _ _,t2,hfn,?_⟩
    simp -implicitDefEqProofs (disch:=omega) only [go_sem,↓reduceIte,rq,zF,flt,e2]
    try simp
   ·have h0':(er != 0)=true:=by simp [h0]
    rw [if_pos h0] at hfn
    refine yj ?_
    iterate 4 (try (refine Qa 4 ?_; simp -implicitDefEqProofs (disch:=omega) only [go_sem,↓reduceIte,reduceCtorEq,rA,rq,rL,rT,Nat.reduceSub,Nat.reduceMul,Int.reduceToNat,Int.reduceLE,Int.reduceLT,Int.reduceEq,Int.reduceNe,Nat.reduceBEq,Nat.reduceBNe,zF,flt,Int.reduceBEq,Int.reduceBNe,h0']))
    exact .inl ⟨rfl,rfl,rfl,i,er,t2,_,_,hfn,rfl⟩
end
section
attribute [local go_sem] nF cA lM nA aZ lR Nat.succ_ne_zero zA zL V.cells and_true Xs decide_false false_implies flt QbF QhI inC Y9 Qu not_false_eq_true Qak QQC QQB QqZ QqY QyP QyO QvY QvX QvW QvV QvU QvT QQA QvS QvR QyN QyM QQz QQy QyL QyK QyJ QyI QyH Xe true_and true_implies zF
theorem chunk5 (c:List In):Za 5 c.length (Qd2 c)=c.map fun x=>V.agg (inC x):=by
 induction c with
 | nil=>rfl
 | cons x c ih =>
   show Za 5 (c.length+1) (inC x++Qd2 c)=_
   unfold Za
   rw [List.map_cons,← ih]
   rfl
def Qxp (n:Nat):Rg.Fn ⊕ (Nat × Int)→V
 | .inl f=>.tup [.agg (fnC f.name f.pl f.code f.frame f.cuts),.agg (flt 0 0 0)]
 | .inr e=>.tup [.agg (fnC [] 0 [] 0 []),.agg (flt n e.1 e.2)]
theorem wk_zF:Wk (.agg zF) (.agg (fnC [] 0 [] 0 [])) :=
 .agg _ _ (.cons _ _ _ _ (.refl _) (.cons _ _ _ _ (.refl _) (.cons _ _ _ _ (.lst 0 5 [] [] true .nil (.inl rfl)) (.cons _ _ _ _ (.refl _) (.cons _ _ _ _ (.lst 0 1 [] [] true .nil (.inl rfl)) .nil)))))
theorem QEK (c:List In):Qb (Qd2 c)=true:=by
 induction c with
 | nil=>rfl
 | cons x c ih =>
   show Qb (inC x++Qd2 c)=true
   rw [XP,ih]; rfl
variable {s:List UInt8 × Int} {n:Nat}
theorem QS3 (hT:Qf Tryz.prog tab) (m:Im) (hm:ImB m) (hr:right m=true) (hw:∀ w∈m.code,0≤w∧w<4294967296) (hl:m.code.length≤262144) (hs:m.syms[n]?=some s) :
 Am.Pure Tryz.prog G0 QdB [QhI m,.int .i64 (n:Int)] fun v=>Wk v (Qxp n (Qis (ats m) s.1 s.2 (words m n))):=by
 intro t
 have hB:=QF7 (P:=Tryz.prog) (G:=G0) hT m hm hr hs
 have hlt:=(List.getElem?_eq_some_iff.1 hs).1
 have hD:=QvN hs
 obtain ⟨a,b,ef,et,hab,hbl,es,ew⟩:=(Qwi hr).bounds hs
 have hsl:=hm.s
 have hnl:=QPW m
 rw [ef,et] at hB
 have w1:IntKind.i64.wrap ((4 * (a:Int)).tdiv 4)=(a:Int):=by
  rw [Int.mul_tdiv_cancel_left _ (by decide),Yz (by omega)]
 have w2:IntKind.i64.wrap ((4 * (b:Int)).tdiv 4)=(b:Int):=by
  rw [Int.mul_tdiv_cancel_left _ (by decide),Yz (by omega)]
 have hdt:List.take (b - a) (List.drop a (m.code.map (V.int .u32)))=(words m n).map (V.int .u32):=by rw [ew]; simp [List.map_take,List.map_drop]
 have hwl:(words m n).length=b - a:=by rw [ew]; simp; omega
 have hwb:∀ w∈words m n,0≤w∧w<4294967296:=fun w h=>by
  rw [ew] at h
  exact hw w (List.mem_of_mem_drop (List.mem_of_mem_take h))
 generalize words m n=ws at *
 simp only [QhI,QbF,Xe,Xs] at hB hnl
 simp only [Qn8] at hD
 refine Qi 0 (zL _) (Qk hT Qdw (by simp [Qak]) (Qg 6 ?_))
 refine ya ?_
 refine Xr (Shift.freeze (k:=0) (v:=t) (T:=25) (cs:=QbF m) (zL _) rfl (QjP m)) ?_
 simp only [QbF,Xe,Xs,Qr,Qv,Qp9,XR,QN,Ob.mapV,List.set_cons_zero,Option.map_some,Option.map_none,List.map_cons,List.map_nil]
 refine Qa 9 ?_
 refine ya ?_
 refine Qj hT Qhf hB (by simp [Qb,Qd]) 26 ?_
 simp -implicitDefEqProofs (disch:=omega) only [go_sem,↓reduceIte,reduceCtorEq,rA,rq,rL,rT,hlt,hD]
 refine Xr (HShift.shift (HShift.ownAt 5 70 (base:=0) (k:=3) (v:=t+1+1+1) (T':=132) (p:=5) (z:=0) (cs:=[.int .i64 m.data,.lst 2 (m.syms.map Qn8) false,.lst 1 (m.code.map (V.int .u32)) false,.str s.1,.int .i64 (4 * (a:Int)),.lst 0 [] true,.int .i64 0,.lst 0 [] true]) (zL _) rfl rfl)) ?_
 simp only [List.set_cons_succ,List.set_cons_zero,lC,lN,cA,nA]
 have ha0:¬ ((a:Int)<0):=by omega
 have hab':((a:Int)≤(b:Int))=True:=eq_true (by omega)
 have hab'':(a≤b)=True:=eq_true (by omega)
 have h0a:((0:Int)≤(a:Int))=True:=eq_true (by omega)
 have hbl':(b≤m.code.length)=True:=eq_true hbl
 refine Qa 14 ?_
 simp -implicitDefEqProofs (disch:=omega) only [go_sem,↓reduceIte,reduceCtorEq,rA,rq,Int.reduceEq,w1,w2,hdt,hab',h0a,hbl',Int.toNat_natCast]
 generalize t+1=v1
 generalize v1+1=v2
 generalize v2+1=vr
 generalize vr+1=vm
 refine ZJ ws (rwJ m s.1 (4 * (a:Int)) ws n v1 v2 vr vm (some (.arr v1 46 zF)) (some (.arr v2 29 (flt 0 0 0)))) (rwE m s.1 (4 * (a:Int)) ws n v1 v2 vr vm (some (.arr v1 46 zF)) (some (.arr v2 29 (flt 0 0 0)))) ⟨vm+1+1,vm+1,?_⟩ (fun i w hx fr σ hJ=>QEG hT hwb (by omega) hx hJ) (fun i hi fr σ hJ=>?_) (fun e fr σ hE=>?_)
 ·refine ya ?_
  simp [rcC,Xe,Xs,QqB,km,Qd2]
 ·obtain ⟨t2,wv,f1,f4,f5,f8,f9,f40,f41,f42,rfl⟩:=hJ
  have hcl:(codeOf ws).take i=codeOf ws:=List.take_of_length_le (by simp [codeOf,hi])
  rw [hcl]
  refine Qt [(1,.int .i64 ((n:Nat):Int)),(4,.ptr 1 v1 0),(5,.ptr 2 v2 0),(8,.ptr 3 vr 0),(9,.mp 4 vm),(40,Xs ws),(41,.int .i64 ws.length),(42,.int .i64 ((i:Nat):Int))] ⟨f1,f4,f5,f8,f9,f40,f41,f42,trivial⟩  12 ?_
  refine yi ?_
  exact ⟨t2,wv,rfl,rfl,rfl,rfl,rfl,rfl,rfl⟩
 obtain ⟨t2,wv,rfl,f1,f4,f5,f8,f9,rfl⟩:=hE
 have hcl:(codeOf ws).length=ws.length:=by simp [codeOf]
 refine QrA [(1,.int .i64 ((n:Nat):Int)),(4,.ptr 1 v1 0),(5,.ptr 2 v2 0),(8,.ptr 3 vr 0),(9,.mp 4 vm)] ⟨f1,f4,f5,f8,f9,trivial⟩ ?_
 refine Xr (Shift.freeze (k:=5) (v:=wv) (T:=70) (cs:=Qd2 (codeOf ws)) (zL _) rfl (QEK _)) ?_
 have hfz:XR 5 wv (Qd2 (codeOf ws)) (.sl 5 wv 0 5 ws.length none)=Y9 (codeOf ws):=by
  have hle:(codeOf ws).length * 5≤(Qd2 (codeOf ws)).length:=by rw [QrG]; omega
  simp [XR,Qd1,Y9,← hcl,chunk5,hle]
 have hfk:∀ S,(km kI QuE S).map (fun p=>(p.1,XR 5 wv (Qd2 (codeOf ws)) p.2))=km kI QuE S:=fun S=>by
  simp [km,kI,XR,QuE]
 have n15:((1:Nat)=5)=False:=eq_false (by decide)
 have n25:((2:Nat)=5)=False:=eq_false (by decide)
 have n35:((3:Nat)=5)=False:=eq_false (by decide)
 simp only [Qr,Qv,QN,List.set_cons_succ,List.set_cons_zero,Option.map_some,Option.map_none,Ob.mapV,rcC,zF,flt,Xe,Xs,List.map_cons,List.map_nil,hfz]
 simp only [XR,n15,n25,n35,false_and,if_false,hfk]
 obtain ⟨x0,hx0⟩:∃ x0,(codeOf ws)[0]?=some x0:=⟨_,List.getElem?_eq_getElem (by omega)⟩
 have hx0m:=List.mem_of_getElem? hx0
 have hok:∀ x∈codeOf ws,QqN x∧(-8589934592≤x.imm∧x.imm≤8589934592):=fun x hx=>by
  obtain ⟨w,hw,rfl⟩:=List.mem_map.1 hx
  cases hd:dec w with
  | none=>simp [QqN,Qpr,i64]
  | some y =>
    obtain ⟨d1,d2⟩:=QQi (hwb w hw).1 hd
    exact ⟨⟨d1.1,d1.2.1,d1.2.2.1,d1.2.2.2,by show i64 y.imm; unfold i64; omega⟩,d2⟩
 have hFr:=QS6 (P:=Tryz.prog) (G:=G0) hT x0 (by have:=(hok x0 hx0m).2; omega)
 have hfc:QjS x0=frameC (codeOf ws):=by unfold frameC; rw [List.getD_eq_getElem?_getD,hx0]; rfl
 rw [hfc] at hFr
 have hD0:=QaI hx0
 have hl0:0<(codeOf ws).length:=by omega
 have hl0':((0:Int)<((codeOf ws).length:Int))=True:=eq_true (by omega)
 simp only [inC] at hFr hD0
 refine Qa 14 ?_
 simp -implicitDefEqProofs (disch:=omega) only [go_sem,↓reduceIte,reduceCtorEq,rA,rq,rL,Int.reduceToNat,Int.reduceLE,hD0,hl0]
 refine Qj hT QfI hFr rfl 30 ?_
 refine ya ?_
 have hrd:Qis (ats m) s.1 s.2 ws=match YY (ats m) (4 * (a:Int)) (codeOf ws) (frameC (codeOf ws)) 0 ws with | none=>.inl (QyG s.1 (4 * (a:Int)) ws) | some e=>.inr e:=by rw [← es]; rfl
 generalize hFF:frameC (codeOf ws)=F at *
 refine ZJ ws (flJ m s.1 (4 * (a:Int)) (codeOf ws) F ws n v1 v2 vr vm) (flE m s.1 (4 * (a:Int)) (codeOf ws) F ws n v1 v2 vr vm) ⟨t2,by simp,?_⟩ (fun i w hx fr σ hJ=>QFy hT hwb (by omega) (by omega) (by omega) hx hJ) (fun i hi fr σ hJ=>?_) (fun e fr σ hE=>?_)
 ·refine ya ?_
  simp [rd6,rdC,Xe,Xs,Y9,inC,zF,flt]
 ·obtain ⟨t3,hf,f1,f4,f5,f8,f9,f87,f88,rfl⟩:=hJ
  rw [hi,List.drop_length] at hf
  have hi':i=(codeOf ws).length:=by omega
  refine Qt [(1,.int .i64 ((n:Nat):Int)),(4,.ptr 1 v1 0),(5,.ptr 2 v2 0),(8,.ptr 3 vr 0),(9,.mp 4 vm),(87,.int .i64 (codeOf ws).length),(88,.int .i64 ((i:Nat):Int))] ⟨f1,f4,f5,f8,f9,f87,f88,trivial⟩  12 ?_
  simp -implicitDefEqProofs (disch:=omega) only [go_sem,↓reduceIte,rq,hi',Nat.lt_irrefl]
  exact .inr ⟨rfl,hf,rfl,rfl,rfl,rfl,t3,rfl⟩
 rcases hE with ⟨rfl,f4,f5,i,er,t3,X3,X4,hf,rfl⟩ | ⟨rfl,hf,f1,f4,f5,f8,t3,rfl⟩
 ·rw [hrd,hf]
  refine Qa 12 ?_
  simp -implicitDefEqProofs (disch:=omega) only [go_sem,↓reduceIte,reduceCtorEq,rA,rq,f4,f5]
  exact .tup _ _ (.cons _ _ _ _ wk_zF (.cons _ _ _ _ (.refl _) .nil))
 ·rw [hrd,hf]
  have hC:=Pure.args (.cons _ _ _ _ QRh .nil) (c_cuts (G:=G0) hT s.1 (4 * (a:Int)) F (codeOf ws) [] (by omega) fun x hx=>(hok x hx).1)
  simp only [fnN,Y9,inC,Xv] at hC
  refine Qcd [(1,.int .i64 ((n:Nat):Int)),(4,.ptr 1 v1 0),(5,.ptr 2 v2 0),(8,.ptr 3 vr 0)] ⟨f1,f4,f5,f8,trivial⟩ 60 ?_
  simp -implicitDefEqProofs (disch:=omega) only [go_sem,↓reduceIte,reduceCtorEq,rA,rq,rd6,rdC]
  have hfn:QyG s.1 (4 * (a:Int)) ws=⟨s.1,4 * (a:Int),codeOf ws,F,Rg.cuts (codeOf ws) F⟩:=by unfold QyG; rw [hFF]
  refine Qj hT Qcw hC (by simp [Qb,Qd]) 60 ?_
  refine ya ?_
  rw [hfn]
  exact .refl _
theorem QEM (n:Nat) (r:Rg.Fn ⊕ (Nat × Int)):Qd (Qxp n r)=true:=by
 cases r <;> simp [Qxp,Qd,Qb,Qld,flt]
theorem c_read (hT:Qf Tryz.prog tab) (m:Im) (hm:ImB m) (hr:right m=true) (hw:∀ w∈m.code,0≤w∧w<4294967296) (hl:m.code.length≤262144) (hs:m.syms[n]?=some s) :
 Am.Pure Tryz.prog G0 QdB [QhI m,.int .i64 (n:Int)] fun v=>v=Qxp n (Qis (ats m) s.1 s.2 (words m n)):=fun t =>
 QTA (QS3 hT m hm hr hw hl hs t) fun v σ ⟨_,h⟩=>⟨_,h,QEM _ _,rfl⟩
end
variable {P:Program} {G:Nat→Option V}
section
attribute [local go_sem] nF nT aZ lR Nat.mul_one zA zL decide_true ge_iff_le Qab QQI QQH QQG QQF QQE QQD Qo QA2 QA1 Qq QAi QAh QAg QAf QAe QAd QAc QAb
theorem QDx (hT:Qf P tab) (m:Im) (hbig:(q2 m&&q3 m)=false) {tm tn tl tw tr t:Nat} :
 C P G 0 QU [.sl 5 tr 0 1 4 none,.fn (.func QH) [] []] ⟨t,rH tm tn tl [] (-1) (rX tm tn tl tw tr m (mF m tw))⟩ fun v _=>v=.bool (!right m):=by
 have h1:=QTb (σ:=⟨t,rH tm tn tl [] (-1) (rX tm tn tl tw tr m (mF m tw))⟩) hT (CV.of (cap:=[Qh7 m]) (args:=[]) hT QbK (c_S2 (P:=P) (G:=G) hT m (base:=0) (t:=t) (o:=rH tm tn tl [] (-1) (rX tm tn tl tw tr m (mF m tw)))))
 have h2:=QTb (σ:=⟨t,rH tm tn tl [] (-1) (rX tm tn tl tw tr m (mF m tw))⟩) hT (CV.of (cap:=[Qh7 m]) (args:=[]) hT QbJ (c_S3 (P:=P) (G:=G) hT m (base:=0) (t:=t) (o:=rH tm tn tl [] (-1) (rX tm tn tl tw tr m (mF m tw)))))
 have h3:=QTb (σ:=⟨t,rH tm tn tl [] (-1) (rX tm tn tl tw tr m (mF m tw))⟩) hT (CV.of (cap:=[Qh7 m]) (args:=[]) hT QbI (c_S4 (P:=P) (G:=G) hT m (base:=0) (t:=t) (o:=rH tm tn tl [] (-1) (rX tm tn tl tw tr m (mF m tw)))))
 change C P G 0 QH _ _ (fun v σ'=>v=.bool (!q1 m)∧_) at h1
 change C P G 0 QH _ _ (fun v σ'=>v=.bool (!q2 m)∧_) at h2
 change C P G 0 QH _ _ (fun v σ'=>v=.bool (!q3 m)∧_) at h3
 rw [Qux]
 generalize q1 m=b1 at *
 generalize q2 m=b2 at *
 generalize q3 m=b3 at *
 generalize q4 m=b4 at *
 have w1:IntKind.i64.wrap (0+1)=1:=by decide
 have w2:IntKind.i64.wrap (1+1)=2:=by decide
 have w3:IntKind.i64.wrap (2+1)=3:=by decide
 have w4:IntKind.i64.wrap (3+1)=4:=by decide
 have hI:C P G 0 Q5 [.sl 5 tr 0 1 4 none,.fn (.func QH) [] []] ⟨t,rH tm tn tl [] (-1) (rX tm tn tl tw tr m (mF m tw))⟩ fun v _=>v=.int .i64 (if b1 then (if b2 then (if b3 then (if b4 then -1 else 3) else 2) else 1) else 0):=by
  simp only [rH,rX,mF,cA,nA] at h1 h2 h3
  refine Qk hT QJ (by simp [Qq]) (Qg 1000 ?_)
  simp -implicitDefEqProofs (disch:=omega) only [go_sem,↓reduceIte,reduceCtorEq,rq,cast4,rH,rX,mF,cA,nA]
  refine Ya 5 60 ?_
  simp -implicitDefEqProofs (disch:=omega) only [go_sem,↓reduceIte,reduceCtorEq,rA,rq,rL,rT,Int.reduceToNat,Int.reduceLE,lt04,true_implies,and_true]
  refine call hT Xu h1 60 fun v σ hv=>?_
  obtain ⟨rfl,rfl⟩:=hv
  cases b1 with
  | false=>simp -implicitDefEqProofs (disch:=omega) only [go_sem,↓reduceIte,reduceCtorEq,rq]; try simp
  | true =>
    simp -implicitDefEqProofs (disch:=omega) only [go_sem,↓reduceIte,reduceCtorEq,rA,rq,rL,rT,Int.reduceToNat,Int.reduceLE,lt14,true_implies,and_true,w1]
    refine call hT Xu h2 60 fun v σ hv=>?_
    obtain ⟨rfl,rfl⟩:=hv
    cases b2 with
    | false=>simp -implicitDefEqProofs (disch:=omega) only [go_sem,↓reduceIte,reduceCtorEq,rq]; try simp
    | true =>
      simp -implicitDefEqProofs (disch:=omega) only [go_sem,↓reduceIte,reduceCtorEq,rA,rq,rL,rT,Int.reduceToNat,Int.reduceLE,lt24,true_implies,and_true,w2]
      refine call hT Xu h3 60 fun v σ hv=>?_
      obtain ⟨rfl,rfl⟩:=hv
      cases b3 with
      | false=>simp -implicitDefEqProofs (disch:=omega) only [go_sem,↓reduceIte,reduceCtorEq,rq]; try simp
      | true=>simp at hbig
 refine Qk hT QD (by simp [Qo]) (Qg 1000 ?_)
 refine ya ?_
 refine call hT QJ hI 60 fun v σ hv=>?_
 subst hv
 refine ya ?_
 revert hbig; cases b1 <;> cases b2 <;> cases b3 <;> cases b4 <;> simp
theorem Qqy (hT:Qf P tab) (m:Im) (hbig:(q2 m&&q3 m)=false):Am.Pure P G Qcf [QhI m] fun v=>v=.bool (right m):=by
 intro t
 refine Qi 0 (zL _) (Qk hT Qcc (by simp [Qab]) (Qg 5 ?_))
 simp -implicitDefEqProofs (disch:=omega) only [go_sem,↓reduceIte,reduceCtorEq,rq,QhI,QbF,Xe,Xs,V.cells,H.push]
 refine Xr (Shift.freeze (k:=0) (v:=t) (T:=25) (cs:=QbF m) (zL _) rfl (QjP m)) ?_
 simp only [Qr,Qv,XR,QN,List.set_cons_zero,Option.map_none]
 refine Qa 60 ?_
 simp -implicitDefEqProofs (disch:=omega) only [go_sem,↓reduceIte,reduceCtorEq,rA,rq,rL,vo1,vo2,QbF,Xe,Xs,V.cells,H.push]
 have hM:=QDx (P:=P) (G:=G) hT m hbig (tm:=t+1) (tn:=t+1+1) (tl:=t+1+1+1) (tw:=t+1+1+1+1) (tr:=t+1+1+1+1+1) (t:=t+1+1+1+1+1+1)
 simp only [rH,rX,mF,wrF,km,Qh7,QbF,Xe,Xs,List.map_nil,cA,nA] at hM
 refine call hT QD hM 60 fun v σ hv=>?_
 subst hv
 exact yt
theorem Qqz (hT:Qf P tab) (m:Im) (hn:∀ s∈m.syms,s.1.length≤9223372036854775807):Am.Pure P G Qcf [QhI m] fun v=>v=.bool (right m):=by
 by_cases h:(q2 m&&q3 m)=false
 ·exact Qqy hT m h
 ·have h':(q2 m&&q3 m)=true:=by simpa using h
  unfold q2 q3 at h'
  simp only [Bool.and_eq_true,decide_eq_true_eq] at h'
  exact Qpl hT m ⟨by omega,by omega,hn⟩
theorem QBP {m:Im} (hr:right m=true) (hn:∀ s∈m.syms,s.1.length≤9223372036854775807):ImB m∧m.code.length≤262144:=by
 rw [Qux] at hr
 unfold q2 q3 at hr
 simp only [Bool.and_eq_true,decide_eq_true_eq] at hr
 exact ⟨⟨by omega,by omega,hn⟩,by omega⟩
end
end Go.Proofs.YtbdhjeojcpgblaaGreatDoor
namespace Go.Proofs.YtbdhjeojcpgblaaGreatDoor
open Go Go.Am Go.Rv Go.Rg
set_option maxRecDepth 100000
set_option maxHeartbeats 1000000
section
attribute [local go_sem] nF nT lR Nat.succ_ne_zero zA zL bne_self_eq_false decide_false decide_true Qu Qd3 zq4_0 zq4_1 QzZ QzY QKQ zq4_2 zq4_3 zq4_4 QQW QQV QQU QQT QQS
theorem take3 (a b c d e:Option Ob):XT [a,b,c] [a,b,c,d,e]:=Z7 3 [a,b,c,d,e]
def fC (f:Rg.Fn):List V:=fnC f.name f.pl f.code f.frame f.cuts
def Qej (r:List Rg.Fn):V:=.lst 5 (r.map fun f=>V.agg (fC f)) false
def QtS (r:List Rg.Fn):List V:=(r.map fC).flatten
theorem QBO (r:List Rg.Fn) (f:Rg.Fn):QtS (r++[f])=QtS r++fC f:=by simp [QtS]
theorem Qwh (r:List Rg.Fn):(QtS r).length=5 * r.length:=by
 induction r with
 | nil=>rfl
 | cons x c ih =>
   show (fC x++QtS c).length=_
   rw [lA,ih,lC]
   simp [fC,fnC]; omega
theorem chunkF (r:List Rg.Fn):Za 5 r.length (QtS r)=r.map fun f=>V.agg (fC f):=by
 induction r with
 | nil=>rfl
 | cons x c ih =>
   show Za 5 (c.length+1) (fC x++QtS c)=_
   unfold Za
   rw [List.map_cons,← ih]
   rfl
theorem QRG (r:List Rg.Fn):Qb (QtS r)=true:=by
 induction r with
 | nil=>rfl
 | cons x c ih =>
   show Qb (fC x++QtS c)=true
   rw [XP,ih,Bool.and_true]
   exact Qld
def rofV:List Rg.Fn ⊕ (Nat × Nat × Int)→V
 | .inl r=>.tup [Qej r,.agg (flt 0 0 0)]
 | .inr e=>.tup [Qej [],.agg (flt e.1 e.2.1 e.2.2)]
def QuS (r0:List Rg.Fn):List Rg.Fn ⊕ (Nat × Nat × Int)→List Rg.Fn ⊕ (Nat × Nat × Int)
 | .inl r=>.inl (r0++r)
 | .inr e=>.inr e
variable {s:List UInt8 × Int} {n:Nat} {m:Im}
theorem QrJ (h:m.syms[n]?=some s):readAll m n (m.syms.drop n)=match Qis (ats m) s.1 s.2 (words m n) with
 | .inr e=>.inr (n,e.1,e.2)
 | .inl f=>QuS [f] (readAll m (n+1) (m.syms.drop (n+1))):=by
 have hl:=(List.getElem?_eq_some_iff.1 h).1
 rw [List.drop_eq_getElem_cons hl,(List.getElem?_eq_some_iff.1 h).2,readAll]
 cases Qis (ats m) s.1 s.2 (words m n) with
 | inr e=>rfl
 | inl f =>
   cases readAll m (n+1) (m.syms.drop (n+1)) <;> rfl
theorem QCC (a b:List Rg.Fn) (x:List Rg.Fn ⊕ (Nat × Nat × Int)):QuS a (QuS b x)=QuS (a++b) x:=by cases x <;> simp [QuS]
abbrev oaJ (m:Im) (v3:Nat):Nat→Fr→H→Prop:=fun n fr σ=>∃ t w r,ofS m=QuS r (readAll m n (m.syms.drop n))∧r.length=n∧Ql fr 1=.ref (.agg (QbF m)) 0∧Ql fr 3=.ptr 1 v3 0∧Ql fr 4=.sl 2 w 0 5 r.length none∧Ql fr 14=.int .i64 m.syms.length∧Ql fr 15=.int .i64 ((n:Nat):Int)∧σ=⟨t,[none,some (.arr v3 29 (flt 0 0 0)),some (.arr w 46 (QtS r))]⟩
abbrev oaE (m:Im) (v3:Nat):AE→Fr→H→Prop:=fun e fr σ =>
 (e=.ret∧Ql fr 2=.lst 0 [] true∧Ql fr 3=.ptr 1 v3 0∧∃ (n i:Nat) (er:Int) (t:Nat) (ex:List (Option Ob)),ofS m=.inr (n,i,er)∧σ=⟨t,none::some (.arr v3 29 (flt n i er))::ex⟩) ∨
 (e=.ex 0∧∃ t w r,ofS m=.inl r∧Ql fr 1=.ref (.agg (QbF m)) 0∧Ql fr 3=.ptr 1 v3 0∧Ql fr 4=.sl 2 w 0 5 r.length none∧σ=⟨t,[none,some (.arr v3 29 (flt 0 0 0)),some (.arr w 46 (QtS r))]⟩)
theorem QEV (hT:Qf Tryz.prog tab) {v3:Nat} (hm:ImB m) (hr:right m=true) (hw:∀ w∈m.code,0≤w∧w<4294967296) (hl:m.code.length≤262144) (he0:∀ (n i:Nat) (e:Int),ofS m=.inr (n,i,e)→e≠0) (hs:m.syms[n]?=some s) {fr:Fr} {σ:H} (hJ:oaJ m v3 n fr σ) :
 W Tryz.prog G0 35 0 (zg QQW [] (.seq (zw 16 .skip (.exit 0)) (.seq (.block 1 (zg QQV [17] (zg QQU [19,20,21,18,22,23] (.seq (zg QQT [24,25] (zw 26 (zg QQS [27] .ret) .skip)) (.reg QzZ [28,29,30,31]))))) (.reg QzY [32])))) fr σ (QgX (fun fr σ=>∃ fr' σ',Shift G0 35 0 fr σ fr' σ'∧oaJ m v3 (n+1) fr' σ') (oaE m v3)):=by
 obtain ⟨t,w,r,hof,hrn,f1,f3,f4,f14,f15,rfl⟩:=hJ
 have hlt:=(List.getElem?_eq_some_iff.1 hs).1
 have hsl:=hm.s
 have e2:=Qe9 hlt (by omega)
 have hR:=c_read hT m hm hr hw hl hs
 have hnx:=QrJ hs
 rw [hnx] at hof
 have hrl:=Qwh r
 cases hrd:Qis (ats m) s.1 s.2 (words m n) with
 | inr e =>
   rw [hrd] at hR hof
   obtain ⟨i,er⟩:=e
   have hne:=he0 n i er hof
   have hne':(er != 0)=true:=by simp [hne]
   simp only [Qxp,QhI,QbF,Xe,Xs,fnC,Y9,Xv,flt,inC] at hR
   refine Qt [(1,.ref (.agg (QbF m)) 0),(3,.ptr 1 v3 0),(4,.sl 2 w 0 5 r.length none),(14,.int .i64 m.syms.length),(15,.int .i64 ((n:Nat):Int))] ⟨f1,f3,f4,f14,f15,trivial⟩  20 ?_
   simp -implicitDefEqProofs (disch:=omega) only [go_sem,↓reduceIte,reduceCtorEq,rA,rq,QbF,flt,Xe,Xs,V.cells,false_implies,and_true,hlt]
   refine Qj hT Qdw hR (by simp [Qb,Qd]) 60 ?_
   simp -implicitDefEqProofs (disch:=omega) only [go_sem,↓reduceIte,reduceCtorEq,rA,rq,rT,V.cells,false_implies,true_implies,and_true,cA,nA,hne']
   exact .inl ⟨rfl,rfl,rfl,n,i,er,t+1+1,_,hof,rfl⟩
 | inl f =>
   rw [hrd] at hR hof
   have hsn:=QBO r f
   simp only [Qxp,QhI,QbF,Xe,Xs,fnC,Y9,Xv,flt,inC,fC] at hR hsn
   refine Qt [(1,.ref (.agg (QbF m)) 0),(3,.ptr 1 v3 0),(4,.sl 2 w 0 5 r.length none),(14,.int .i64 m.syms.length),(15,.int .i64 ((n:Nat):Int))] ⟨f1,f3,f4,f14,f15,trivial⟩  20 ?_
   simp -implicitDefEqProofs (disch:=omega) only [go_sem,↓reduceIte,reduceCtorEq,rA,rq,QbF,flt,Xe,Xs,V.cells,false_implies,and_true,hlt]
   refine Qj hT Qdw hR (by simp [Qb,Qd]) 60 ?_
   simp -implicitDefEqProofs (disch:=omega) only [go_sem,↓reduceIte,reduceCtorEq,rA,rq,rL,rT,V.cells,false_implies,true_implies,true_and,and_true,cA,nA,hrl]
   refine ⟨_,_,Shift.drop (o':=[none,some (.arr v3 29 (flt 0 0 0)),some (.arr (t+1+1) 46 (QtS (r++[f])))]) (t':=t+1+1+1) (by rw [hsn]; exact take3 _ _ _ _ _) (lR _) (zL _),t+1+1+1,t+1+1,r++[f],?_,by simp [hrn],?_⟩
   ·rw [hof]; exact QCC _ _ _
   ·simp -implicitDefEqProofs (disch:=omega) only [go_sem,↓reduceIte,rq,QbF,flt,Xe,Xs,true_and,and_true,e2]
    try simp
theorem Qpd {al:List Int} {pl F:Int} {c:List In}:∀ {ws:List Int} {i j:Nat} {e:Int},YY al pl c F i ws=some (j,e)→e≠0
 | [],_,_,_,h=>by simp [YY] at h
 | w::ws,i,j,e,h=>by
   unfold YY at h
   split at h
   ·simp at h; omega
   ·split at h
    ·rename_i hne
     simp only [Option.some.injEq,Prod.mk.injEq] at h
     rw [← h.2]; exact hne
    ·exact Qpd h
theorem Qju {m:Im}:∀ {l:List (List UInt8 × Int)} {n k i:Nat} {e:Int},readAll m n l=.inr (k,i,e)→e≠0
 | [],_,_,_,_,h=>by simp [readAll] at h
 | s::l,n,k,i,e,h=>by
   unfold readAll at h
   split at h
   ·rename_i i' e' he
    simp only [Sum.inr.injEq,Prod.mk.injEq] at h
    unfold Qis at he
    split at he
    ·cases he
    ·rename_i p hp
     simp only [Sum.inr.injEq] at he
     rw [he] at hp
     rw [← h.2.2]
     exact Qpd hp
   ·split at h
    ·cases h
    ·rename_i x hx
     simp only [Sum.inr.injEq] at h
     rw [h] at hx
     exact Qju hx
theorem QRH (r:List Rg.Fn ⊕ (Nat × Nat × Int)):Qd (rofV r)=true:=by
 cases r <;> simp [rofV,Qej,Qd,Qb,flt]
theorem wk_no {a b c:Int}:Wk (.tup [.lst 0 [] true,.agg (flt a b c)]) (.tup [Qej [],.agg (flt a b c)]) :=
 .tup _ _ (.cons _ _ _ _ (.lst 0 5 [] [] true .nil (.inl rfl)) (.cons _ _ _ _ (.refl _) .nil))
theorem c_rOf (hT:Qf Tryz.prog tab) (m:Im) (hn:∀ s∈m.syms,s.1.length≤9223372036854775807) (hw:∀ w∈m.code,0≤w∧w<4294967296) :
 Am.Pure Tryz.prog G0 Qgc [QhI m] fun v=>v=rofV (ofS m):=by
 have hR:=Qqz (P:=Tryz.prog) (G:=G0) hT m hn
 simp only [QhI,QbF,Xe,Xs] at hR
 refine Qmm (fun t=>?_) (QRH _)
 refine Qk hT QfJ (by simp [Qd3]) (Qg 6 ?_)
 simp -implicitDefEqProofs (disch:=omega) only [go_sem,↓reduceIte,reduceCtorEq,rq,QhI,QbF,Xe,Xs,V.cells,and_true,cA,nA]
 refine Xr (Shift.freeze (k:=0) (v:=t) (T:=25) (cs:=QbF m) (zL _) rfl (QjP m)) ?_
 simp only [QbF,Xe,Xs,Qr,Qv,Qp9,XR,QN,Ob.mapV,List.set_cons_zero,Option.map_some,Option.map_none,List.map_cons,List.map_nil]
 refine Qa 9 ?_
 simp -implicitDefEqProofs (disch:=omega) only [go_sem,↓reduceIte,reduceCtorEq,rA,rq,V.cells,false_implies,and_true]
 refine Qj hT Qcc hR (by simp [Qb,Qd]) 4 ?_
 cases hr:right m with
 | false =>
   have hof:ofS m=.inr (0,0,2):=by unfold ofS; rw [hr]; rfl
   rw [hof]
   refine ya ?_
   iterate 9 (try (refine Qa 4 ?_; simp -implicitDefEqProofs (disch:=omega) only [go_sem,↓reduceIte,reduceCtorEq,rA,rq,V.cells,false_implies,true_and,and_true,cA,nA]))
   exact .inl wk_no
 | true =>
   obtain ⟨hm,hl⟩:=QBP hr hn
   have hsl:=hm.s
   have hof:ofS m=readAll m 0 m.syms:=by unfold ofS; rw [hr]; rfl
   refine ya ?_
   iterate 1 (try (refine Qa 4 ?_; simp -implicitDefEqProofs (disch:=omega) only [go_sem,↓reduceIte,reduceCtorEq,rq]))
   refine Xr (Shift.own (s:=4) (z:=0) (sz:=5) (T:=46) (yb) (by decide)) ?_
   refine yn ?_
   generalize t+1=v3
   refine Qa 12 ?_
   simp -implicitDefEqProofs (disch:=omega) only [go_sem,↓reduceIte,reduceCtorEq,rA,rq,rL,V.cells,lM,true_implies,and_true]
   refine ZJ m.syms (oaJ m v3) (oaE m v3) ⟨v3+1+1,v3+1,[],by rw [hof,List.drop_zero]; cases readAll m 0 m.syms <;> rfl,rfl,?_⟩ (fun n s hs fr σ hJ=>QEV hT hm hr hw hl (fun n i e h=>by rw [hof] at h; exact Qju h) hs hJ) (fun n hnn fr σ hJ=>?_) (fun e fr σ hE=>?_)
   ·simp -implicitDefEqProofs (disch:=omega) only [go_sem,↓reduceIte,reduceCtorEq,rq,QbF,flt,Xe,Xs,true_and]
    try simp [QtS]
   ·obtain ⟨t2,w,r,ho,hrn,f1,f3,f4,f14,f15,rfl⟩:=hJ
    rw [hnn,List.drop_length] at ho
    have ho:ofS m=.inl r:=by rw [ho]; simp [readAll,QuS]
    refine Qt [(1,.ref (.agg (QbF m)) 0),(3,.ptr 1 v3 0),(4,.sl 2 w 0 5 r.length none),(14,.int .i64 m.syms.length),(15,.int .i64 ((n:Nat):Int))] ⟨f1,f3,f4,f14,f15,trivial⟩  12 ?_
    simp -implicitDefEqProofs (disch:=omega) only [go_sem,↓reduceIte,rq,QbF,flt,Xe,Xs,hnn,Nat.lt_irrefl]
    exact .inr ⟨rfl,t2,w,r,ho,rfl,rfl,rfl,rfl⟩
   ·rcases hE with ⟨rfl,f2,f3,n,i,er,t2,ex,ho,rfl⟩ | ⟨rfl,t2,w,r,ho,f1,f3,f4,rfl⟩
    ·refine Qa 12 ?_
     simp -implicitDefEqProofs (disch:=omega) only [go_sem,↓reduceIte,reduceCtorEq,rA,rq,flt,false_implies,true_and,and_true,f2,f3]
     rw [ho]
     exact .inl wk_no
    ·rw [ho]
     refine Qcd [(1,.ref (.agg (QbF m)) 0),(3,.ptr 1 v3 0),(4,.sl 2 w 0 5 r.length none)] ⟨f1,f3,f4,trivial⟩ 20 ?_
     simp -implicitDefEqProofs (disch:=omega) only [go_sem,↓reduceIte,reduceCtorEq,rA,rq,QbF,flt,Xe,Xs,V.cells,false_implies,and_true,cA,nA]
     have hfz:XR 2 w (QtS r) (.tup [.sl 2 w 0 5 r.length none,.agg (flt 0 0 0)])=.tup [Qej r,.agg (flt 0 0 0)]:=by
      have hle:r.length * 5≤(QtS r).length:=by rw [Qwh]; omega
      simp [XR,Qp9,Qd1,Qej,chunkF,hle,flt]
     refine ⟨2,w,46,QtS r,rfl,QRG r,?_,?_⟩
     ·rw [show [V.int .i64 0,.int .i64 0,.int .i64 0]=flt 0 0 0 from rfl,hfz]; simp [Qej,Qd,Qb,flt]
     ·rw [show [V.int .i64 0,.int .i64 0,.int .i64 0]=flt 0 0 0 from rfl,hfz]; exact .refl _
end
variable {P:Program} {G:Nat→Option V}
section
attribute [local go_sem] lM nA lR zA zL V.cells and_true Xs decide_false decide_true QbF QhI Yn zq5_0 zq5_1 Xe true_and true_implies
def fewB (m:Im):Bool:=decide (m.code.length≤100)&&decide (m.syms.length≤10)
theorem c_few (hT:Qf P tab) (m:Im):Am.Pure P G Qb7 [QhI m] fun v=>v=.bool (fewB m):=by
 intro t
 refine Qi 0 (zL _) (Qk hT ZI (by simp [Yn]) (Qg 1000 ?_))
 unfold fewB
 by_cases h1:m.code.length≤100
 ·have h1':decide (((m.code.length:Nat):Int)≤100)=true:=decide_eq_true (by omega)
  have h1'':((m.code.length:Nat):Int)≤100:=by omega
  by_cases h2:m.syms.length≤10
  ·have h2':decide (((m.syms.length:Nat):Int)≤10)=true:=decide_eq_true (by omega)
   simp -implicitDefEqProofs (disch:=omega) only [go_sem,↓reduceIte,reduceCtorEq,rA,rq,rL,h1'',h2']
   try simp [h1,h2]
  ·have h2':decide (((m.syms.length:Nat):Int)≤10)=false:=decide_eq_false (by omega)
   simp -implicitDefEqProofs (disch:=omega) only [go_sem,↓reduceIte,reduceCtorEq,rA,rq,rL,h1'',h2']
   try simp [h1,h2]
 ·have h1':decide (((m.code.length:Nat):Int)≤100)=false:=decide_eq_false (by omega)
  have h1'':¬ ((m.code.length:Nat):Int)≤100:=by omega
  simp -implicitDefEqProofs (disch:=omega) only [go_sem,↓reduceIte,reduceCtorEq,rA,rq,h1'']
  try simp [h1]
def QQn (L:List Nd) (b:Int) (n:Nat):List Int:=(List.range n).map fun j:Nat=>Qnm L (sy (b+((j:Nat):Int)))
theorem QGg (L:List Nd) (b:Int) (n:Nat):(QQn L b n).length=n:=by simp [QQn]
theorem QDR (L:List Nd) (b:Int) (n:Nat) (sl:V) (sure:Bool):V.int .i64 (Ql4 L b 1)::(((stC L b 32 sl sure).drop 3).take 29++Y7 L b n)=Xg (QQn L b (30+n)):=by
 have e1:((stC L b 32 sl sure).drop 3).take 29=((Qfb L b 32).drop 3):=by
  unfold stC
  rw [List.drop_append_of_le_length (by rw [QW]; omega),List.take_append_of_le_length (by rw [List.length_drop,QW]; omega),List.take_of_length_le (by rw [List.length_drop,QW]; omega)]
 rw [e1]
 apply List.ext_getElem?
 intro j
 unfold Xg QQn
 rw [List.map_map,List.getElem?_map]
 by_cases hj:j<30+n
 ·rw [List.getElem?_range hj]
  cases j with
  | zero=>simp [Ql4,QrH]
  | succ j =>
    rw [List.getElem?_cons_succ]
    by_cases h2:j<29
    ·rw [List.getElem?_append_left (by rw [List.length_drop,QW]; omega),List.getElem?_drop]
     unfold Qfb
     rw [List.getElem?_map,List.getElem?_range (by omega)]
     have q:3+j<32:=by omega
     have q2:¬ 3+j=2:=by omega
     have q3:¬ 3+j=0:=by omega
     have q4:¬ 3+j=1:=by omega
     simp only [Option.map_some,q,if_true,Ql4,q2,if_false,QrH,q3,q4,Function.comp]
     congr 4
     omega
    ·rw [List.getElem?_append_right (by rw [List.length_drop,QW]; omega),List.length_drop,QW]
     unfold Y7
     rw [List.getElem?_map,List.getElem?_range (by omega)]
     simp only [Option.map_some,Function.comp]
     congr 4
     omega
 ·have r1:(List.range (30+n))[j]?=none:=List.getElem?_eq_none (by rw [List.length_range]; omega)
  have r2:(V.int .i64 (Ql4 L b 1)::((Qfb L b 32).drop 3++Y7 L b n))[j]?=none:=List.getElem?_eq_none (by rw [lC,lA,List.length_drop,QW,QgL]; omega)
  rw [r1,r2]
  rfl
end
end Go.Proofs.YtbdhjeojcpgblaaGreatDoor
