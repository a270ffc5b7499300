/- Images: rows of symbols gone through; is one right? -/
import Derived.Test.YtaidbdgndljaeaaGreatDoorJ2
import Derived.RangeFuncNested
import Derived.RangeFuncBound
import Derived.RangeFuncCalls
import Derived.RangeFuncLeaves
import Derived.Shelf.Abstract
import Derived.Shelf.RegionOpen
import Derived.WalkKit
import Derived.OwnWalkIn
import Derived.TacticsInMore
import Derived.LoopNIn
import Derived.LoopIn
import Derived.Test.YtaidbdgndljaeaaGreatDoorProg
import Derived.Test.YtaidbdgndljaeaaGreatDoorAmA
import Derived.Test.YtaidbdgndljaeaaGreatDoorJ1
open Nat renaming reduceEqDiff → rq, reduceAdd → rA, reduceLeDiff → rL, reduceLT → rT, zero_add → zA, le_refl → lR, zero_le → zL, add_zero → aZ
open List renaming length_cons → lC, length_nil → lN, take_succ_cons → tS, length_append → lA, nil_append → nA, cons_append → cA, append_assoc → aA, take_nil → tN, take_zero → tZ, length_map → lM
open Bool renaming not_false → nF, not_true → nT
namespace Go.Proofs.YtaidbdgndljaeaaGreatDoor
open Go Go.Am Go.Rv Go.Rg
set_option maxRecDepth 100000
variable {P:Program} {G:Nat→Option V}
section
attribute [local go_sem] nF lR Nat.succ_ne_zero zA decide_false decide_true ge_iff_le Qw Qo Qum Qul QK QCc QCb QCa QB9 QB8 QB7 QB6 QB5
variable {l:List (List UInt8 × Int)} {t i:Nat}
theorem Qrz (hT:Qk P tab) {base:Nat} {o:List (Option Ob)} {f:V} {p:Nat→Bool} {tg:Bool} (Inv:Nat→H→Prop) (End:H→Prop) (hl:l.length≤9223372036854775807)
 (hp:∀ i a,l[i]?=some a→∀ σ,Inv i σ→CV P G base f [Qju a] σ fun v σ'=>v=.bool (p i)∧(p i=false→Inv (i+1) σ')∧(p i=true→End σ')) (h0:Inv 0 ⟨t,o⟩) :
 C P G base Ym [.lst 2 (l.map Qju) tg,f] ⟨t,o⟩ fun v σ=>(∃ i,i<l.length∧(∀ j,j<i→p j=false)∧p i=true∧v=.int .i64 ((i:Nat):Int)∧End σ)∨((∀ j,j<l.length→p j=false)∧v=.int .i64 (-1)∧Inv l.length σ):=by
 refine Qt hT Xk (by simp [QK]) (Qn 1000 ?_)
 simp -implicitDefEqProofs (disch:=omega) only [go_sem,↓reduceIte,reduceCtorEq,rq,lM]
 refine QcH (fun m fr σ=>∃ i,i≤l.length∧m=l.length - i∧(∀ j,j<i→p j=false)∧Qg fr 0=.lst 2 (l.map Qju) tg∧Qg fr 1=f∧Qg fr 7=.int .i64 l.length∧Qg fr 8=.int .i64 i∧Inv i σ)
  (fun e fr σ=>(e=.ret∧∃ i,i<l.length∧(∀ j,j<i→p j=false)∧p i=true∧Qg fr 4=.int .i64 ((i:Nat):Int)∧End σ)∨(e=.ex 0∧(∀ j,j<l.length→p j=false)∧Inv l.length σ))
  (m0:=l.length) ⟨0,by omega,rfl,(fun j h=>absurd h (Nat.not_lt_zero j)),?_⟩ (fun m fr σ hJ=>?_) (fun e fr σ hE=>?_)
 ·simp -implicitDefEqProofs (disch:=omega) only [go_sem,↓reduceIte,reduceCtorEq,rq]
  simpa using h0
 ·obtain ⟨i,hi,rfl,hno,h0',h1',h7',h8',hI⟩:=hJ
  refine Qn 1000 ?_
  rcases Nat.lt_or_ge i l.length with hlt | hge
  ·obtain ⟨x,hx⟩:∃ x,l[i]?=some x:=⟨_,List.getElem?_eq_getElem hlt⟩
   have hD:(l.map Qju).getD i V.any=Qju x:=by simp [List.getD_eq_getElem?_getD,hx]
   have e2:=ZT hlt hl
   simp -implicitDefEqProofs (disch:=omega) only [go_sem,↓reduceIte,reduceCtorEq,rA,rq,lM,Qju,V.cells,lC,lN,h0',h1',h7',h8',hlt,hD]
   refine CV.use 1000 (hp i x hx σ hI) fun v σ hv=>?_
   obtain ⟨rfl,hv⟩:=hv
   cases hpn:p i with
   | true =>
     simp -implicitDefEqProofs (disch:=omega) only [go_sem,↓reduceIte,reduceCtorEq,rq]
     exact ⟨i,hlt,hno,hpn,rfl,hv.2 hpn⟩
   | false =>
     simp -implicitDefEqProofs (disch:=omega) only [go_sem,↓reduceIte,rq,h8']
     refine ⟨l.length - (i+1),_,_,by omega,Shift.refl _ _ _ _,i+1,by omega,rfl,fun j hj=>?_,?_⟩
     ·rcases Nat.lt_or_ge j i with h | h
      ·exact hno j h
      ·rw [show j=i by omega]; exact hpn
     ·simp -implicitDefEqProofs (disch:=omega) only [go_sem,↓reduceIte,reduceCtorEq,rq,h0',h1',h7',e2]
      exact hv.1 hpn
  ·have hi:i=l.length:=by omega
   subst hi
   simp -implicitDefEqProofs (disch:=omega) only [go_sem,↓reduceIte,reduceCtorEq,rq,h7',h8',Nat.lt_irrefl]
   exact ⟨hno,hI⟩
 ·rcases hE with ⟨rfl,i,hlt,hno,hpi,f4,hEn⟩ | ⟨rfl,hno,hI⟩
  ·refine Qa 1000 ?_
   simp -implicitDefEqProofs (disch:=omega) only [go_sem,f4]
   exact .inl ⟨i,hlt,hno,hpi,rfl,hEn⟩
  ·refine Qa 1000 ?_
   simp -implicitDefEqProofs (disch:=omega) only [go_sem,↓reduceIte]
   exact .inr ⟨hno,hI⟩
variable {s:List UInt8 × Int}
theorem Qhx {code:Nat} (h:l[i]?=some s) (N:List (List UInt8)) (last:Int):Qd6 code N last (l.drop i)=(Qes code N last s&&Qd6 code (N++[s.1]) s.2 (l.drop (i+1))):=by
 have hl:=(List.getElem?_eq_some_iff.1 h).1
 rw [List.drop_eq_getElem_cons hl,(List.getElem?_eq_some_iff.1 h).2]
 rfl
def Qfi (m:Im) (i:Nat):Int:=if i=0 then -1 else ((m.syms.map (·.2))[i - 1]?).getD 0
def okAt (m:Im) (i:Nat):Bool:=match m.syms[i]? with
 | some s=>Qes m.code.length ((m.syms.take i).map (·.1)) (Qfi m i) s
 | none=>true
theorem Qig {m:Im} (h:m.syms[i]?=some s):okAt m i=Qes m.code.length ((m.syms.take i).map (·.1)) (Qfi m i) s:=by unfold okAt; rw [h]
def okSt2 (m:Im) (tm tn tl:Nat) (ex:List (Option Ob)) (i:Nat) (σ:H):Prop:=∃ t,((m.syms.take i).map (·.1)).Nodup∧Qd6 m.code.length [] (-1) m.syms=Qd6 m.code.length ((m.syms.take i).map (·.1)) (Qfi m i) (m.syms.drop i)∧σ=⟨t,rH tm tn tl ((m.syms.take i).map (·.1)) (Qfi m i) ex⟩
theorem Qwp (hT:Qk P tab) (m:Im) (hm:ImB m) {tm tn tl:Nat} {ex:List (Option Ob)} :
 C P G 0 Xa [QU m.syms,wrF tn tl m] ⟨t,rH tm tn tl [] (-1) ex⟩ fun v _=>v=.bool (!Qd6 m.code.length [] (-1) m.syms):=by
 have hI:=Qrz (P:=P) (G:=G) hT (base:=0) (t:=t) (o:=rH tm tn tl [] (-1) ex) (f:=wrF tn tl m) (p:=fun i=>!okAt m i) (l:=m.syms) (tg:=false) (okSt2 m tm tn tl ex) (fun _=>True) (by have:=hm.s; omega)
  (fun i s hs σ hI=>?_) ?_
 ·refine Qt hT QP (by simp [Qo]) (Qn 1000 ?_)
  simp -implicitDefEqProofs (disch:=omega) only [go_sem,↓reduceIte,reduceCtorEq,rq,QU]
  refine call hT Xk hI 1000 fun v σ hv=>?_
  rcases hv with ⟨i,hlt,hno,hpi,rfl,_⟩ | ⟨hno,rfl,t',hN,hs,rfl⟩
  ·have hbad:∀ k j,j+k=i→Qd6 m.code.length ((m.syms.take j).map (·.1)) (Qfi m j) (m.syms.drop j)=false:=by
    intro k
    induction k with
    | zero =>
      intro j hj
      obtain rfl:j=i:=by omega
      obtain ⟨s,hs⟩:∃ s,m.syms[j]?=some s:=⟨_,List.getElem?_eq_getElem hlt⟩
      rw [Qig hs] at hpi
      rw [Qhx hs]
      simp at hpi
      simp [hpi]
    | succ k ih =>
      intro j hj
      obtain ⟨s,hs⟩:∃ s,m.syms[j]?=some s:=⟨_,List.getElem?_eq_getElem (by omega)⟩
      have h1:=ih (j+1) (by omega)
      rw [Qhx hs]
      have h2:(m.syms.take (j+1)).map (·.1)=(m.syms.take j).map (·.1)++[s.1]:=by rw [List.take_add_one,hs]; simp
      have h3:Qfi m (j+1)=s.2:=by unfold Qfi; rw [if_neg (by omega)]; simp [hs]
      rw [h2,h3] at h1
      rw [h1,Bool.and_false]
   have:=hbad i 0 (by omega)
   have e0:Qfi m 0=-1:=rfl
   simp only [tZ,List.map_nil,List.drop_zero,e0] at this
   rw [this]
   simp -implicitDefEqProofs (disch:=omega) only [go_sem,↓reduceIte,reduceCtorEq,rq]
   simp
  ·rw [hs,List.drop_length]
   simp -implicitDefEqProofs (disch:=omega) only [go_sem,↓reduceIte,reduceCtorEq,rq,Int.reduceLE]
   rfl
 ·obtain ⟨t1,hN,hs1,rfl⟩:=hI
  have hw:=QGT (P:=P) (G:=G) hT m hm s (hm.n s (List.mem_of_getElem? hs)) (tm:=tm) (tn:=tn) (tl:=tl) (t:=t1) (N:=(m.syms.take i).map (·.1)) hN (last:=Qfi m i) (ex:=ex)
  refine CV.of hT Qfd (hw.conseq fun v σ hv=>?_)
  obtain ⟨h1,h2⟩:=hv
  rw [← Qig hs] at h1 h2
  refine ⟨h1,fun hok=>?_,fun _=>trivial⟩
  have hok:okAt m i=true:=by simpa using hok
  obtain ⟨t2,_,rfl⟩:=h2 hok
  have e2:(m.syms.take (i+1)).map (·.1)=(m.syms.take i).map (·.1)++[s.1]:=by rw [List.take_add_one,hs]; simp
  have e3:Qfi m (i+1)=s.2:=by unfold Qfi; rw [if_neg (by omega)]; simp [hs]
  refine ⟨t2,?_,?_,by rw [e2,e3]⟩
  ·rw [e2,List.nodup_append]
   refine ⟨hN,by simp,fun x hx y hy=>?_⟩
   simp at hy; subst hy
   rw [Qig hs] at hok
   unfold Qes at hok
   simp only [Bool.and_eq_true,Bool.not_eq_true',decide_eq_false_iff_not] at hok
   exact fun e=>hok.2.2.1 (e▸hx)
  ·rw [hs1,Qhx hs,← Qig hs,hok,e2,e3,Bool.true_and]
 ·exact ⟨t,by simp,by simp [Qfi],rfl⟩
end
section
attribute [local go_sem] nF nT aZ lR Nat.mul_one zA zL decide_false decide_true ge_iff_le Qde QaB QDx QDw QaA QDt QDs zqj_0 zqj_1 zqj_2 zqj_3 zqj_4 zqj_5 Qw QD QDv QDu QL QB4 QB3 QB2 QB1 QB0 QBZ QBY QBX
theorem QiU (m:Im):Qb (X5 m)=true:=by
 simp [X5,QU,QF,Qb,Qd]
def rX (tm tn tl tw tr:Nat) (m:Im) (cl:List V):List (Option Ob):=[some (.arr tw 98 [wrF tn tl m]),some (.arr tr 27 cl)]
variable {tm tn tl tw tr t:Nat}
theorem c_S5 (hT:Qk P tab) (m:Im) (hm:ImB m) {cl:List V} :
 C P G 0 Qcd [QjB m,.ptr 4 tw 0] ⟨t,rH tm tn tl [] (-1) (rX tm tn tl tw tr m cl)⟩ fun v _=>v=.bool (Qd6 m.code.length [] (-1) m.syms):=by
 have hC:=Qwp (P:=P) (G:=G) hT m hm (tm:=tm) (tn:=tn) (tl:=tl) (t:=t) (ex:=rX tm tn tl tw tr m cl)
 simp only [rH,rX,cA,nA,QU] at hC
 refine Qt hT Qe9 (by simp [QaB]) (Qn 1000 ?_)
 simp -implicitDefEqProofs (disch:=omega) only [go_sem,↓reduceIte,reduceCtorEq,rA,rq,rL,QjB,X5,QU,V.cells,rH,cA,nA,rX]
 refine call hT QP hC 1000 fun v σ hv=>?_
 subst hv
 simp -implicitDefEqProofs (disch:=omega) only [go_sem,↓reduceIte,reduceCtorEq,rq,Bool.not_not]
theorem c_S6 (hT:Qk P tab) {base:Nat} {σ:H} {f:V} {b:Bool} {R:H→Prop} (h:CV P G base f [] σ fun v σ'=>v=.bool b∧R σ'):C P G base XR [f] σ fun v σ'=>v=.bool (!b)∧R σ':=by
 refine Qt hT Zt (by simp [QaA]) (Qn 1000 ?_)
 simp -implicitDefEqProofs (disch:=omega) only [go_sem,↓reduceIte,reduceCtorEq,rq]
 refine CV.use 1000 h fun v σ' hv=>?_
 obtain ⟨rfl,hR⟩:=hv
 simp -implicitDefEqProofs (disch:=omega) only [go_sem,↓reduceIte,reduceCtorEq,rq]
 exact hR
def mF (m:Im) (tw:Nat):List V:=[.fn (.func Qcg) [] [QjB m],.fn (.func Qcf) [] [QjB m],.fn (.func Qce) [] [QjB m],.fn (.func Qcd) [] [QjB m,.ptr 4 tw 0]]
def q1 (m:Im):Bool:=decide (0≤m.data)&&(decide (m.data≤524288)&&decide (m.data.tmod 8=0))
def q2 (m:Im):Bool:=decide (1≤m.code.length)&&decide (m.code.length≤262144)
def q3 (m:Im):Bool:=decide (1≤m.syms.length)&&(decide (m.syms.length≤65)&&decide ((m.syms.map (·.2)).head?=some 0))
def q4 (m:Im):Bool:=Qd6 m.code.length [] (-1) m.syms
theorem QFW (m:Im):right m=(q1 m&&(q2 m&&(q3 m&&q4 m))):=rfl
theorem cast4:((4:Nat):Int)=4:=rfl
theorem lt04:((0:Int)<4)=True:=eq_true (by decide)
theorem lt14:((1:Int)<4)=True:=eq_true (by decide)
theorem lt24:((2:Int)<4)=True:=eq_true (by decide)
theorem lt34:((3:Int)<4)=True:=eq_true (by decide)
theorem c_Must (hT:Qk P tab) (m:Im) (hm:ImB m) :
 C P G 0 XW [.sl 5 tr 0 1 4 none,.fn (.func XR) [] []] ⟨t,rH tm tn tl [] (-1) (rX tm tn tl tw tr m (mF m tw))⟩ fun v _=>v=.bool (!right m):=by
 have h1:=c_S6 (σ:=⟨t,rH tm tn tl [] (-1) (rX tm tn tl tw tr m (mF m tw))⟩) hT (CV.of (cap:=[QjB m]) (args:=[]) hT Qfc (c_S2 (P:=P) (G:=G) hT m (base:=0) (t:=t) (o:=rH tm tn tl [] (-1) (rX tm tn tl tw tr m (mF m tw)))))
 have h2:=c_S6 (σ:=⟨t,rH tm tn tl [] (-1) (rX tm tn tl tw tr m (mF m tw))⟩) hT (CV.of (cap:=[QjB m]) (args:=[]) hT Qfb (c_S3 (P:=P) (G:=G) hT m (base:=0) (t:=t) (o:=rH tm tn tl [] (-1) (rX tm tn tl tw tr m (mF m tw)))))
 have h3:=c_S6 (σ:=⟨t,rH tm tn tl [] (-1) (rX tm tn tl tw tr m (mF m tw))⟩) hT (CV.of (cap:=[QjB m]) (args:=[]) hT Qfa (c_S4 (P:=P) (G:=G) hT m (base:=0) (t:=t) (o:=rH tm tn tl [] (-1) (rX tm tn tl tw tr m (mF m tw)))))
 have h4:=c_S6 (σ:=⟨t,rH tm tn tl [] (-1) (rX tm tn tl tw tr m (mF m tw))⟩) (R:=fun _=>True) hT (CV.of (cap:=[QjB m,.ptr 4 tw 0]) (args:=[]) hT Qe9 ((c_S5 (P:=P) (G:=G) hT m hm (tm:=tm) (tn:=tn) (tl:=tl) (tw:=tw) (tr:=tr) (t:=t) (cl:=mF m tw)).conseq fun v σ h=>⟨h,trivial⟩))
 change C P G 0 XR _ _ (fun v σ'=>v=.bool (!q1 m)∧_) at h1
 change C P G 0 XR _ _ (fun v σ'=>v=.bool (!q2 m)∧_) at h2
 change C P G 0 XR _ _ (fun v σ'=>v=.bool (!q3 m)∧_) at h3
 change C P G 0 XR _ _ (fun v σ'=>v=.bool (!q4 m)∧_) at h4
 rw [QFW]
 generalize q1 m=b1 at *
 generalize q2 m=b2 at *
 generalize q3 m=b3 at *
 generalize q4 m=b4 at *
 have w1:IntKind.i64.wrap (0+1)=1:=by decide
 have w2:IntKind.i64.wrap (1+1)=2:=by decide
 have w3:IntKind.i64.wrap (2+1)=3:=by decide
 have w4:IntKind.i64.wrap (3+1)=4:=by decide
 have hI:C P G 0 Yn [.sl 5 tr 0 1 4 none,.fn (.func XR) [] []] ⟨t,rH tm tn tl [] (-1) (rX tm tn tl tw tr m (mF m tw))⟩ fun v _=>v=.int .i64 (if b1 then (if b2 then (if b3 then (if b4 then -1 else 3) else 2) else 1) else 0):=by
  simp only [rH,rX,mF,cA,nA] at h1 h2 h3 h4
  refine Qt hT Yk (by simp [QL]) (Qn 1000 ?_)
  simp -implicitDefEqProofs (disch:=omega) only [go_sem,↓reduceIte,reduceCtorEq,rq,cast4,rH,rX,mF,cA,nA]
  refine Y6 5 60 ?_
  simp -implicitDefEqProofs (disch:=omega) only [go_sem,↓reduceIte,reduceCtorEq,rA,rq,rL,rT,Int.reduceToNat,Int.reduceLE,lt04,true_implies,and_true]
  refine call hT Zt h1 60 fun v σ hv=>?_
  obtain ⟨rfl,rfl⟩:=hv
  cases b1 with
  | false=>simp -implicitDefEqProofs (disch:=omega) only [go_sem,↓reduceIte,reduceCtorEq,rq]; try simp
  | true =>
    simp -implicitDefEqProofs (disch:=omega) only [go_sem,↓reduceIte,reduceCtorEq,rA,rq,rL,rT,Int.reduceToNat,Int.reduceLE,lt14,true_implies,and_true,w1]
    refine call hT Zt h2 60 fun v σ hv=>?_
    obtain ⟨rfl,rfl⟩:=hv
    cases b2 with
    | false=>simp -implicitDefEqProofs (disch:=omega) only [go_sem,↓reduceIte,reduceCtorEq,rq]; try simp
    | true =>
      simp -implicitDefEqProofs (disch:=omega) only [go_sem,↓reduceIte,reduceCtorEq,rA,rq,rL,rT,Int.reduceToNat,Int.reduceLE,lt24,true_implies,and_true,w2]
      refine call hT Zt h3 60 fun v σ hv=>?_
      obtain ⟨rfl,rfl⟩:=hv
      cases b3 with
      | false=>simp -implicitDefEqProofs (disch:=omega) only [go_sem,↓reduceIte,reduceCtorEq,rq]; try simp
      | true =>
        simp -implicitDefEqProofs (disch:=omega) only [go_sem,↓reduceIte,reduceCtorEq,rA,rq,rT,Int.reduceToNat,Int.reduceLE,lt34,true_implies,and_true,w3]
        refine call hT Zt h4 60 fun v σ hv=>?_
        obtain ⟨rfl,_⟩:=hv
        cases b4 with
        | false=>simp -implicitDefEqProofs (disch:=omega) only [go_sem,↓reduceIte,reduceCtorEq,rq]; try simp
        | true=>simp -implicitDefEqProofs (disch:=omega) only [go_sem,↓reduceIte,reduceCtorEq,rq,Int.lt_irrefl,w4]; try simp
 refine Qt hT XU (by simp [QD]) (Qn 1000 ?_)
 simp -implicitDefEqProofs (disch:=omega) only [go_sem,↓reduceIte,reduceCtorEq,rq]
 refine call hT Yk hI 60 fun v σ hv=>?_
 subst hv
 simp -implicitDefEqProofs (disch:=omega) only [go_sem,↓reduceIte,reduceCtorEq,rq]
 cases b1 <;> cases b2 <;> cases b3 <;> cases b4 <;> rfl
theorem vo1:(Value.map none).oneCell'=true:=rfl
theorem vo2:Value.nilFunc.oneCell'=true:=rfl
theorem Qje (hT:Qk P tab) (m:Im) (hm:ImB m):Am.Pure P G Qim [QaY m] fun v=>v=.bool (right m):=by
 intro t
 refine Qp 0 (zL _) (Qt hT QcG (by simp [Qde]) (Qn 5 ?_))
 simp -implicitDefEqProofs (disch:=omega) only [go_sem,↓reduceIte,reduceCtorEq,rq,QaY,X5,QU,QF,V.cells,H.push]
 refine Q8 (Shift.freeze (k:=0) (v:=t) (T:=25) (cs:=X5 m) (zL _) rfl (QiU m)) ?_
 simp only [YG,Zd,Qaa,Xt,List.set_cons_zero,Option.map_none]
 refine Qa 60 ?_
 simp -implicitDefEqProofs (disch:=omega) only [go_sem,↓reduceIte,reduceCtorEq,rA,rq,rL,vo1,vo2,X5,QU,QF,V.cells,H.push]
 have hM:=c_Must (P:=P) (G:=G) hT m hm (tm:=t+1) (tn:=t+1+1) (tl:=t+1+1+1) (tw:=t+1+1+1+1) (tr:=t+1+1+1+1+1) (t:=t+1+1+1+1+1+1)
 simp only [rH,rX,mF,wrF,km,QjB,X5,QU,QF,List.map_nil,cA,nA] at hM
 refine call hT XU hM 60 fun v σ hv=>?_
 subst hv
 simp -implicitDefEqProofs (disch:=omega) only [go_sem,↓reduceIte,reduceCtorEq,rq,Bool.not_not]
end
end Go.Proofs.YtaidbdgndljaeaaGreatDoor
namespace Go.Proofs.YtaidbdgndljaeaaGreatDoor
open Go Go.Proofs Go.RowKit Go.Shelf
attribute [local go_sem] Oper.semAt_some
def upto {α:Type} (f:Nat→α) (k:Nat):List α:=(List.range k).map f
theorem Qob {α:Type} (f:Nat→α) (k:Nat):upto f (k+1)=upto f k++[f k]:=by simp [upto,List.range_succ]
theorem QpK {α:Type} (f:Nat→α) (k:Nat):(upto f k).length=k:=by simp [upto]
abbrev encB (x:Nat × (Nat × Nat)):Array Value:=#[Value.int .i64 (x.1:Int),.agg #[.int .i64 (x.2.1:Int),.int .i64 (x.2.2:Int)]]
def KpB (n₀ Bs:Nat) (W W':World):Prop:=Below n₀ W W'∧W'.heap[Bs]?=W.heap[Bs]?
theorem KpB.refl (n₀ Bs:Nat) (W:World):KpB n₀ Bs W W:=⟨Below.refl _ _,rfl⟩
theorem KpB.trans {n₀ Bs:Nat} {A B C:World} (h:KpB n₀ Bs A B) (k:KpB n₀ Bs B C):KpB n₀ Bs A C:=⟨h.1.trans k.1,k.2.trans h.2⟩
variable {A B:World} {n₀:Nat}
theorem KpB.cellB {Bs:Nat} (h:KpB n₀ Bs A B):B.cell? ⟨Bs,0,none⟩=A.cell? ⟨Bs,0,none⟩:=by simp [World.cell?,h.2]
set_option maxRecDepth 100000 in
set_option maxHeartbeats 2000000 in
theorem QyJ (F:Fence) (n:Nat) (h7:F.fn 96) (hro:F.round=none) (hn:1≤n) (l Bs n₀ b off len cap:Nat) (z:Nat→Nat × Nat) (hlen:len≤1000) (hb:b<n₀) (J Jx:List (Nat × (Nat × Nat))→World→Prop)
 (hY:∀ pre x W,J pre W→pre.length<len→YieldAt F (n - 1) Tryz.prog l (encB x) W fun e W' =>
  (e=.returned (.bool true)∧J (pre++[x]) W'∧KpB n₀ Bs W W')∨(e=.returned (.bool false)∧Jx (pre++[x]) W'))
 (W:World) (hBs:W.cell? ⟨Bs,0,none⟩=some (.slice (some ⟨b,off,none⟩) len cap))
 (hc:∀ j,j<len→W.cell? ⟨b,off+j * 2,none⟩=some (.int .i64 ((z j).1:Int))∧W.cell? ⟨b,off+j * 2+1,none⟩=some (.int .i64 ((z j).2:Int))) (h0:J [] W) :
 CallsIn F n Tryz.prog 96 #[.func (.yield l) #[] #[],.pointer (some ⟨Bs,0,none⟩)] W fun e W'=>(∃ v,e=.returned v) ∧
  ((∃ ys,ys=upto (fun j=>(len - 1 - j,z (len - 1 - j))) len∧J ys W')∨(∃ pre,(∃ k,k≤len∧pre=upto (fun j=>(len - 1 - j,z (len - 1 - j))) k)∧Jx pre W')):=by
 refine callsIn_of_wp Tryz.func96 rfl h7 ?_ hro
 simp only [Tryz.ntmps96,List.size_toArray,lC,lN,rA,Nat.reduceSub,Array.replicate_succ,Array.replicate_zero,List.push_toArray,List.append_toArray,nA,cA]
 gi_wp2
 gi_loopw [3] (fun i wr=>∃ k:Nat,k≤len∧i=.int .i64 ((len:Int) - 1 - k)∧J (upto (fun j=>(len - 1 - j,z (len - 1 - j))) k) wr∧KpB n₀ Bs W wr)
  (fun i _=>(intOf i+1).toNat)
 case atStart =>
  exact ⟨0,zL _,by simp,h0,KpB.refl _ _ _⟩
 case round =>
  obtain ⟨k,hk,rfl,hJs,hnx⟩:=hrel
  by_cases hlt:k<len
  ·obtain ⟨fn,tmps,assign,body,hy,hR⟩:=hY _ (len - 1 - k,z (len - 1 - k)) wr hJs (by rw [QpK]; exact hlt)
   dsimp only [encB] at hy
   have hBs':=hnx.cellB.trans hBs
   have hcx:=hc (len - 1 - k) (by omega)
   have hc1:=(hnx.1.cell (p:=⟨b,off+(len - 1 - k) * 2,none⟩) hb).trans hcx.1
   have hc2:=(hnx.1.cell (p:=⟨b,off+(len - 1 - k) * 2+1,none⟩) hb).trans hcx.2
   obtain ⟨m,hm⟩:∃ m:Nat,m=len - 1 - k:=⟨_,rfl⟩
   have hi:(len:Int) - 1 - k=(m:Int):=by omega
   have hml:m<len:=by omega
   rw [hi]
   rw [← hm] at hy hR hc1 hc2
   have hm2:Unit→m=len - 1 - k:=fun _=>hm
   have hi2:Unit→(len:Int) - 1 - k=(m:Int):=fun _=>hi
   clear hm hi hcx
   gi_wp2
   refine hR.mono ?_
   rintro e W3 (⟨rfl,hJ3,hk3⟩ | ⟨rfl,hJx3⟩)
   ·gi_wp2
    go_roundw
    case rel=>exact ⟨k+1,by omega,by have:=hi2 (); congr 1; omega,by rw [Qob,← hm2 ()]; exact hJ3,hnx.trans hk3⟩
    case measure=>simp [intOf]
   ·gi_wp2
    refine bodyPost_ret (results_none rfl _ _ _) rfl ?_
    exact ⟨⟨_,rfl⟩,.inr ⟨_,⟨k+1,by omega,by rw [Qob,← hm2 ()]⟩,hJx3⟩⟩
  ·obtain rfl:k=len:=by omega
   have hi:(k:Int) - 1 - k=-1:=by omega
   rw [hi]
   gi_wp2
   go_end0
   exact ⟨⟨_,rfl⟩,.inl ⟨_,rfl,hJs⟩⟩
set_option maxRecDepth 100000 in
set_option maxHeartbeats 1000000 in
theorem Qo7 (F:Fence) (n:Nat) (h7:F.fn 96) (hro:F.round=none) (l Bs:Nat) (a:Option Addr) (cap:Nat) (J:List (Nat × (Nat × Nat))→World→Prop) (W:World) (hBs:W.cell? ⟨Bs,0,none⟩=some (.slice a 0 cap)) (h0:J [] W) :
 CallsIn F n Tryz.prog 96 #[.func (.yield l) #[] #[],.pointer (some ⟨Bs,0,none⟩)] W fun e W'=>(∃ v,e=.returned v)∧J [] W':=by
 refine callsIn_of_wp Tryz.func96 rfl h7 ?_ hro
 simp only [Tryz.ntmps96,List.size_toArray,lC,lN,rA,Nat.reduceSub,Array.replicate_succ,Array.replicate_zero,List.push_toArray,List.append_toArray,nA,cA]
 gi_wp2
 gi_loopw [3] (fun i wr=>i=.int .i64 (-1)∧J [] wr) (fun _ _=>0)
 case atStart=>exact ⟨by simp,h0⟩
 case round =>
  obtain ⟨rfl,hJs⟩:=hrel
  gi_wp2
  go_end0
  exact ⟨⟨_,rfl⟩,hJs⟩
set_option maxHeartbeats 1000000 in
theorem QG9 (F:Fence) (n:Nat) (h5:F.fn 66) (hro:F.round=none) (a:Option Addr) (len cap:Nat) (w:World) :
 CallsIn F n Tryz.prog 66 #[.slice a len cap] w fun e w'=>e=.returned (.func (.func 96) #[] #[.pointer (some ⟨w.heap.size,0,none⟩)])∧w'=w.alloc (.cells #[.slice a len cap] 70):=by
 refine callsIn_of_wp Tryz.func66 rfl h5 ?_ hro
 simp only [Tryz.ntmps66,List.size_toArray,lC,lN,rA,Nat.reduceSub,Array.replicate_succ,Array.replicate_zero,List.push_toArray,List.append_toArray,nA,cA]
 gi_wp2
 go_ret
 exact ⟨rfl,rfl⟩
def BitsAt (n₀:Nat) (W:World) (sv:Value) (len:Nat) (z:Nat→Nat × Nat):Prop :=
 (∃ a cap,sv=.slice a 0 cap∧len=0)∨∃ b off cap,sv=.slice (some ⟨b,off,none⟩) len cap∧b<n₀∧∀ j,j<len→W.cell? ⟨b,off+j * 2,none⟩=some (.int .i64 ((z j).1:Int))∧W.cell? ⟨b,off+j * 2+1,none⟩=some (.int .i64 ((z j).2:Int))
variable {z:Nat→Nat × Nat} {sv:Value}
theorem BitsAt.below (h:Below n₀ A B) {len:Nat}:BitsAt n₀ A sv len z→BitsAt n₀ B sv len z
 | .inl e=>.inl e
 | .inr ⟨b,off,cap,e,hb,hc⟩=>.inr ⟨b,off,cap,e,hb,fun j hj=>⟨(h.cell (p:=⟨b,off+j * 2,none⟩) hb).trans (hc j hj).1,(h.cell (p:=⟨b,off+j * 2+1,none⟩) hb).trans (hc j hj).2⟩⟩
theorem BitsAt.wide {n₁:Nat} (h:n₀≤n₁) {len:Nat}:BitsAt n₀ A sv len z→BitsAt n₁ A sv len z
 | .inl e=>.inl e
 | .inr ⟨b,off,cap,e,hb,hc⟩=>.inr ⟨b,off,cap,e,Nat.lt_of_lt_of_le hb h,hc⟩
theorem Qst (F:Fence) (n:Nat) (h8:F.fn 96) (hro:F.round=none) (hn:1≤n) (Bs n₀:Nat) (sv:Value) (len:Nat) (hlen:len≤1000) (z:Nat→Nat × Nat) (w:World) (hBs:Bs<w.heap.size) (hn₀:n₀≤w.heap.size)
 (hc:w.cell? ⟨Bs,0,none⟩=some sv) (hI:BitsAt n₀ w sv len z) :
 SeqStopsK F n Tryz.prog 96 #[.pointer (some ⟨Bs,0,none⟩)] encB (KpB n₀ Bs) (fun ys=>ys=upto (fun j=>(len - 1 - j,z (len - 1 - j))) len)
  (fun pre=>∃ k,k≤len∧pre=upto (fun j=>(len - 1 - j,z (len - 1 - j))) k) len w:=fun l J Jx W hW _ _ hY h0=>by
 have hc':=(hW.cell (p:=⟨Bs,0,none⟩) hBs).trans hc
 rcases hI.below (hW.mono hn₀) with ⟨a,cap,rfl,rfl⟩ | ⟨b,off,cap,rfl,hb,hcs⟩
 ·exact (Qo7 F n h8 hro l Bs a cap J W hc' h0).mono fun e W' ⟨he,hj⟩=>⟨he,.inl ⟨_,rfl,hj⟩⟩
 ·exact QyJ F n h8 hro hn l Bs n₀ b off len cap z hlen hb J Jx hY W hc' hcs h0
attribute [local go_sem] Oper.semAt_some
theorem QHd (W:World) (u v:Value) (t:TypeId):(W.alloc (.cells #[u,v] t)).cell? ⟨W.heap.size,0,none⟩=some u:=by
 unfold World.cell?; rw [World.alloc_heap_new]; rfl
theorem QHc (W:World) (u v:Value) (t:TypeId):(W.alloc (.cells #[u,v] t)).cell? ⟨W.heap.size,1,none⟩=some v:=by
 unfold World.cell?; rw [World.alloc_heap_new]; rfl
def Qxc (y:Nat × (Nat × Nat)):Int:=IntKind.i64.wrap (IntKind.i64.wrap (2 ^ min y.2.2 64) - 1)
def QpO (p:Int) (y:Nat × (Nat × Nat)):Int:=bits .and .i64 p (Qxc y)
def QlU (p:Int × Int) (y:Nat × (Nat × Nat)):Int × Int :=
 (bits .or .u32 p.1 (IntKind.u32.wrap (IntKind.u32.wrap (QpO p.2 y) * 2 ^ min y.2.1 32)),p.2 / 2 ^ min y.2.2 64)
def spB (x:Int) (l:List (Nat × (Nat × Nat))):Int × Int:=l.foldl QlU (0,x)
theorem Qq0 (x:Int) (l:List (Nat × (Nat × Nat))) (y:Nat × (Nat × Nat)):spB x (l++[y])=QlU (spB x l) y:=by simp [spB]
set_option maxRecDepth 100000 in
set_option maxHeartbeats 2000000 in
theorem Qvc (n:Nat) (hn:3≤n) (b1 b2 b3 b4:Value) (a:Option Addr) (len cap zn:Nat) (m x:Int) (hz:zn≤30) (z:Nat→Nat × Nat) (hlen:len≤1000) (w:World) (hI:BitsAt w.heap.size w (.slice a len cap) len z) :
 CallsIn Fence.wide n Tryz.prog 35 #[.agg #[b1,b2,b3,.slice a len cap,.int .i64 (zn:Int),b4,.int .u32 m],.int .i64 x] w fun e W'=>e=.returned (.int .u32 (spB (x / 2 ^ zn) (upto (fun j=>(len - 1 - j,z (len - 1 - j))) len)).1)∧Below w.heap.size w W':=by
 have h1:1≤n:=by omega
 have hro:Fence.wide.round=none:=rfl
 have h3:Fence.wide.fn 35:=trivial
 have h5:Fence.wide.fn 66:=trivial
 have h7:Fence.wide.fn 96:=trivial
 refine callsIn_of_wp_marks Tryz.func35 rfl h3 ?_ hro
 simp only [Tryz.ntmps35,List.size_toArray,lC,lN,rA,Nat.reduceSub,Array.replicate_succ,Array.replicate_zero,List.push_toArray,List.append_toArray,nA,cA]
 gi_wp2_with (gi_at_call 66; refine (QG9 Fence.wide (n - 1) h5 hro _ _ _ _).mono ?_; rintro e w' ⟨rfl,rfl⟩)
 have bN:=((Boxed.new (w.alloc (.cells #[b1,b2,b3,Value.slice a len cap,Value.int IntKind.i64 ↑zn,b4,Value.int IntKind.u32 m] 72)) 2 (.int .i64 (x / 2 ^ zn))).alloc (.cells #[.int .u32 0] 43)).alloc (.cells #[.slice a len cap] 70)
 have bW:=(Boxed.new ((w.alloc (.cells #[b1,b2,b3,Value.slice a len cap,Value.int IntKind.i64 ↑zn,b4,Value.int IntKind.u32 m] 72)).alloc (.cells #[.int .i64 (x / 2 ^ zn)] 2)) 43 (.int .u32 0)).alloc (.cells #[.slice a len cap] 70)
 have bS:=Boxed.new (((w.alloc (.cells #[b1,b2,b3,Value.slice a len cap,Value.int IntKind.i64 ↑zn,b4,Value.int IntKind.u32 m] 72)).alloc (.cells #[.int .i64 (x / 2 ^ zn)] 2)).alloc (.cells #[.int .u32 0] 43)) 70 (.slice a len cap)
 simp only [World.size_alloc] at bN bW bS
 have hB0:Below w.heap.size w ((((w.alloc (.cells #[b1,b2,b3,Value.slice a len cap,Value.int IntKind.i64 ↑zn,b4,Value.int IntKind.u32 m] 72)).alloc (.cells #[.int .i64 (x / 2 ^ zn)] 2)).alloc (.cells #[.int .u32 0] 43)).alloc (.cells #[.slice a len cap] 70)):=((((Below.refl _ w).alloc (lR _) _).alloc (by simp) _).alloc (by simp; omega) _).alloc (by simp; omega) _
 have hsz:((((w.alloc (.cells #[b1,b2,b3,Value.slice a len cap,Value.int IntKind.i64 ↑zn,b4,Value.int IntKind.u32 m] 72)).alloc (.cells #[.int .i64 (x / 2 ^ zn)] 2)).alloc (.cells #[.int .u32 0] 43)).alloc (.cells #[.slice a len cap] 70)).heap.size=w.heap.size+4:=by simp
 obtain ⟨W0,hW0⟩:∃ W0,((((w.alloc (.cells #[b1,b2,b3,Value.slice a len cap,Value.int IntKind.i64 ↑zn,b4,Value.int IntKind.u32 m] 72)).alloc (.cells #[.int .i64 (x / 2 ^ zn)] 2)).alloc (.cells #[.int .u32 0] 43)).alloc (.cells #[.slice a len cap] 70))=W0:=⟨_,rfl⟩
 rw [hW0] at bN bW bS hB0 hsz ⊢
 clear hW0
 refine wpIn_rangeFunc_ownH hro h1 (gf:=96) (lb:=#[.pointer (some ⟨w.heap.size+1+1+1,0,none⟩)]) rfl h7 (enters_of Tryz.func96 (by kernel_rfl) rfl)
  (Qst Fence.wide (n - 1) h7 hro (by omega) (w.heap.size+1+1+1) w.heap.size (.slice a len cap) len hlen z W0 (by omega) (by omega) bS.cell (hI.below hB0)) (fun h k=>h.trans k) (fun W l o o' hl h1 h2 h3=>⟨belowK_b (w:=W0) (by omega) W l o o' hl h1 h2 h3,World.putObj_heap_other (by omega)⟩) (Below.refl _ _) (fun _=>rfl)
  (fun pre W=>(Boxed W (w.heap.size+1) 2 (.int .i64 (spB (x / 2 ^ zn) pre).2)∧Boxed W (w.heap.size+1+1) 43 (.int .u32 (spB (x / 2 ^ zn) pre).1))∧Below w.heap.size W0 W)
  (fun _ _ _=>False)
  (OwnFrom.and (OwnFrom.and (Own.from (boxed_own _ _ _) _) (Own.from (boxed_own _ _ _) _)) (ownFrom_below (by omega) (by omega)))
  (fun _ _ _ _ _ hs _ _=>hs)
  ⟨⟨bN,bW⟩,Below.refl _ _⟩
  (fun y a' W=>∃ Bx,w.heap.size+1+1<Bx∧W.cell? ⟨Bx,0,none⟩=some (.int .i64 (y.2.1:Int))∧W.cell? ⟨Bx,1,none⟩=some (.int .i64 (y.2.2:Int))∧a'={
   tmps :=
    #[Value.agg #[b1,b2,b3,Value.slice a len cap,Value.int IntKind.i64 ↑zn,b4,Value.int IntKind.u32 m],
      Value.int IntKind.i64 x,Value.pointer (some { block:=w.heap.size,off:=0 }),
      Value.pointer (some { block:=w.heap.size+1,off:=0 }),Value.int IntKind.u32 0,
      Value.pointer (some { block:=w.heap.size+1+1,off:=0 }),undef,Value.pointer (some { block:=Bx,off:=0 }),Value.int IntKind.i64 x,
      Value.pointer (some { block:=w.heap.size,off:=4 }),Value.int IntKind.i64 ↑zn,
      Value.int IntKind.i64 (x / 2 ^ zn),Value.pointer (some { block:=w.heap.size,off:=3 }),
      Value.slice a len cap,
      Value.func (Fn.func 96) #[] #[Value.pointer (some { block:=w.heap.size+1+1+1,off:=0 })],.int .i64 (y.1:Int),.agg #[.int .i64 (y.2.1:Int),.int .i64 (y.2.2:Int)],
      undef,undef,undef,undef,undef,undef,undef,undef,undef,undef,undef,undef,undef,undef,
      undef,undef,undef],
   defers:=[] })
  (fun y a' _ X Y row hs hg hr=>by obtain ⟨Bx,g1,g2,g3,g4⟩:=hs; exact ⟨Bx,g1,cell_kept g2 hg (fun r e=>(hr r e).2),cell_kept g3 hg (fun r e=>(hr r e).2),g4⟩)
  ?assign ?body ?done ?stop
 case assign =>
  rintro l pre y W K ⟨⟨bN1,bW1⟩,hB1⟩ hK
  gi_wp2
  exact hK _ _ ((KeepsOthers.alloc _ _).from _) ⟨(Below.refl _ W).alloc (by have:=hB1.size; omega) _,Below.heap_alloc W _ _ (by have:=hB1.size; omega)⟩ ⟨⟨bN1.alloc _,bW1.alloc _⟩,hB1.alloc (by have:=hB1.size; omega) _⟩ ⟨W.heap.size,bW1.lt,QHd W _ _ _,QHc W _ _ _,rfl⟩
 case body =>
  rintro l pre y a' W hl ⟨r,hr⟩ ⟨⟨bN1,bW1⟩,hB1⟩ ⟨Bx,hBx,c1,c2,rfl⟩ hlt
  have cN:=bN1.cell
  have cW:=bW1.cell
  have fN:=bN1.frozen
  have fW:=bW1.frozen
  gi_wp2
  refine Am.wpIn_draw (kd:=fun j=>[0,0,3,0,3,3,3,3,3,0,3,3,2].getD j 1)
   (t:=.rd 0 (.rd 1 (.pu 2 (.rd 3 (.pu 4 (.pu 5 (.pu 6 (.pu 7 (.pu 8 (.rd 9 (.pu 10 (.pu 11 (.op 12 false .done))))))))))))) (by kernel_rfl) (by kernel_rfl) (Am.drawN_ok (by kernel_rfl))
   (S:=⟨⟨fun b o=>(b=w.heap.size+1+1∧o=0)∨(b=w.heap.size+1∧o=0)∨(b=Bx∧(o=0∨o=1)),fun _=>False⟩,⟨fun _ _=>False,fun _=>False⟩⟩) ?_
  have k1:∀ w',Am.Ek ⟨fun b o=>(b=w.heap.size+1+1∧o=0)∨(b=w.heap.size+1∧o=0)∨(b=Bx∧(o=0∨o=1)),fun _=>False⟩ W.drew w'→w'.cell? ⟨w.heap.size+1+1,0,none⟩=some (.int .u32 (spB (x / 2 ^ zn) pre).1):=fun w' hk=>(hk.cells _ _ (.inl ⟨rfl,rfl⟩)).trans cW
  have k2:∀ w',Am.Ek ⟨fun b o=>(b=w.heap.size+1+1∧o=0)∨(b=w.heap.size+1∧o=0)∨(b=Bx∧(o=0∨o=1)),fun _=>False⟩ W.drew w'→w'.cell? ⟨w.heap.size+1,0,none⟩=some (.int .i64 (spB (x / 2 ^ zn) pre).2):=fun w' hk=>(hk.cells _ _ (.inr (.inl ⟨rfl,rfl⟩))).trans cN
  have k3:∀ w',Am.Ek ⟨fun b o=>(b=w.heap.size+1+1∧o=0)∨(b=w.heap.size+1∧o=0)∨(b=Bx∧(o=0∨o=1)),fun _=>False⟩ W.drew w'→w'.cell? ⟨Bx,0,none⟩=some (.int .i64 (y.2.1:Int)):=fun w' hk=>(hk.cells _ _ (.inr (.inr ⟨rfl,.inl rfl⟩))).trans c1
  have k4:∀ w',Am.Ek ⟨fun b o=>(b=w.heap.size+1+1∧o=0)∨(b=w.heap.size+1∧o=0)∨(b=Bx∧(o=0∨o=1)),fun _=>False⟩ W.drew w'→w'.cell? ⟨Bx,1,none⟩=some (.int .i64 (y.2.2:Int)):=fun w' hk=>(hk.cells _ _ (.inr (.inr ⟨rfl,.inr rfl⟩))).trans c2
  refine ⟨_,.int .u32 (spB (x / 2 ^ zn) pre).1,rfl,.inl ⟨rfl,fun w' hk=>?_⟩,?_⟩
  ·simp [go_sem,k1 w' hk]
  refine ⟨_,.int .i64 (spB (x / 2 ^ zn) pre).2,rfl,.inl ⟨rfl,fun w' hk=>?_⟩,?_⟩
  ·simp [go_sem,k2 w' hk]
  refine ⟨_,.pointer (some ⟨Bx,1,none⟩),rfl,.inl ⟨rfl,fun w' hk=>?_⟩,?_⟩
  ·simp [go_sem]
  refine ⟨_,.int .i64 (y.2.2:Int),rfl,.inl ⟨rfl,fun w' hk=>?_⟩,?_⟩
  ·simp [go_sem,k4 w' hk]
  refine ⟨_,.int .i64 (IntKind.i64.wrap (2 ^ min y.2.2 64)),rfl,.inl ⟨rfl,fun w' hk=>?_⟩,?_⟩
  ·simp [go_sem]
  refine ⟨_,.int .i64 (Qxc y),rfl,.inl ⟨rfl,fun w' hk=>?_⟩,?_⟩
  ·simp [go_sem,Qxc]
  refine ⟨_,.int .i64 (QpO (spB (x / 2 ^ zn) pre).2 y),rfl,.inl ⟨rfl,fun w' hk=>?_⟩,?_⟩
  ·simp [go_sem,QpO]
  refine ⟨_,.int .u32 (IntKind.u32.wrap (QpO (spB (x / 2 ^ zn) pre).2 y)),rfl,.inl ⟨rfl,fun w' hk=>?_⟩,?_⟩
  ·simp [go_sem]
  refine ⟨_,.pointer (some ⟨Bx,0,none⟩),rfl,.inl ⟨rfl,fun w' hk=>?_⟩,?_⟩
  ·simp [go_sem]
  refine ⟨_,.int .i64 (y.2.1:Int),rfl,.inl ⟨rfl,fun w' hk=>?_⟩,?_⟩
  ·simp [go_sem,k3 w' hk]
  refine ⟨_,.int .u32 (IntKind.u32.wrap (IntKind.u32.wrap (QpO (spB (x / 2 ^ zn) pre).2 y) * 2 ^ min y.2.1 32)),rfl,.inl ⟨rfl,fun w' hk=>?_⟩,?_⟩
  ·simp [go_sem]
  refine ⟨_,.int .u32 (QlU (spB (x / 2 ^ zn) pre) y).1,rfl,.inl ⟨rfl,fun w' hk=>?_⟩,?_⟩
  ·simp [go_sem,QlU]
  have cW':W.drew.cell? ⟨w.heap.size+1+1,0,none⟩=some (.int .u32 (spB (x / 2 ^ zn) pre).1):=cW
  have fW':W.drew.frozen? ⟨w.heap.size+1+1,0,none⟩=false:=fW
  refine Am.opN_skip (w':=W.drew.setCell ⟨w.heap.size+1+1,0,none⟩ (.int .u32 (QlU (spB (x / 2 ^ zn) pre) y).1)) rfl rfl ?_ ?_
  ·simp [go_sem,cW',fW']
  ·refine ⟨⟨⟨fun b o=>(b=w.heap.size+1+1∧o=0)∨(b=w.heap.size+1∧o=0)∨(b=Bx∧(o=0∨o=1)),fun _=>False⟩,⟨fun _ _=>False,fun _=>False⟩⟩,⟨Am.Sg.le.refl _,⟨rfl,rfl,rfl,by simp,fun _ _ h=>h.elim,fun _ h=>h.elim⟩⟩,fun h=>by (cases h),?_⟩
   obtain ⟨W2,hW2⟩:∃ W2,W.drew.setCell ⟨w.heap.size+1+1,0,none⟩ (.int .u32 (QlU (spB (x / 2 ^ zn) pre) y).1)=W2:=⟨_,rfl⟩
   have bW2:Boxed W2 (w.heap.size+1+1) 43 (.int .u32 (QlU (spB (x / 2 ^ zn) pre) y).1):=by rw [← hW2]; exact Boxed.set _ (show Boxed W.drew _ _ _ from bW1)
   have bN2:Boxed W2 (w.heap.size+1) 2 (.int .i64 (spB (x / 2 ^ zn) pre).2):=by rw [← hW2]; exact Boxed.other (show Boxed W.drew _ _ _ from bN1) (by omega) _
   have c22:W2.cell? ⟨Bx,1,none⟩=some (.int .i64 (y.2.2:Int)):=by
    rw [← hW2]
    have:(W.drew.setCell ⟨w.heap.size+1+1,0,none⟩ (.int .u32 (QlU (spB (x / 2 ^ zn) pre) y).1)).heap[Bx]?=W.drew.heap[Bx]?:=(grownBy_setCell' W.drew _ _).block Bx (by
     have:=c2; unfold World.cell? at this; split at this
     ·rename_i hh; exact (Array.getElem?_eq_some_iff.1 hh).1
     ·cases this) (fun e=>by cases e; omega)
    exact (Am.cell?_of_old (a:=⟨Bx,1,none⟩) this).trans c2
   have hK2:KeepsFrom W0.heap.size W W2:=by rw [← hW2]; exact (KeepsOthers.drew W).trans (KeepsOthers.setCell _ _ _) |>.from _
   have hB2:KpB w.heap.size (w.heap.size+1+1+1) W W2:=by
    rw [← hW2]
    exact ⟨(Below.refl _ W).drew.setCell (p:=⟨w.heap.size+1+1,0,none⟩) (by show w.heap.size≤w.heap.size+1+1; omega) _,(grownBy_setCell' W.drew _ _).block (w.heap.size+1+1+1) (by have:=hB1.size; show _<W.heap.size; omega) (fun e=>by have:=Option.some.inj e; omega)⟩
   rw [hW2]
   clear hW2
   have cN2:=bN2.cell
   have fN2:=bN2.frozen
   simp only [Am.RTree]
   gi_wp2
   refine ⟨hK2.trans ((KeepsOthers.setCell _ _ _).from _),hB2.trans ⟨(Below.refl _ W2).setCell (p:=⟨w.heap.size+1,0,none⟩) (by simp) _,(grownBy_setCell' W2 _ _).block (w.heap.size+1+1+1) (by have:=hB1.size; have:=hB2.1.size; omega) (fun e=>by have:=Option.some.inj e; omega)⟩,⟨?_,?_⟩,?_⟩
   ·rw [Qq0]; exact bN2.set _
   ·rw [Qq0]; exact Boxed.other bW2 (by omega) _
   ·exact (hB1.trans hB2.1).setCell (p:=⟨w.heap.size+1,0,none⟩) (by simp) _
 case done =>
  rintro D ys W hD rfl ⟨⟨bN1,bW1⟩,hB1⟩ hK
  have cW:=bW1.cell
  gi_wp2
  refine ⟨by simp,.inl ⟨_,_,rfl,run_takeDeferred hK,?_⟩⟩
  exact ⟨_,results_tmp rfl _ _ _,rfl,(hB0.trans hB1).trans (belowK_b (w:=w) (lR _) W D _ _ (by omega) hK rfl rfl)⟩
 case stop =>
  rintro D c pre W _ _ h _
  exact h.elim
end Go.Proofs.YtaidbdgndljaeaaGreatDoor
namespace Go.Proofs.YtaidbdgndljaeaaGreatDoor
open Go Go.Am Go.Rv
set_option maxRecDepth 100000
variable {P:Program} {G:Nat→Option V}
section
attribute [local go_sem] nF aZ lR zA zL decide_false decide_true Qw Qd8 QBC QBB Qa4 QCQ QCP QCO QCN QCM QCL QCK QCJ
def u32 (w:Int):Prop:=0≤w∧w<4294967296
def frm (a b c:Bool) (l:List (Nat × Nat)) (z:Nat) (sg:Bool) (m:Int):List V:=[.bool a,.bool b,.bool c,Qsn l,.int .i64 z,.bool sg,.int .u32 m]
theorem QbV (m k:Nat) (h:m≤k):(1:Int)≤2 ^ m∧(2:Int) ^ m≤2 ^ k:=by
 have h1:=Nat.pow_le_pow_right (n:=2) (by omega) h
 have h2:0<2 ^ m:=Nat.pow_pos (by omega)
 constructor
 ·exact_mod_cast h2
 ·exact_mod_cast h1
theorem QrB {w:Int} {a m:Nat} (hw:u32 w) (ha:a≤31) (hm:m≤30) :
 IntKind.u32.wrap (BitVec.ofInt 32 (w.fdiv (2 ^ min a 32)) &&& BitVec.ofInt 32 (IntKind.u32.wrap (IntKind.u32.wrap (1 * 2 ^ min m 32) - 1))).toNat=fld w a m:=by
 have e1:min a 32=a:=by omega
 have e2:min m 32=m:=by omega
 obtain ⟨p1,p2⟩:=QbV m 30 hm
 have e3:IntKind.u32.wrap (1 * 2 ^ m)=2 ^ m:=by
  rw [Int.one_mul]; exact X8 _ (by simp [IntKind.min,IntKind.signed]; omega) (by simp [IntKind.max,IntKind.signed,IntKind.bits]; omega)
 have e4:IntKind.u32.wrap (2 ^ m - 1)=2 ^ m - 1:=X8 _ (by simp [IntKind.min,IntKind.signed]; omega) (by simp [IntKind.max,IntKind.signed,IntKind.bits]; omega)
 obtain ⟨q1,q2⟩:=QbV a 31 ha
 rw [e1,e2,e3,e4,Int.fdiv_eq_ediv_of_nonneg _ (by omega)]
 exact Qqq .u32 m _ _ rfl (by simp [IntKind.bits]; omega)
theorem c_of (hT:Qk P tab) (w:Int) (a m:Nat) (hw:u32 w) (ha:a≤31) (hm:m≤30):Pure P G Qgg [pr a m,.int .u32 w] fun v=>v=.int .u32 (fld w a m):=by
 intro t
 refine Qp 0 (zL _) (Qt hT QbL (by simp [Qd8]) (Qn 1000 ?_))
 simp -implicitDefEqProofs (disch:=omega) only [go_sem,↓reduceIte,reduceCtorEq,rA,rq,rL,pr]
 exact congrArg (V.int .u32) (QrB hw ha hm)
theorem Qen (l:List (Nat × Nat)):∃ z,Qsn l=.lst z (l.map fun b=>pr b.1 b.2) true∧(z=2∨l=[]):=by
 cases l with
 | nil=>exact ⟨0,rfl,.inr rfl⟩
 | cons b l=>exact ⟨2,rfl,.inl rfl⟩
variable {l:List (Nat × Nat)}
theorem QGs (hb:∀ p∈l,p.2≤30) (z:Nat):QO l z≤z+30 * l.length:=by
 induction l generalizing z with
 | nil=>simp [QO]
 | cons p l ih =>
   have h1:=hb p List.mem_cons_self
   have:=ih (fun q hq=>hb q (List.mem_cons_of_mem _ hq)) (z+p.2)
   simp only [QO,List.foldl_cons,lC] at this ⊢
   omega
variable {i:Nat}
theorem Qht {p:Nat × Nat} (h:l[i]?=some p) (z:Nat):QO (l.take (i+1)) z=QO (l.take i) z+p.2:=by
 rw [List.take_add_one,h]; simp [QO]
theorem wrap_i64 {x:Int} (h1:-9223372036854775808≤x) (h2:x≤9223372036854775807):IntKind.i64.wrap x=x:=X8 _ (by simpa [IntKind.min,IntKind.signed,IntKind.bits] using h1) (by simpa [IntKind.max,IntKind.signed,IntKind.bits] using h2)
theorem Qd2 {n:Nat} (h:i<n) (hn:n≤1000000000):IntKind.i64.wrap ((i:Int)+1)=((i+1:Nat):Int):=by rw [wrap_i64 (by omega) (by omega)]; rfl
theorem Qwa (hT:Qk P tab) (a b c:Bool) (l:List (Nat × Nat)) (z:Nat) (sg:Bool) (m:Int) (hl:l.length≤4) (hb:∀ p∈l,p.2≤30) (hz:z≤30) :
 Pure P G Qgf [.agg (frm a b c l z sg m)] fun v=>v=.int .i64 (QO l z):=by
 intro t
 obtain ⟨y,hy,hyl⟩:=Qen l
 refine Qp 0 (zL _) (Qt hT QaZ (by simp [Qa4]) (Qn 1000 ?_))
 simp -implicitDefEqProofs (disch:=omega) only [go_sem,↓reduceIte,reduceCtorEq,rA,rq,rL,frm,hy,lM]
 refine Qm3 (fun n fr σ=>∃ i t',i≤l.length∧n=l.length - i∧Qg fr 3=.int .i64 (QO (l.take i) z)∧Qg fr 9=.lst y (l.map fun b=>pr b.1 b.2) true∧Qg fr 10=.int .i64 l.length∧Qg fr 11=.int .i64 i ∧
  σ=⟨t',[some (.arr t 72 (frm a b c l z sg m))]⟩) (fun n fr σ hJ=>?_) (m0:=l.length) ⟨0,t+1,zL _,rfl,?_⟩
 ·obtain ⟨i,t',hi,rfl,f3,f9,f10,f11,rfl⟩:=hJ
  refine Qn 1000 ?_
  rcases Nat.lt_or_ge i l.length with hlt | hge
  ·have hy2:y=2:=by rcases hyl with h | h; exact h; rw [h] at hlt; simp at hlt
   subst hy2
   obtain ⟨p,hp⟩:∃ p,l[i]?=some p:=⟨_,List.getElem?_eq_getElem hlt⟩
   have hg:(l.map fun b=>pr b.1 b.2).getD i .any=.agg [.int .i64 p.1,.int .i64 p.2]:=by simp [List.getD_eq_getElem?_getD,hp,pr]
   have hw:=QGs (l:=l.take (i+1)) (fun q hq=>hb q (List.mem_of_mem_take hq)) z
   have hw2:(l.take (i+1)).length≤4:=by simp; omega
   rw [Qht hp] at hw
   have e1:IntKind.i64.wrap ((QO (l.take i) z:Int)+(p.2:Int))=((QO (l.take (i+1)) z:Nat):Int):=by rw [Qht hp,wrap_i64 (by omega) (by omega)]; push_cast; rfl
   have e2:=Qd2 hlt (by omega)
   simp -implicitDefEqProofs (disch:=omega) only [go_sem,↓reduceIte,reduceCtorEq,rA,rq,frm,hy,lM,f3,f9,f10,f11,hlt,hg]
   refine ⟨l.length - (i+1),_,_,by omega,Shift.drop (o':=[some (.arr t 72 (frm a b c l z sg m))]) (t':=t'+1) (by simp [YR,frm,hy]) (lR _) (zL _),i+1,t'+1,hlt,rfl,?_⟩
   simp -implicitDefEqProofs (disch:=omega) only [go_sem,↓reduceIte,rq,frm,hy,f9,f10,e1,e2]
  ·simp -implicitDefEqProofs (disch:=omega) only [go_sem,↓reduceIte,f10,f11,show ¬ i<l.length from by omega]
   have hi:i=l.length:=by omega
   subst hi
   rw [List.take_length] at f3
   refine Qa 1000 ?_
   simp -implicitDefEqProofs (disch:=omega) only [go_sem,↓reduceIte,rq,f3]
 ·simp -implicitDefEqProofs (disch:=omega) only [go_sem,↓reduceIte,reduceCtorEq,rq,frm,hy]
  simp [QO]
end
section
attribute [local go_sem] nF lR zA zL decide_false decide_true Qw Qax QBM QBL QtT QBK QBJ QBI QBH QBG QBF QBE QBD
theorem Qrm (w:Int) (a m:Nat):0≤fld w a m∧fld w a m<2 ^ m:=by
 have:=(QbV m m (lR _)).1
 exact ⟨Int.emod_nonneg _ (by omega),Int.emod_lt_of_pos _ (by omega)⟩
variable {p:Nat × Nat} {i:Nat} {l:List (Nat × Nat)} {w:Int}
theorem Qpd (h:l[i]?=some p) (z:Int):QmN w (l.take (i+1)) z=QmN w (l.take i) z * 2 ^ p.2+fld w p.1 p.2:=by
 rw [List.take_add_one,h]; simp [QmN]
theorem Qqr (w:Int) (l:List (Nat × Nat)):∀ i,0≤QmN w (l.take i) 0∧QmN w (l.take i) 0<2 ^ QO (l.take i) 0:=by
 intro i
 induction i with
 | zero=>simp [QmN,QO]
 | succ i ih =>
   cases h:l[i]? with
   | none=>rw [List.take_of_length_le (by have:=List.getElem?_eq_none_iff.1 h; omega)]; rw [List.take_of_length_le (by have:=List.getElem?_eq_none_iff.1 h; omega)] at ih; exact ih
   | some p =>
     rw [Qpd h,Qht h]
     obtain ⟨f1,f2⟩:=Qrm w p.1 p.2
     obtain ⟨g1,_⟩:=QbV p.2 p.2 (lR _)
     constructor
     ·have:=Int.mul_nonneg ih.1 (show (0:Int)≤2 ^ p.2 by omega); omega
     ·rw [Int.pow_add]
      have h1:QmN w (l.take i) 0+1≤2 ^ QO (l.take i) 0:=by omega
      have:=Int.mul_le_mul_of_nonneg_right h1 (show (0:Int)≤2 ^ p.2 by omega)
      rw [Int.add_mul] at this
      omega
theorem QrL (l:List (Nat × Nat)) (i:Nat):QO (l.take i) 0≤QO l 0:=by
 have key:∀ (l:List (Nat × Nat)) (a b:Nat),a≤b→a≤QO l b:=by
  intro l
  induction l with
  | nil=>intro a b h; exact h
  | cons p l ih=>intro a b h; exact ih a (b+p.2) (by omega)
 have:QO l 0=QO (l.drop i) (QO (l.take i) 0):=by
  conv=>lhs; rw [← List.take_append_drop i l]
  rw [QO,List.foldl_append]; rfl
 rw [this]
 exact key _ _ _ (lR _)
theorem QxC (h:l[i]?=some p) (hl:QO l 0≤60) (hp:p.2≤30) :
 IntKind.i64.wrap (BitVec.ofInt 64 (IntKind.i64.wrap (QmN w (l.take i) 0 * 2 ^ min p.2 64)) ||| BitVec.ofInt 64 (IntKind.i64.wrap (fld w p.1 p.2))).toNat=QmN w (l.take (i+1)) 0:=by
 have e1:min p.2 64=p.2:=by omega
 obtain ⟨f1,f2⟩:=Qrm w p.1 p.2
 obtain ⟨g1,g2⟩:=QbV p.2 30 hp
 have hb:=Qqr w l (i+1)
 have hw:=QrL l (i+1)
 obtain ⟨_,q2⟩:=QbV (QO (l.take (i+1)) 0) 60 (by omega)
 have hb0:=Qqr w l i
 rw [Qpd h] at hb ⊢
 have hm:=Int.mul_nonneg hb0.1 (show (0:Int)≤2 ^ p.2 by omega)
 rw [e1,wrap_i64 (x:=QmN w (l.take i) 0 * 2 ^ p.2) (by omega) (by omega),wrap_i64 (x:=fld w p.1 p.2) (by omega) (by omega)]
 exact Qq4 .i64 p.2 _ _ hm f1 f2 (Int.mul_emod_left _ _) (by simp [IntKind.max,IntKind.signed,IntKind.bits]; omega)
theorem Qvd {n:Int} {b:Nat} (h0:0≤n) (h1:n<2 ^ b) (hb:1≤b) (hb2:b≤60):(IntKind.i64.wrap (n * 2 ^ (64 - b))).fdiv (2 ^ (64 - b))=sgn n b:=by
 obtain ⟨s1,_⟩:=QbV (64 - b) 64 (by omega)
 have hp:(2:Int) ^ b=2 * 2 ^ (b - 1):=by
  have:b=(b - 1)+1:=by omega
  conv=>lhs; rw [this,Int.pow_succ]
  omega
 have hsp:(2:Int) ^ (64 - b) * 2 ^ (b - 1)=9223372036854775808:=by
  rw [← Int.pow_add]
  have:64 - b+(b - 1)=63:=by omega
  rw [this]; rfl
 unfold sgn
 rw [Int.fdiv_eq_ediv_of_nonneg _ (by omega)]
 generalize hs:(2:Int) ^ (64 - b)=s at *
 generalize hq:(2:Int) ^ (b - 1)=q at *
 rw [hp] at h1 ⊢
 split
 ·rename_i hge
  have e:IntKind.i64.wrap (n * s)=(n - 2 * q) * s:=by
   have a1:=Int.mul_le_mul_of_nonneg_right hge (show 0≤s by omega)
   have a2:=Int.mul_le_mul_of_nonneg_right (show n+1≤2 * q by omega) (show 0≤s by omega)
   rw [Int.add_mul] at a2
   rw [Int.sub_mul,Int.mul_assoc 2 q s,Int.mul_comm q s,hsp]
   rw [Int.mul_assoc 2 q s,Int.mul_comm q s,hsp] at a2
   rw [Int.mul_comm q s,hsp] at a1
   unfold IntKind.wrap
   simp [IntKind.bits,IntKind.signed]
   omega
  rw [e,Int.mul_ediv_cancel _ (by omega)]
 ·rename_i hlt
  have a1:=Int.mul_le_mul_of_nonneg_right (show n+1≤q by omega) (show 0≤s by omega)
  rw [Int.add_mul,Int.mul_comm q s,hsp] at a1
  have a2:=Int.mul_nonneg h0 (show 0≤s by omega)
  rw [wrap_i64 (by omega) (by omega),Int.mul_ediv_cancel _ (by omega)]
theorem Qyu (hT:Qk P tab) (a b c:Bool) (l:List (Nat × Nat)) (z:Nat) (sg:Bool) (m w:Int) (hl:l.length≤4) (hb:∀ p∈l,p.1≤31∧p.2≤30) (hz:z≤30) (hwd:QO l 0+z≤60) (hwz:QO l z=QO l 0+z) (hsg:sg=true→1≤QO l z) (hw:u32 w) :
 Pure P G Qcc [.agg (frm a b c l z sg m),.int .u32 w] fun v=>v=.int .i64 (if sg then sgn (QmN w l 0 * 2 ^ z) (QO l z) else QmN w l 0 * 2 ^ z):=by
 intro t
 obtain ⟨y,hy,hyl⟩:=Qen l
 refine Qp 0 (zL _) (Qt hT Qe7 (by simp [Qax]) (Qn 1000 ?_))
 simp -implicitDefEqProofs (disch:=omega) only [go_sem,↓reduceIte,reduceCtorEq,rA,rq,rL,frm,hy,lM]
 refine Qm3 (fun n fr σ=>∃ i t',i≤l.length∧n=l.length - i∧Qg fr 1=.int .u32 w∧Qg fr 2=.ptr 0 t 0∧Qg fr 5=.int .i64 (QmN w (l.take i) 0)∧Qg fr 9=.lst y (l.map fun b=>pr b.1 b.2) true∧Qg fr 10=.int .i64 l.length∧Qg fr 11=.int .i64 i ∧
  σ=⟨t',[some (.arr t 72 (frm a b c l z sg m))]⟩) (fun n fr σ hJ=>?_) (m0:=l.length) ⟨0,t+1,zL _,rfl,?_⟩
 ·obtain ⟨i,t',hi,rfl,f1,f2,f5,f9,f10,f11,rfl⟩:=hJ
  refine Qn 1000 ?_
  rcases Nat.lt_or_ge i l.length with hlt | hge
  ·have hy2:y=2:=by rcases hyl with h | h; exact h; rw [h] at hlt; simp at hlt
   subst hy2
   obtain ⟨p,hp⟩:∃ p,l[i]?=some p:=⟨_,List.getElem?_eq_getElem hlt⟩
   have hpb:=hb p (List.mem_of_getElem? hp)
   have hg:(l.map fun b=>pr b.1 b.2).getD i .any=.agg [.int .i64 p.1,.int .i64 p.2]:=by simp [List.getD_eq_getElem?_getD,hp,pr]
   have e1:=QxC (w:=w) hp (by omega) hpb.2
   have e2:=Qd2 hlt (by omega)
   simp -implicitDefEqProofs (disch:=omega) only [go_sem,↓reduceIte,reduceCtorEq,rA,rq,frm,hy,lM,f1,f5,f9,f10,f11,hlt,hg]
   refine QN hT QbL (c_of hT w p.1 p.2 hw hpb.1 hpb.2) rfl 1000 fun v hv=>?_
   subst hv
   simp -implicitDefEqProofs (disch:=omega) only [go_sem,↓reduceIte,rq,f11]
   refine ⟨l.length - (i+1),_,_,by omega,Shift.drop (o':=[some (.arr t 72 (frm a b c l z sg m))]) (t':=t'+1) (by simp [YR,frm,hy]) (lR _) (zL _),i+1,t'+1,hlt,rfl,?_⟩
   simp -implicitDefEqProofs (disch:=omega) only [go_sem,↓reduceIte,rq,frm,hy,f1,f2,f9,f10,e2]
   exact congrArg (V.int .i64) e1
  ·have hi:i=l.length:=by omega
   subst hi
   rw [List.take_length] at f5
   have hac:=Qqr w l l.length
   rw [List.take_length] at hac
   simp -implicitDefEqProofs (disch:=omega) only [go_sem,↓reduceIte,f10,f11,show ¬ l.length<l.length from by omega]
   refine Qa 1000 ?_
   have ez:min z 64=z:=by omega
   obtain ⟨g1,g2⟩:=QbV (QO l 0+z) 60 hwd
   obtain ⟨y1,_⟩:=QbV z 30 hz
   have h1:=Int.mul_le_mul_of_nonneg_right (show QmN w l 0+1≤2 ^ QO l 0 by omega) (show (0:Int)≤2 ^ z by omega)
   rw [Int.add_mul,← Int.pow_add] at h1
   have h2:=Int.mul_nonneg hac.1 (show (0:Int)≤2 ^ z by omega)
   have e3:IntKind.i64.wrap (QmN w l 0 * 2 ^ z)=QmN w l 0 * 2 ^ z:=wrap_i64 (by omega) (by omega)
   cases sg with
   | false=>simp -implicitDefEqProofs (disch:=omega) only [go_sem,↓reduceIte,rA,rq,rL,f2,f5,frm,hy,ez,e3]
   | true =>
     have cw:=Qwa (G:=G) hT a b c l z true m hl (fun p hp=>(hb p hp).2) hz
     simp only [frm,hy] at cw
     have hwd1:=hsg rfl
     have e4:IntKind.i64.wrap (64 - (QO l z:Int))=((64 - QO l z:Nat):Int):=by rw [wrap_i64 (by omega) (by omega)]; omega
     have e5:=Qvd (n:=QmN w l 0 * 2 ^ z) (b:=QO l z) h2 (by rw [hwz]; omega) hwd1 (by omega)
     have e6:min (64 - QO l z) 64=64 - QO l z:=by omega
     have e7:(0:Int)≤((64 - QO l z:Nat):Int):=by omega
     simp -implicitDefEqProofs (disch:=omega) only [go_sem,↓reduceIte,reduceCtorEq,rA,rq,rL,f2,f5,frm,hy,ez,e3]
     refine QN hT QaZ cw rfl 1000 fun v hv=>?_
     subst hv
     simp -implicitDefEqProofs (disch:=omega) only [go_sem,↓reduceIte,rq,e4,e6,e7,Int.toNat_natCast]
     refine QN hT QaZ cw rfl 1000 fun v hv=>?_
     subst hv
     simp -implicitDefEqProofs (disch:=omega) only [go_sem,↓reduceIte,rq,e4,e6,e7,Int.toNat_natCast,e5]
 ·simp -implicitDefEqProofs (disch:=omega) only [go_sem,↓reduceIte,reduceCtorEq,rq,frm,hy]
  simp [QmN]
end
section
attribute [local go_sem] nF lR zA zL decide_false decide_true ge_iff_le Qw QbR zqu_0 zqu_1 zqu_2 zqu_3 zqu_4 Qvk zqs_0 zqs_1 zqs_2 zqs_3 zqs_4 Qc1 zqv_0 zqv_1 zqv_2 zqv_3 zqv_4 zqv_5 zqv_6 zqv_7
theorem c_fits (hT:Qk P tab) (a b c:Bool) (l:List (Nat × Nat)) (z:Nat) (sg:Bool) (m n:Int) (hl:l.length≤4) (hb:∀ p∈l,p.1≤31∧p.2≤30) (hz:z≤30) (hwd:QO l z≤60) (hn:i64 n) :
 Pure P G QdX [.agg (frm a b c l z sg m),.int .i64 n] fun v=>v=.bool (if sg then decide (n≥(0 - (2:Int) ^ QO l z).tdiv 2∧n<((2:Int) ^ QO l z).tdiv 2∧n % 2 ^ z=0) else decide (n≥0∧n<(2:Int) ^ QO l z∧n % 2 ^ z=0)):=by
 intro t
 obtain ⟨y,hy,hyl⟩:=Qen l
 have cw:=Qwa (G:=G) hT a b c l z sg m hl (fun p hp=>(hb p hp).2) hz
 simp only [frm,hy] at cw
 obtain ⟨g1,g2⟩:=QbV (QO l z) 60 hwd
 obtain ⟨y1,y2⟩:=QbV z 30 hz
 have e1:min (QO l z) 64=QO l z:=by omega
 have e2:min z 64=z:=by omega
 have e3:IntKind.i64.wrap (1 * 2 ^ QO l z)=2 ^ QO l z:=by rw [Int.one_mul]; exact wrap_i64 (by omega) (by omega)
 have e4:IntKind.i64.wrap (0 - 2 ^ QO l z)=0 - 2 ^ QO l z:=wrap_i64 (by omega) (by omega)
 have d1:((2:Int) ^ QO l z).tdiv 2=2 ^ QO l z / 2:=Int.tdiv_eq_ediv_of_nonneg (by omega)
 have d2:(0 - (2:Int) ^ QO l z).tdiv 2=-(2 ^ QO l z / 2):=by rw [Int.zero_sub,Int.neg_tdiv,d1]
 have e5:IntKind.i64.wrap ((0 - 2 ^ QO l z:Int).tdiv 2)=(0 - 2 ^ QO l z:Int).tdiv 2:=wrap_i64 (by omega) (by omega)
 have e6:IntKind.i64.wrap ((2 ^ QO l z:Int).tdiv 2)=(2 ^ QO l z:Int).tdiv 2:=wrap_i64 (by omega) (by omega)
 have e7:IntKind.i64.wrap (1 * 2 ^ z)=2 ^ z:=by rw [Int.one_mul]; exact wrap_i64 (by omega) (by omega)
 have e8:IntKind.i64.wrap ((2:Int) ^ z - 1)=2 ^ z - 1:=wrap_i64 (by omega) (by omega)
 have e9:IntKind.i64.wrap (BitVec.ofInt 64 n &&& BitVec.ofInt 64 ((2:Int) ^ z - 1)).toNat=n % 2 ^ z:=Qqq .i64 z _ _ rfl (by simp [IntKind.bits]; omega)
 refine Qp 0 (zL _) (Qt hT Qhf (by simp [QbR]) (Qn 1000 ?_))
 simp -implicitDefEqProofs (disch:=omega) only [go_sem,↓reduceIte,reduceCtorEq,rA,rq,frm,hy]
 refine QN hT QaZ cw rfl 1000 fun v hv=>?_
 subst hv
 cases sg with
 | false =>
   simp -implicitDefEqProofs (disch:=omega) only [go_sem,↓reduceIte,reduceCtorEq,rA,rq,rL,e1,e2,e3,e7,e8]
   have e9':=e9
   refine ⟨fun h1=>⟨fun h2=>?_,fun h2=>?_⟩,fun h1=>?_⟩
   ·have:V.bool (n % 2 ^ z==0)=V.bool (decide (0≤n∧n<2 ^ QO l z∧n % 2 ^ z=0)):=by simp [h1,h2]; rfl
    rw [← this]
    exact congrArg (fun x:Int=>V.bool (x==0)) e9
   ·simp [h2]
   ·simp [h1]
 | true =>
   simp -implicitDefEqProofs (disch:=omega) only [go_sem,↓reduceIte,reduceCtorEq,rA,rq,rL,Int.reduceEq,e1,e2,e3,e4,e5,e6,e7,e8]
   refine ⟨fun h1=>⟨fun h2=>?_,fun h2=>?_⟩,fun h1=>?_⟩
   ·have:V.bool (n % 2 ^ z==0)=V.bool (decide ((0 - (2:Int) ^ QO l z).tdiv 2≤n∧n<((2:Int) ^ QO l z).tdiv 2∧n % 2 ^ z=0)):=by simp only [h1,h2,true_and]; rfl
    rw [← this]
    exact congrArg (fun x:Int=>V.bool (x==0)) e9
   ·simp only [h2,false_and,and_false,decide_false]
   ·simp only [h1,false_and,decide_false]
theorem Qsj (hT:Qk P tab) (l:List Int) (q:Bool) (hl:l.length≤100):Pure P G Qil [.lst 1 (l.map (V.int .u32)) q] fun v=>v=.int .u32 (orP l):=by
 intro t
 refine Qp 0 (zL _) (Qt hT Qh4 (by simp [Qc1]) (Qn 1000 ?_))
 simp -implicitDefEqProofs (disch:=omega) only [go_sem,↓reduceIte,reduceCtorEq,rq,lM]
 refine Qm3 (fun n fr σ=>∃ i,i≤l.length∧n=l.length - i∧Qg fr 3=.int .u32 (orP (l.take i))∧Qg fr 6=.lst 1 (l.map (V.int .u32)) q∧Qg fr 7=.int .i64 l.length∧Qg fr 8=.int .i64 i ∧
  σ=⟨t,[]⟩) (fun n fr σ hJ=>?_) (m0:=l.length) ⟨0,zL _,rfl,?_⟩
 ·obtain ⟨i,hi,rfl,f3,f6,f7,f8,rfl⟩:=hJ
  refine Qn 1000 ?_
  rcases Nat.lt_or_ge i l.length with hlt | hge
  ·obtain ⟨p,hp⟩:∃ p,l[i]?=some p:=⟨_,List.getElem?_eq_getElem hlt⟩
   have hg:(l.map (V.int .u32)).getD i .any=.int .u32 p:=by simp [List.getD_eq_getElem?_getD,hp]
   have e1:orP (l.take (i+1))=IntKind.u32.wrap (BitVec.ofInt 32 (orP (l.take i)) ||| BitVec.ofInt 32 p).toNat:=by rw [List.take_add_one,hp]; simp [orP]
   have e2:=Qd2 hlt (by omega)
   simp -implicitDefEqProofs (disch:=omega) only [go_sem,↓reduceIte,rq,lM,f3,f6,f7,f8,hlt,hg]
   refine ⟨l.length - (i+1),_,_,by omega,Shift.refl _ _ _ _,i+1,hlt,rfl,?_⟩
   simp -implicitDefEqProofs (disch:=omega) only [go_sem,↓reduceIte,rq,f6,f7,e2,and_true]
   exact congrArg (V.int .u32) e1.symm
  ·have hi:i=l.length:=by omega
   subst hi
   rw [List.take_length] at f3
   simp -implicitDefEqProofs (disch:=omega) only [go_sem,↓reduceIte,f7,f8,show ¬ l.length<l.length from by omega]
   refine Qa 1000 ?_
   simp -implicitDefEqProofs (disch:=omega) only [go_sem,↓reduceIte,rq,f3]
 ·simp -implicitDefEqProofs (disch:=omega) only [go_sem,↓reduceIte,reduceCtorEq,rq]
  simp [orP]
theorem QmY:tabC.length=594:=by decide +kernel
theorem QkZ:ones tabC:=by
 have:tabC.all QwI=true:=by decide +kernel
 intro c hc
 exact List.all_eq_true.1 this c hc
theorem Qh3:Qb tabC=true:=by decide +kernel
theorem QqY:∀ k:Fin 66,(tabC.drop (k * 9)).take 9=(if k.val=0 then zeroC else QlV (T.getD (k.val - 1) ⟨0,[],0,0,0⟩)):=by
 intro k
 have h:∀ (l:List RR) (j:Nat),j<l.length→(((l.map QlV).flatten).drop (j * 9)).take 9=QlV (l.getD j ⟨0,[],0,0,0⟩):=by
  intro l
  induction l with
  | nil=>intro j hj; simp at hj
  | cons r l ih =>
    intro j hj
    cases j with
    | zero=>simp [QlV,Qlp]
    | succ j =>
      have:=ih j (by simpa using hj)
      have e:(j+1) * 9=(QlV r).length+j * 9:=by simp [QlV,Qlp]; omega
      rw [List.map_cons,List.flatten_cons,e,← List.drop_drop,List.drop_left,this]
      rfl
 obtain ⟨k,hk⟩:=k
 cases k with
 | zero=>simp [tabC,zeroC]
 | succ k =>
   have e:(k+1) * 9=zeroC.length+k * 9:=by simp [zeroC]; omega
   simp only [tabC,e]
   rw [← List.drop_drop,List.drop_left,h T k (by rw [QbF]; omega)]
   simp
def rowOf (op:Int):List V:=if 1≤op∧op≤65 then QlV (T.getD (op.toNat - 1) ⟨0,[],0,0,0⟩) else zeroC
theorem Qok {op:Int} (h0:0≤op) (h1:op<66):(tabC.drop (op.toNat * 9)).take 9=rowOf op:=by
 have h:=QqY ⟨op.toNat,by omega⟩
 simp only at h
 rw [h]
 unfold rowOf
 by_cases hz:op.toNat=0
 ·rw [if_pos hz,if_neg (by omega)]
 ·rw [if_neg hz,if_pos (by omega)]
theorem Qxm (op:Int) (h0:0≤op) (h1:op<66):(rowOf op).length=9∧ones (rowOf op)∧Qb (rowOf op)=true:=by
 rw [← Qok h0 h1]
 have hl:=QmY
 refine ⟨by simp; omega,fun c hc=>QkZ c (List.mem_of_mem_drop (List.mem_of_mem_take hc)),?_⟩
 have hn:=Qh3
 have key:∀ (l:List V),Qb l=true→∀ k,Qb (l.drop k)=true∧Qb (l.take k)=true:=by
  intro l
  induction l with
  | nil=>intro _ k; simp [Qb]
  | cons v l ih =>
    intro h k
    simp only [Qb,Bool.and_eq_true] at h
    cases k with
    | zero=>simp [Qb,h]
    | succ k=>simp [Qb,h.1,ih h.2 k]
 exact (key _ (key _ hn _).1 _).2
theorem Qwf (hT:Qk P tab) (op:Int) (h0:0≤op) (h1:op≤255):Pure P G0 Qvz [.int .u8 op] fun v=>v=.tup [.agg (rowOf op),.bool (decide (1≤op∧op≤65))]:=by
 intro t
 have hl:=QmY
 have hc:=QkZ
 refine Qp 0 (zL _) (Qt hT Qhu (by simp [Qvk]) (Qn 1000 ?_))
 simp -implicitDefEqProofs (disch:=omega) only [go_sem,↓reduceIte,reduceCtorEq,rq]
 refine QN hT Qmx (Qwb hT) rfl 1000 fun v hv=>?_
 subst hv
 simp -implicitDefEqProofs (disch:=omega) only [go_sem,↓reduceIte,reduceCtorEq,rA,rq,rL,hl,hc]
 have e1:IntKind.i64.wrap op=op:=wrap_i64 (by omega) (by omega)
 rw [e1]
 refine ⟨fun h=>?_,fun h=>⟨fun h2=>?_,fun h2=>?_⟩⟩
 ·unfold rowOf; simp [show ¬ (1≤op) from by omega,zeroC]
 ·unfold rowOf; simp [show ¬ (op≤65) from by omega,zeroC]
 ·have hg:=Qok h0 (show op<66 by omega)
  obtain ⟨g1,g2,g3⟩:=Qxm op h0 (by omega)
  rw [hg]
  simp only [XQ,g1,g2,g3,h0,List.drop_succ_cons,List.drop_nil,List.append_nil,List.take_of_length_le (show (rowOf op).length≤9 by omega),and_self,lR,show op.toNat<66 by omega,show op.toNat * 9≤585 by omega,show (1≤op∧op≤65)=True by simp; omega,decide_true]
end
end Go.Proofs.YtaidbdgndljaeaaGreatDoor
