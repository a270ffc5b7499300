/- Ours. -/
import Derived.Test.YtbdhjeojcpgblaaGreatDoorJ10
import Derived.RangeFuncNested
import Derived.RangeFuncBound
import Derived.RangeFuncCalls
import Derived.RangeFuncLeaves
import Derived.Shelf.Abstract
import Derived.Shelf.RegionOpen
import Derived.WalkKit
import Derived.OwnWalkIn
import Derived.TacticsInMore
import Derived.LoopNIn
import Derived.LoopIn
import Derived.Test.YtbdhjeojcpgblaaGreatDoorProg
import Derived.Test.YtbdhjeojcpgblaaGreatDoorAmA
import Derived.Test.YtbdhjeojcpgblaaGreatDoorJ1
import Derived.Test.YtbdhjeojcpgblaaGreatDoorY
open Nat renaming reduceEqDiff → rq, reduceAdd → rA, reduceLeDiff → rL, reduceLT → rT, zero_add → zA, le_refl → lR, zero_le → zL, add_zero → aZ
open List renaming length_cons → lC, length_nil → lN, take_succ_cons → tSq, length_append → lA, nil_append → nA, cons_append → cA, append_assoc → aA, take_nil → tN, take_zero → tZ, length_map → lM
open Bool renaming not_false → nF, not_true → nT
namespace Go.Proofs.YtbdhjeojcpgblaaGreatDoor
open Go Go.Am Go.Rv Go.Rg
set_option maxRecDepth 100000
variable {P:Program} {G:Nat→Option V}
section
attribute [local go_sem] nF cA lA lM nA aZ lR zA zL Option.getD_none Option.getD_some V.cells and_true Xs decide_false decide_true ge_iff_le gt_iff_lt Z2 QO2 QO1 QO0 QOZ QOY QbF Qh7 not_false_eq_true Qn8 Xe true_and true_implies
def QmM:List UInt8→V:=fun _=>.int .i64 1
def wrF (tn tl:Nat) (m:Im):V:=.fn (.func QbS) [] [.ptr 2 tn 0,.ptr 3 tl 0,Qh7 m]
def rH (tm tn tl:Nat) (N:List (List UInt8)) (last:Int) (ex:List (Option Ob)):List (Option Ob) :=
 [none,some (.map tm (km kS QmM N)),some (.arr tn 124 [.mp 1 tm]),some (.arr tl 3 [.int .i64 last])]++ex
theorem QSZ (hT:Qf P tab) (m:Im) (hm:ImB m) (s:List UInt8 × Int) (hs:s.1.length≤9223372036854775807) {tm tn tl t:Nat} {N:List (List UInt8)} (hN:N.Nodup) {last:Int} {ex:List (Option Ob)} :
 C P G 0 QbS [Qn8 s,.ptr 2 tn 0,.ptr 3 tl 0,Qh7 m] ⟨t,rH tm tn tl N last ex⟩ fun v σ=>v=.bool (!Qes m.code.length N last s)∧(Qes m.code.length N last s=true→∃ t',t≤t'∧σ=⟨t',rH tm tn tl (N++[s.1]) s.2 ex⟩):=by
 obtain ⟨a,n⟩:=s
 simp only at hs
 have hcl:=hm.c
 have w4:IntKind.i64.wrap (4 * (m.code.length:Int))=4 * (m.code.length:Int):=Yz (by omega)
 have w1:IntKind.i64.wrap (0+1)=1:=by decide
 have w2:IntKind.i64.wrap (1+1)=2:=by decide
 have hk1:∀ f S,Qan false [Kd.s] (V.str a) (km kS f S)=True:=fun f S=>eq_true (QFc a f S)
 have hk2:=QjL (ks:=[Kd.s]) (key:=kS) QCA (QmM) a N
 have hex:(4+ex.length≤ex.length+1+1+1+1+1)=True:=eq_true (by omega)
 have hnl:Qd (V.str a)=true:=rfl
 refine Qi (4+ex.length) (zL _) (Qk hT QeW (by simp [Z2]) (Qg 14 ?_))
 by_cases hin:a∈N
 ·have hok:Qes m.code.length N last (a,n)=false:=by unfold Qes; simp [hin]
  rw [if_pos hin] at hk2
  have hp:=Qm8 (ks:=[Kd.s]) (key:=kS) QCA QmM a (.int .i64 2) N hN
  have hk3:=QjL (ks:=[Kd.s]) (key:=kS) QCA (Qxy QmM a (.int .i64 2)) a (QwC N a)
  rw [if_pos (Qws.2 (.inr rfl))] at hk3
  simp only [Qxy,if_true] at hk3
  simp only [kS,QmM] at hk2 hk3 hp
  by_cases g1:(a.length:Int)<1
  ·have g1':decide ((a.length:Int)<1)=true:=decide_eq_true g1
   simp -implicitDefEqProofs (disch:=omega) only [go_sem,g1,↓reduceIte,reduceCtorEq,rA,rq,rL,rH,List.getElem?_concat_length,hk1,hk2,hnl,w2,hp]
   iterate 16 (try (refine Qa 4 ?_; simp -implicitDefEqProofs (disch:=omega) only [go_sem,g1,↓reduceIte,reduceCtorEq,rA,rq,rL,List.getElem?_concat_length,hex]))
   try simp only [hok,nF,Bool.false_eq_true,false_implies,and_true]
  ·have g1':decide ((a.length:Int)<1)=false:=decide_eq_false g1
   by_cases g2:(64:Int)<(a.length:Int)
   ·have g2':decide ((64:Int)<(a.length:Int))=true:=decide_eq_true g2
    simp -implicitDefEqProofs (disch:=omega) only [go_sem,g1,↓reduceIte,reduceCtorEq,rA,rq,rL,rH,List.getElem?_concat_length,hk1,hk2,hnl,w2,hp]
    iterate 16 (try (refine Qa 4 ?_; simp -implicitDefEqProofs (disch:=omega) only [go_sem,g1,↓reduceIte,reduceCtorEq,rA,rq,rL,List.getElem?_concat_length,hex,g2]))
    try simp only [hok,nF,Bool.false_eq_true,false_implies,and_true]
   ·have g2':decide ((64:Int)<(a.length:Int))=false:=decide_eq_false g2
    simp -implicitDefEqProofs (disch:=omega) only [go_sem,g1,↓reduceIte,reduceCtorEq,rA,rq,rL,rH,List.getElem?_concat_length,hk1,hk2,hnl,w2,hp]
    iterate 16 (try (refine Qa 4 ?_; simp -implicitDefEqProofs (disch:=omega) only [go_sem,g1,↓reduceIte,reduceCtorEq,rA,rq,rL,Int.reduceLT,List.getElem?_concat_length,hex,hk1,hk3,g2]))
    try simp only [hok,nF,Bool.false_eq_true,false_implies,and_true]
 ·rw [if_neg hin] at hk2
  have hp:=Qm8 (ks:=[Kd.s]) (key:=kS) QCA QmM a (.int .i64 1) N hN
  have hk3:=QjL (ks:=[Kd.s]) (key:=kS) QCA QmM a (N++[a])
  rw [if_pos (by simp)] at hk3
  rw [show Qxy QmM a (.int .i64 1)=QmM from funext fun b=>by simp [Qxy,QmM],QwC,if_neg hin] at hp
  simp only [kS,QmM] at hk2 hk3 hp
  have hso:Qes m.code.length N last (a,n)=(decide (1≤a.length)&&(decide (a.length≤64)&&(decide (last<n)&&(decide (n.tmod 4=0)&&decide (n<4 * (m.code.length:Int)))))):=by unfold Qes; simp [hin]
  by_cases g1:(a.length:Int)<1
  ·have g1':decide ((a.length:Int)<1)=true:=decide_eq_true g1
   simp -implicitDefEqProofs (disch:=omega) only [go_sem,g1,↓reduceIte,reduceCtorEq,rA,rq,rL,rH,List.getElem?_concat_length,hk1,hk2,hnl,w1,hp]
   iterate 16 (try (refine Qa 4 ?_; simp -implicitDefEqProofs (disch:=omega) only [go_sem,g1,↓reduceIte,reduceCtorEq,rA,rq,rL,List.getElem?_concat_length,hex]))
   try simp only [show Qes m.code.length N last (a,n)=false by rw [hso]; simp only [Bool.and_eq_false_iff,decide_eq_false_iff_not]; omega,nF,Bool.false_eq_true,false_implies,and_true]
  ·have g1':decide ((a.length:Int)<1)=false:=decide_eq_false g1
   by_cases g2:(64:Int)<(a.length:Int)
   ·have g2':decide ((64:Int)<(a.length:Int))=true:=decide_eq_true g2
    simp -implicitDefEqProofs (disch:=omega) only [go_sem,g1,↓reduceIte,reduceCtorEq,rA,rq,rL,rH,List.getElem?_concat_length,hk1,hk2,hnl,w1,hp]
    iterate 16 (try (refine Qa 4 ?_; simp -implicitDefEqProofs (disch:=omega) only [go_sem,g1,↓reduceIte,reduceCtorEq,rA,rq,rL,List.getElem?_concat_length,hex,g2]))
    try simp only [show Qes m.code.length N last (a,n)=false by rw [hso]; simp only [Bool.and_eq_false_iff,decide_eq_false_iff_not]; omega,nF,Bool.false_eq_true,false_implies,and_true]
   ·have g2':decide ((64:Int)<(a.length:Int))=false:=decide_eq_false g2
    by_cases g4:n≤last
    ·have g4':decide (n≤last)=true:=decide_eq_true g4
     simp -implicitDefEqProofs (disch:=omega) only [go_sem,g1,↓reduceIte,reduceCtorEq,rA,rq,rL,rH,List.getElem?_concat_length,hk1,hk2,hnl,w1,hp]
     iterate 16 (try (refine Qa 4 ?_; simp -implicitDefEqProofs (disch:=omega) only [go_sem,g1,↓reduceIte,reduceCtorEq,rA,rq,rL,Int.reduceLT,List.getElem?_concat_length,hex,hk1,hk3,g2,g4]))
     try simp only [show Qes m.code.length N last (a,n)=false by rw [hso]; simp only [Bool.and_eq_false_iff,decide_eq_false_iff_not]; omega,nF,Bool.false_eq_true,false_implies,and_true]
    ·have g4':decide (n≤last)=false:=decide_eq_false g4
     by_cases g5:n.tmod 4=0
     ·have g5':(n.tmod 4 != 0)=false:=by simp [g5]
      by_cases g6:4 * (m.code.length:Int)≤n
      ·have g6':decide (4 * (m.code.length:Int)≤n)=true:=decide_eq_true g6
       simp -implicitDefEqProofs (disch:=omega) only [go_sem,g1,↓reduceIte,reduceCtorEq,rA,rq,rL,rH,List.getElem?_concat_length,hk1,hk2,hnl,w1,hp]
       iterate 16 (try (refine Qa 4 ?_; simp -implicitDefEqProofs (disch:=omega) only [go_sem,g1,↓reduceIte,reduceCtorEq,rA,rq,rL,Int.reduceLT,Int.reduceEq,List.getElem?_concat_length,hex,hk1,hk3,w4,g2,g4,g5',g6]))
       try simp only [show Qes m.code.length N last (a,n)=false by rw [hso]; simp only [Bool.and_eq_false_iff,decide_eq_false_iff_not]; omega,nF,Bool.false_eq_true,false_implies,and_true]
      ·have g6':decide (4 * (m.code.length:Int)≤n)=false:=decide_eq_false g6
       simp -implicitDefEqProofs (disch:=omega) only [go_sem,g1,↓reduceIte,reduceCtorEq,rA,rq,rL,rH,List.getElem?_concat_length,hk1,hk2,hnl,w1,hp]
       iterate 16 (try (refine Qa 4 ?_; simp -implicitDefEqProofs (disch:=omega) only [go_sem,g1,↓reduceIte,reduceCtorEq,rA,rq,rL,Int.reduceLT,Int.reduceEq,List.getElem?_concat_length,hex,hk1,hk3,w4,g2,g4,g5',g6]))
       have hok:Qes m.code.length N last (a,n)=true:=by rw [hso]; simp only [Bool.and_eq_true,decide_eq_true_eq]; omega
       try simp only [hok,nT,true_implies]
       exact ⟨trivial,t+1,Nat.le_succ t,rfl,by rw [Nat.add_comm]; simp [tSq]⟩
     ·have g5':(n.tmod 4 != 0)=true:=by simp [g5]
      simp -implicitDefEqProofs (disch:=omega) only [go_sem,g1,↓reduceIte,reduceCtorEq,rA,rq,rL,rH,List.getElem?_concat_length,hk1,hk2,hnl,w1,hp]
      iterate 16 (try (refine Qa 4 ?_; simp -implicitDefEqProofs (disch:=omega) only [go_sem,g1,↓reduceIte,reduceCtorEq,rA,rq,rL,Int.reduceLT,Int.reduceEq,List.getElem?_concat_length,hex,hk1,hk3,g2,g4,g5']))
      try simp only [show Qes m.code.length N last (a,n)=false by rw [hso]; simp only [Bool.and_eq_false_iff,decide_eq_false_iff_not]; omega,nF,Bool.false_eq_true,false_implies,and_true]
end
section
attribute [local go_sem] nF lR Nat.succ_ne_zero zA decide_false decide_true ge_iff_le Qu Qn QA4 QA3 Qy QM8 QM7 QM6 QM5 QM4 QM3 QM2 QM1
variable {l:List (List UInt8 × Int)} {t i:Nat}
theorem QwY (hT:Qf P tab) {base:Nat} {o:List (Option Ob)} {f:V} {p:Nat→Bool} {tg:Bool} (Inv:Nat→H→Prop) (End:H→Prop) (hl:l.length≤9223372036854775807)
 (hp:∀ i a,l[i]?=some a→∀ σ,Inv i σ→CV P G base f [Qn8 a] σ fun v σ'=>v=.bool (p i)∧(p i=false→Inv (i+1) σ')∧(p i=true→End σ')) (h0:Inv 0 ⟨t,o⟩) :
 C P G base XK [.lst 2 (l.map Qn8) tg,f] ⟨t,o⟩ fun v σ=>(∃ i,i<l.length∧(∀ j,j<i→p j=false)∧p i=true∧v=.int .i64 ((i:Nat):Int)∧End σ)∨((∀ j,j<l.length→p j=false)∧v=.int .i64 (-1)∧Inv l.length σ):=by
 refine Qk hT Q3 (by simp [Qy]) (Qg 1000 ?_)
 refine yg ?_
 refine Qdm (fun m fr σ=>∃ i,i≤l.length∧m=l.length - i∧(∀ j,j<i→p j=false)∧Ql fr 0=.lst 2 (l.map Qn8) tg∧Ql fr 1=f∧Ql fr 7=.int .i64 l.length∧Ql fr 8=.int .i64 i∧Inv i σ)
  (fun e fr σ=>(e=.ret∧∃ i,i<l.length∧(∀ j,j<i→p j=false)∧p i=true∧Ql fr 4=.int .i64 ((i:Nat):Int)∧End σ)∨(e=.ex 0∧(∀ j,j<l.length→p j=false)∧Inv l.length σ))
  (m0:=l.length) ⟨0,by omega,rfl,(fun j h=>absurd h (Nat.not_lt_zero j)),?_⟩ (fun m fr σ hJ=>?_) (fun e fr σ hE=>?_)
 ·refine ya ?_
  simpa using h0
 ·obtain ⟨i,hi,rfl,hno,h0',h1',h7',h8',hI⟩:=hJ
  refine Qg 1000 ?_
  rcases Nat.lt_or_ge i l.length with hlt | hge
  ·obtain ⟨x,hx⟩:∃ x,l[i]?=some x:=⟨_,List.getElem?_eq_getElem hlt⟩
   have hD:(l.map Qn8).getD i V.any=Qn8 x:=by simp [List.getD_eq_getElem?_getD,hx]
   have e2:=Qe9 hlt hl
   simp -implicitDefEqProofs (disch:=omega) only [go_sem,↓reduceIte,reduceCtorEq,rA,rq,lM,Qn8,V.cells,lC,lN,h0',h1',h7',h8',hlt,hD]
   refine CV.use 1000 (hp i x hx σ hI) fun v σ hv=>?_
   obtain ⟨rfl,hv⟩:=hv
   cases hpn:p i with
   | true =>
     refine ya ?_
     exact ⟨i,hlt,hno,hpn,rfl,hv.2 hpn⟩
   | false =>
     simp -implicitDefEqProofs (disch:=omega) only [go_sem,↓reduceIte,rq,h8']
     refine ⟨l.length - (i+1),_,_,by omega,Shift.refl _ _ _ _,i+1,by omega,rfl,fun j hj=>?_,?_⟩
     ·rcases Nat.lt_or_ge j i with h | h
      ·exact hno j h
      ·rw [show j=i by omega]; exact hpn
     ·simp -implicitDefEqProofs (disch:=omega) only [go_sem,↓reduceIte,reduceCtorEq,rq,h0',h1',h7',e2]
      exact hv.1 hpn
  ·have hi:i=l.length:=by omega
   subst hi
   simp -implicitDefEqProofs (disch:=omega) only [go_sem,↓reduceIte,reduceCtorEq,rq,h7',h8',Nat.lt_irrefl]
   exact ⟨hno,hI⟩
 ·rcases hE with ⟨rfl,i,hlt,hno,hpi,f4,hEn⟩ | ⟨rfl,hno,hI⟩
  ·refine Qa 1000 ?_
   refine yv ?_
   exact .inl ⟨i,hlt,hno,hpi,rfl,hEn⟩
  ·refine Qa 1000 ?_
   refine ya ?_
   exact .inr ⟨hno,hI⟩
variable {s:List UInt8 × Int}
theorem QhA {code:Nat} (h:l[i]?=some s) (N:List (List UInt8)) (last:Int):QdX code N last (l.drop i)=(Qes code N last s&&QdX code (N++[s.1]) s.2 (l.drop (i+1))):=by
 have hl:=(List.getElem?_eq_some_iff.1 h).1
 rw [List.drop_eq_getElem_cons hl,(List.getElem?_eq_some_iff.1 h).2]
 rfl
def Qe6 (m:Im) (i:Nat):Int:=if i=0 then -1 else ((m.syms.map (·.2))[i - 1]?).getD 0
def okAt (m:Im) (i:Nat):Bool:=match m.syms[i]? with
 | some s=>Qes m.code.length ((m.syms.take i).map (·.1)) (Qe6 m i) s
 | none=>true
theorem Qiw {m:Im} (h:m.syms[i]?=some s):okAt m i=Qes m.code.length ((m.syms.take i).map (·.1)) (Qe6 m i) s:=by unfold okAt; rw [h]
def okSt2 (m:Im) (tm tn tl:Nat) (ex:List (Option Ob)) (i:Nat) (σ:H):Prop:=∃ t,((m.syms.take i).map (·.1)).Nodup∧QdX m.code.length [] (-1) m.syms=QdX m.code.length ((m.syms.take i).map (·.1)) (Qe6 m i) (m.syms.drop i)∧σ=⟨t,rH tm tn tl ((m.syms.take i).map (·.1)) (Qe6 m i) ex⟩
theorem QDy (hT:Qf P tab) (m:Im) (hm:ImB m) {tm tn tl:Nat} {ex:List (Option Ob)} :
 C P G 0 QT [Xe m.syms,wrF tn tl m] ⟨t,rH tm tn tl [] (-1) ex⟩ fun v _=>v=.bool (!QdX m.code.length [] (-1) m.syms):=by
 have hI:=QwY (P:=P) (G:=G) hT (base:=0) (t:=t) (o:=rH tm tn tl [] (-1) ex) (f:=wrF tn tl m) (p:=fun i=>!okAt m i) (l:=m.syms) (tg:=false) (okSt2 m tm tn tl ex) (fun _=>True) (by have:=hm.s; omega)
  (fun i s hs σ hI=>?_) ?_
 ·refine Qk hT QC (by simp [Qn]) (Qg 1000 ?_)
  simp -implicitDefEqProofs (disch:=omega) only [go_sem,↓reduceIte,reduceCtorEq,rq,Xe]
  refine call hT Q3 hI 1000 fun v σ hv=>?_
  rcases hv with ⟨i,hlt,hno,hpi,rfl,_⟩ | ⟨hno,rfl,t',hN,hs,rfl⟩
  ·have hbad:∀ k j,j+k=i→QdX m.code.length ((m.syms.take j).map (·.1)) (Qe6 m j) (m.syms.drop j)=false:=by
    intro k
    induction k with
    | zero =>
      intro j hj
      obtain rfl:j=i:=by omega
      obtain ⟨s,hs⟩:∃ s,m.syms[j]?=some s:=⟨_,List.getElem?_eq_getElem hlt⟩
      rw [Qiw hs] at hpi
      rw [QhA hs]
      simp at hpi
      simp [hpi]
    | succ k ih =>
      intro j hj
      obtain ⟨s,hs⟩:∃ s,m.syms[j]?=some s:=⟨_,List.getElem?_eq_getElem (by omega)⟩
      have h1:=ih (j+1) (by omega)
      rw [QhA hs]
      have h2:(m.syms.take (j+1)).map (·.1)=(m.syms.take j).map (·.1)++[s.1]:=by rw [List.take_add_one,hs]; simp
      have h3:Qe6 m (j+1)=s.2:=by unfold Qe6; rw [if_neg (by omega)]; simp [hs]
      rw [h2,h3] at h1
      rw [h1,Bool.and_false]
   have:=hbad i 0 (by omega)
   have e0:Qe6 m 0=-1:=rfl
   simp only [tZ,List.map_nil,List.drop_zero,e0] at this
   rw [this]
   refine ya ?_
   simp
  ·rw [hs,List.drop_length]
   refine ya ?_
   rfl
 ·obtain ⟨t1,hN,hs1,rfl⟩:=hI
  have hw:=QSZ (P:=P) (G:=G) hT m hm s (hm.n s (List.mem_of_getElem? hs)) (tm:=tm) (tn:=tn) (tl:=tl) (t:=t1) (N:=(m.syms.take i).map (·.1)) hN (last:=Qe6 m i) (ex:=ex)
  refine CV.of hT QeW (hw.conseq fun v σ hv=>?_)
  obtain ⟨h1,h2⟩:=hv
  rw [← Qiw hs] at h1 h2
  refine ⟨h1,fun hok=>?_,fun _=>trivial⟩
  have hok:okAt m i=true:=by simpa using hok
  obtain ⟨t2,_,rfl⟩:=h2 hok
  have e2:(m.syms.take (i+1)).map (·.1)=(m.syms.take i).map (·.1)++[s.1]:=by rw [List.take_add_one,hs]; simp
  have e3:Qe6 m (i+1)=s.2:=by unfold Qe6; rw [if_neg (by omega)]; simp [hs]
  refine ⟨t2,?_,?_,by rw [e2,e3]⟩
  ·rw [e2,List.nodup_append]
   refine ⟨hN,by simp,fun x hx y hy=>?_⟩
   simp at hy; subst hy
   rw [Qiw hs] at hok
   unfold Qes at hok
   simp only [Bool.and_eq_true,Bool.not_eq_true',decide_eq_false_iff_not] at hok
   exact fun e=>hok.2.2.1 (e▸hx)
  ·rw [hs1,QhA hs,← Qiw hs,hok,e2,e3,Bool.true_and]
 ·exact ⟨t,by simp,by simp [Qe6],rfl⟩
end
section
attribute [local go_sem] nF nT aZ lR Nat.mul_one zA zL decide_false decide_true ge_iff_le Qab ZY QOR QOQ ZX QOP QOO QQI QQH QQG QQF QQE QQD Qu Qo QA2 QA1 Qq QAi QAh QAg QAf QAe QAd QAc QAb
theorem QjP (m:Im):Qb (QbF m)=true:=by
 simp [QbF,Xe,Xs,Qb,Qd]
def rX (tm tn tl tw tr:Nat) (m:Im) (cl:List V):List (Option Ob):=[some (.arr tw 125 [wrF tn tl m]),some (.arr tr 33 cl)]
variable {tm tn tl tw tr t:Nat}
theorem c_S5 (hT:Qf P tab) (m:Im) (hm:ImB m) {cl:List V} :
 C P G 0 QbO [Qh7 m,.ptr 4 tw 0] ⟨t,rH tm tn tl [] (-1) (rX tm tn tl tw tr m cl)⟩ fun v _=>v=.bool (QdX m.code.length [] (-1) m.syms):=by
 have hC:=QDy (P:=P) (G:=G) hT m hm (tm:=tm) (tn:=tn) (tl:=tl) (t:=t) (ex:=rX tm tn tl tw tr m cl)
 simp only [rH,rX,cA,nA,Xe] at hC
 refine Qk hT QeV (by simp [ZY]) (Qg 1000 ?_)
 simp -implicitDefEqProofs (disch:=omega) only [go_sem,↓reduceIte,reduceCtorEq,rA,rq,rL,Qh7,QbF,Xe,V.cells,rH,cA,nA,rX]
 refine call hT QC hC 1000 fun v σ hv=>?_
 subst hv
 exact yt
theorem QTb (hT:Qf P tab) {base:Nat} {σ:H} {f:V} {b:Bool} {R:H→Prop} (h:CV P G base f [] σ fun v σ'=>v=.bool b∧R σ'):C P G base QH [f] σ fun v σ'=>v=.bool (!b)∧R σ':=by
 refine Qk hT Xu (by simp [ZX]) (Qg 1000 ?_)
 refine ya ?_
 refine CV.use 1000 h fun v σ' hv=>?_
 obtain ⟨rfl,hR⟩:=hv
 refine ya ?_
 exact hR
def mF (m:Im) (tw:Nat):List V:=[.fn (.func QbR) [] [Qh7 m],.fn (.func QbQ) [] [Qh7 m],.fn (.func QbP) [] [Qh7 m],.fn (.func QbO) [] [Qh7 m,.ptr 4 tw 0]]
def q1 (m:Im):Bool:=decide (0≤m.data)&&(decide (m.data≤524288)&&decide (m.data.tmod 8=0))
def q2 (m:Im):Bool:=decide (1≤m.code.length)&&decide (m.code.length≤262144)
def q3 (m:Im):Bool:=decide (1≤m.syms.length)&&(decide (m.syms.length≤65)&&decide ((m.syms.map (·.2)).head?=some 0))
def q4 (m:Im):Bool:=QdX m.code.length [] (-1) m.syms
theorem Qux (m:Im):right m=(q1 m&&(q2 m&&(q3 m&&q4 m))):=rfl
theorem cast4:((4:Nat):Int)=4:=rfl
theorem lt04:((0:Int)<4)=True:=eq_true (by decide)
theorem lt14:((1:Int)<4)=True:=eq_true (by decide)
theorem lt24:((2:Int)<4)=True:=eq_true (by decide)
theorem lt34:((3:Int)<4)=True:=eq_true (by decide)
theorem c_Must (hT:Qf P tab) (m:Im) (hm:ImB m) :
 C P G 0 QU [.sl 5 tr 0 1 4 none,.fn (.func QH) [] []] ⟨t,rH tm tn tl [] (-1) (rX tm tn tl tw tr m (mF m tw))⟩ fun v _=>v=.bool (!right m):=by
 have h1:=QTb (σ:=⟨t,rH tm tn tl [] (-1) (rX tm tn tl tw tr m (mF m tw))⟩) hT (CV.of (cap:=[Qh7 m]) (args:=[]) hT QbK (c_S2 (P:=P) (G:=G) hT m (base:=0) (t:=t) (o:=rH tm tn tl [] (-1) (rX tm tn tl tw tr m (mF m tw)))))
 have h2:=QTb (σ:=⟨t,rH tm tn tl [] (-1) (rX tm tn tl tw tr m (mF m tw))⟩) hT (CV.of (cap:=[Qh7 m]) (args:=[]) hT QbJ (c_S3 (P:=P) (G:=G) hT m (base:=0) (t:=t) (o:=rH tm tn tl [] (-1) (rX tm tn tl tw tr m (mF m tw)))))
 have h3:=QTb (σ:=⟨t,rH tm tn tl [] (-1) (rX tm tn tl tw tr m (mF m tw))⟩) hT (CV.of (cap:=[Qh7 m]) (args:=[]) hT QbI (c_S4 (P:=P) (G:=G) hT m (base:=0) (t:=t) (o:=rH tm tn tl [] (-1) (rX tm tn tl tw tr m (mF m tw)))))
 have h4:=QTb (σ:=⟨t,rH tm tn tl [] (-1) (rX tm tn tl tw tr m (mF m tw))⟩) (R:=fun _=>True) hT (CV.of (cap:=[Qh7 m,.ptr 4 tw 0]) (args:=[]) hT QeV ((c_S5 (P:=P) (G:=G) hT m hm (tm:=tm) (tn:=tn) (tl:=tl) (tw:=tw) (tr:=tr) (t:=t) (cl:=mF m tw)).conseq fun v σ h=>⟨h,trivial⟩))
 change C P G 0 QH _ _ (fun v σ'=>v=.bool (!q1 m)∧_) at h1
 change C P G 0 QH _ _ (fun v σ'=>v=.bool (!q2 m)∧_) at h2
 change C P G 0 QH _ _ (fun v σ'=>v=.bool (!q3 m)∧_) at h3
 change C P G 0 QH _ _ (fun v σ'=>v=.bool (!q4 m)∧_) at h4
 rw [Qux]
 generalize q1 m=b1 at *
 generalize q2 m=b2 at *
 generalize q3 m=b3 at *
 generalize q4 m=b4 at *
 have w1:IntKind.i64.wrap (0+1)=1:=by decide
 have w2:IntKind.i64.wrap (1+1)=2:=by decide
 have w3:IntKind.i64.wrap (2+1)=3:=by decide
 have w4:IntKind.i64.wrap (3+1)=4:=by decide
 have hI:C P G 0 Q5 [.sl 5 tr 0 1 4 none,.fn (.func QH) [] []] ⟨t,rH tm tn tl [] (-1) (rX tm tn tl tw tr m (mF m tw))⟩ fun v _=>v=.int .i64 (if b1 then (if b2 then (if b3 then (if b4 then -1 else 3) else 2) else 1) else 0):=by
  simp only [rH,rX,mF,cA,nA] at h1 h2 h3 h4
  refine Qk hT QJ (by simp [Qq]) (Qg 1000 ?_)
  simp -implicitDefEqProofs (disch:=omega) only [go_sem,↓reduceIte,reduceCtorEq,rq,cast4,rH,rX,mF,cA,nA]
  refine Ya 5 60 ?_
  simp -implicitDefEqProofs (disch:=omega) only [go_sem,↓reduceIte,reduceCtorEq,rA,rq,rL,rT,Int.reduceToNat,Int.reduceLE,lt04,true_implies,and_true]
  refine call hT Xu h1 60 fun v σ hv=>?_
  obtain ⟨rfl,rfl⟩:=hv
  cases b1 with
  | false=>simp -implicitDefEqProofs (disch:=omega) only [go_sem,↓reduceIte,reduceCtorEq,rq]; try simp
  | true =>
    simp -implicitDefEqProofs (disch:=omega) only [go_sem,↓reduceIte,reduceCtorEq,rA,rq,rL,rT,Int.reduceToNat,Int.reduceLE,lt14,true_implies,and_true,w1]
    refine call hT Xu h2 60 fun v σ hv=>?_
    obtain ⟨rfl,rfl⟩:=hv
    cases b2 with
    | false=>simp -implicitDefEqProofs (disch:=omega) only [go_sem,↓reduceIte,reduceCtorEq,rq]; try simp
    | true =>
      simp -implicitDefEqProofs (disch:=omega) only [go_sem,↓reduceIte,reduceCtorEq,rA,rq,rL,rT,Int.reduceToNat,Int.reduceLE,lt24,true_implies,and_true,w2]
      refine call hT Xu h3 60 fun v σ hv=>?_
      obtain ⟨rfl,rfl⟩:=hv
      cases b3 with
      | false=>simp -implicitDefEqProofs (disch:=omega) only [go_sem,↓reduceIte,reduceCtorEq,rq]; try simp
      | true =>
        simp -implicitDefEqProofs (disch:=omega) only [go_sem,↓reduceIte,reduceCtorEq,rA,rq,rT,Int.reduceToNat,Int.reduceLE,lt34,true_implies,and_true,w3]
        refine call hT Xu h4 60 fun v σ hv=>?_
        obtain ⟨rfl,_⟩:=hv
        cases b4 with
        | false=>simp -implicitDefEqProofs (disch:=omega) only [go_sem,↓reduceIte,reduceCtorEq,rq]; try simp
        | true=>simp -implicitDefEqProofs (disch:=omega) only [go_sem,↓reduceIte,reduceCtorEq,rq,Int.lt_irrefl,w4]; try simp
 refine Qk hT QD (by simp [Qo]) (Qg 1000 ?_)
 refine ya ?_
 refine call hT QJ hI 60 fun v σ hv=>?_
 subst hv
 refine ya ?_
 cases b1 <;> cases b2 <;> cases b3 <;> cases b4 <;> rfl
theorem vo1:(Value.map none).oneCell'=true:=rfl
theorem vo2:Value.nilFunc.oneCell'=true:=rfl
theorem Qpl (hT:Qf P tab) (m:Im) (hm:ImB m):Am.Pure P G Qcf [QhI m] fun v=>v=.bool (right m):=by
 intro t
 refine Qi 0 (zL _) (Qk hT Qcc (by simp [Qab]) (Qg 5 ?_))
 simp -implicitDefEqProofs (disch:=omega) only [go_sem,↓reduceIte,reduceCtorEq,rq,QhI,QbF,Xe,Xs,V.cells,H.push]
 refine Xr (Shift.freeze (k:=0) (v:=t) (T:=25) (cs:=QbF m) (zL _) rfl (QjP m)) ?_
 simp only [Qr,Qv,XR,QN,List.set_cons_zero,Option.map_none]
 refine Qa 60 ?_
 simp -implicitDefEqProofs (disch:=omega) only [go_sem,↓reduceIte,reduceCtorEq,rA,rq,rL,vo1,vo2,QbF,Xe,Xs,V.cells,H.push]
 have hM:=c_Must (P:=P) (G:=G) hT m hm (tm:=t+1) (tn:=t+1+1) (tl:=t+1+1+1) (tw:=t+1+1+1+1) (tr:=t+1+1+1+1+1) (t:=t+1+1+1+1+1+1)
 simp only [rH,rX,mF,wrF,km,Qh7,QbF,Xe,Xs,List.map_nil,cA,nA] at hM
 refine call hT QD hM 60 fun v σ hv=>?_
 subst hv
 exact yt
end
end Go.Proofs.YtbdhjeojcpgblaaGreatDoor
namespace Go.Proofs.YtbdhjeojcpgblaaGreatDoor
open Go Go.Proofs Go.RowKit Go.Shelf
attribute [local go_sem] Oper.semAt_some
def upto {α:Type} (f:Nat→α) (k:Nat):List α:=(List.range k).map f
theorem Qrr {α:Type} (f:Nat→α) (k:Nat):upto f (k+1)=upto f k++[f k]:=by simp [upto,List.range_succ]
theorem Quo {α:Type} (f:Nat→α) (k:Nat):(upto f k).length=k:=by simp [upto]
abbrev encB (x:Nat × (Nat × Nat)):Array Value:=#[Value.int .i64 (x.1:Int),.agg #[.int .i64 (x.2.1:Int),.int .i64 (x.2.2:Int)]]
def KpB (n₀ Bs:Nat) (W W':World):Prop:=Below n₀ W W'∧W'.heap[Bs]?=W.heap[Bs]?
theorem KpB.refl (n₀ Bs:Nat) (W:World):KpB n₀ Bs W W:=⟨Below.refl _ _,rfl⟩
theorem KpB.trans {n₀ Bs:Nat} {A B C:World} (h:KpB n₀ Bs A B) (k:KpB n₀ Bs B C):KpB n₀ Bs A C:=⟨h.1.trans k.1,k.2.trans h.2⟩
variable {A B:World} {n₀:Nat}
theorem KpB.cellB {Bs:Nat} (h:KpB n₀ Bs A B):B.cell? ⟨Bs,0,none⟩=A.cell? ⟨Bs,0,none⟩:=by simp [World.cell?,h.2]
set_option maxRecDepth 100000 in
set_option maxHeartbeats 2000000 in
theorem QGe (F:Fence) (n:Nat) (h7:F.fn 209) (hro:F.round=none) (hn:1≤n) (l Bs n₀ b off len cap:Nat) (z:Nat→Nat × Nat) (hlen:len≤1000) (hb:b<n₀) (J Jx:List (Nat × (Nat × Nat))→World→Prop)
 (hY:∀ pre x W,J pre W→pre.length<len→YieldAt F (n - 1) Tryz.prog l (encB x) W fun e W' =>
  (e=.returned (.bool true)∧J (pre++[x]) W'∧KpB n₀ Bs W W')∨(e=.returned (.bool false)∧Jx (pre++[x]) W'))
 (W:World) (hBs:W.cell? ⟨Bs,0,none⟩=some (.slice (some ⟨b,off,none⟩) len cap))
 (hc:∀ j,j<len→W.cell? ⟨b,off+j * 2,none⟩=some (.int .i64 ((z j).1:Int))∧W.cell? ⟨b,off+j * 2+1,none⟩=some (.int .i64 ((z j).2:Int))) (h0:J [] W) :
 CallsIn F n Tryz.prog 209 #[.func (.yield l) #[] #[],.pointer (some ⟨Bs,0,none⟩)] W fun e W'=>(∃ v,e=.returned v) ∧
  ((∃ ys,ys=upto (fun j=>(len - 1 - j,z (len - 1 - j))) len∧J ys W')∨(∃ pre,(∃ k,k≤len∧pre=upto (fun j=>(len - 1 - j,z (len - 1 - j))) k)∧Jx pre W')):=by
 refine callsIn_of_wp Tryz.func209 rfl h7 ?_ hro
 simp only [Tryz.ntmps209,List.size_toArray,lC,lN,rA,Nat.reduceSub,Array.replicate_succ,Array.replicate_zero,List.push_toArray,List.append_toArray,nA,cA]
 gi_wp2
 gi_loopw [3] (fun i wr=>∃ k:Nat,k≤len∧i=.int .i64 ((len:Int) - 1 - k)∧J (upto (fun j=>(len - 1 - j,z (len - 1 - j))) k) wr∧KpB n₀ Bs W wr)
  (fun i _=>(intOf i+1).toNat)
 case atStart =>
  exact ⟨0,zL _,by simp,h0,KpB.refl _ _ _⟩
 case round =>
  obtain ⟨k,hk,rfl,hJs,hnx⟩:=hrel
  by_cases hlt:k<len
  ·obtain ⟨fn,tmps,assign,body,hy,hR⟩:=hY _ (len - 1 - k,z (len - 1 - k)) wr hJs (by rw [Quo]; exact hlt)
   dsimp only [encB] at hy
   have hBs':=hnx.cellB.trans hBs
   have hcx:=hc (len - 1 - k) (by omega)
   have hc1:=(hnx.1.cell (p:=⟨b,off+(len - 1 - k) * 2,none⟩) hb).trans hcx.1
   have hc2:=(hnx.1.cell (p:=⟨b,off+(len - 1 - k) * 2+1,none⟩) hb).trans hcx.2
   obtain ⟨m,hm⟩:∃ m:Nat,m=len - 1 - k:=⟨_,rfl⟩
   have hi:(len:Int) - 1 - k=(m:Int):=by omega
   have hml:m<len:=by omega
   rw [hi]
   rw [← hm] at hy hR hc1 hc2
   have hm2:Unit→m=len - 1 - k:=fun _=>hm
   have hi2:Unit→(len:Int) - 1 - k=(m:Int):=fun _=>hi
   clear hm hi hcx
   gi_wp2
   refine hR.mono ?_
   rintro e W3 (⟨rfl,hJ3,hk3⟩ | ⟨rfl,hJx3⟩)
   ·gi_wp2
    go_roundw
    case rel=>exact ⟨k+1,by omega,by have:=hi2 (); congr 1; omega,by rw [Qrr,← hm2 ()]; exact hJ3,hnx.trans hk3⟩
    case measure=>simp [intOf]
   ·gi_wp2
    refine bodyPost_ret (results_none rfl _ _ _) rfl ?_
    exact ⟨⟨_,rfl⟩,.inr ⟨_,⟨k+1,by omega,by rw [Qrr,← hm2 ()]⟩,hJx3⟩⟩
  ·obtain rfl:k=len:=by omega
   have hi:(k:Int) - 1 - k=-1:=by omega
   rw [hi]
   gi_wp2
   go_end0
   exact ⟨⟨_,rfl⟩,.inl ⟨_,rfl,hJs⟩⟩
set_option maxRecDepth 100000 in
set_option maxHeartbeats 1000000 in
theorem Qtq (F:Fence) (n:Nat) (h7:F.fn 209) (hro:F.round=none) (l Bs:Nat) (a:Option Addr) (cap:Nat) (J:List (Nat × (Nat × Nat))→World→Prop) (W:World) (hBs:W.cell? ⟨Bs,0,none⟩=some (.slice a 0 cap)) (h0:J [] W) :
 CallsIn F n Tryz.prog 209 #[.func (.yield l) #[] #[],.pointer (some ⟨Bs,0,none⟩)] W fun e W'=>(∃ v,e=.returned v)∧J [] W':=by
 refine callsIn_of_wp Tryz.func209 rfl h7 ?_ hro
 simp only [Tryz.ntmps209,List.size_toArray,lC,lN,rA,Nat.reduceSub,Array.replicate_succ,Array.replicate_zero,List.push_toArray,List.append_toArray,nA,cA]
 gi_wp2
 gi_loopw [3] (fun i wr=>i=.int .i64 (-1)∧J [] wr) (fun _ _=>0)
 case atStart=>exact ⟨by simp,h0⟩
 case round =>
  obtain ⟨rfl,hJs⟩:=hrel
  gi_wp2
  go_end0
  exact ⟨⟨_,rfl⟩,hJs⟩
set_option maxHeartbeats 1000000 in
theorem QTm (F:Fence) (n:Nat) (h5:F.fn 155) (hro:F.round=none) (a:Option Addr) (len cap:Nat) (w:World) :
 CallsIn F n Tryz.prog 155 #[.slice a len cap] w fun e w'=>e=.returned (.func (.func 209) #[] #[.pointer (some ⟨w.heap.size,0,none⟩)])∧w'=w.alloc (.cells #[.slice a len cap] 181):=by
 refine callsIn_of_wp Tryz.func155 rfl h5 ?_ hro
 simp only [Tryz.ntmps155,List.size_toArray,lC,lN,rA,Nat.reduceSub,Array.replicate_succ,Array.replicate_zero,List.push_toArray,List.append_toArray,nA,cA]
 gi_wp2
 go_ret
 exact ⟨rfl,rfl⟩
def BitsAt (n₀:Nat) (W:World) (sv:Value) (len:Nat) (z:Nat→Nat × Nat):Prop :=
 (∃ a cap,sv=.slice a 0 cap∧len=0)∨∃ b off cap,sv=.slice (some ⟨b,off,none⟩) len cap∧b<n₀∧∀ j,j<len→W.cell? ⟨b,off+j * 2,none⟩=some (.int .i64 ((z j).1:Int))∧W.cell? ⟨b,off+j * 2+1,none⟩=some (.int .i64 ((z j).2:Int))
variable {z:Nat→Nat × Nat} {sv:Value}
theorem BitsAt.below (h:Below n₀ A B) {len:Nat}:BitsAt n₀ A sv len z→BitsAt n₀ B sv len z
 | .inl e=>.inl e
 | .inr ⟨b,off,cap,e,hb,hc⟩=>.inr ⟨b,off,cap,e,hb,fun j hj=>⟨(h.cell (p:=⟨b,off+j * 2,none⟩) hb).trans (hc j hj).1,(h.cell (p:=⟨b,off+j * 2+1,none⟩) hb).trans (hc j hj).2⟩⟩
theorem BitsAt.wide {n₁:Nat} (h:n₀≤n₁) {len:Nat}:BitsAt n₀ A sv len z→BitsAt n₁ A sv len z
 | .inl e=>.inl e
 | .inr ⟨b,off,cap,e,hb,hc⟩=>.inr ⟨b,off,cap,e,Nat.lt_of_lt_of_le hb h,hc⟩
theorem Qyp (F:Fence) (n:Nat) (h8:F.fn 209) (hro:F.round=none) (hn:1≤n) (Bs n₀:Nat) (sv:Value) (len:Nat) (hlen:len≤1000) (z:Nat→Nat × Nat) (w:World) (hBs:Bs<w.heap.size) (hn₀:n₀≤w.heap.size)
 (hc:w.cell? ⟨Bs,0,none⟩=some sv) (hI:BitsAt n₀ w sv len z) :
 SeqStopsK F n Tryz.prog 209 #[.pointer (some ⟨Bs,0,none⟩)] encB (KpB n₀ Bs) (fun ys=>ys=upto (fun j=>(len - 1 - j,z (len - 1 - j))) len)
  (fun pre=>∃ k,k≤len∧pre=upto (fun j=>(len - 1 - j,z (len - 1 - j))) k) len w:=fun l J Jx W hW _ _ hY h0=>by
 have hc':=(hW.cell (p:=⟨Bs,0,none⟩) hBs).trans hc
 rcases hI.below (hW.mono hn₀) with ⟨a,cap,rfl,rfl⟩ | ⟨b,off,cap,rfl,hb,hcs⟩
 ·exact (Qtq F n h8 hro l Bs a cap J W hc' h0).mono fun e W' ⟨he,hj⟩=>⟨he,.inl ⟨_,rfl,hj⟩⟩
 ·exact QGe F n h8 hro hn l Bs n₀ b off len cap z hlen hb J Jx hY W hc' hcs h0
attribute [local go_sem] Oper.semAt_some
theorem QTs (W:World) (u v:Value) (t:TypeId):(W.alloc (.cells #[u,v] t)).cell? ⟨W.heap.size,0,none⟩=some u:=by
 unfold World.cell?; rw [World.alloc_heap_new]; rfl
theorem QTr (W:World) (u v:Value) (t:TypeId):(W.alloc (.cells #[u,v] t)).cell? ⟨W.heap.size,1,none⟩=some v:=by
 unfold World.cell?; rw [World.alloc_heap_new]; rfl
def QEy (y:Nat × (Nat × Nat)):Int:=IntKind.i64.wrap (IntKind.i64.wrap (2 ^ min y.2.2 64) - 1)
def Quu (p:Int) (y:Nat × (Nat × Nat)):Int:=bits .and .i64 p (QEy y)
def Qn9 (p:Int × Int) (y:Nat × (Nat × Nat)):Int × Int :=
 (bits .or .u32 p.1 (IntKind.u32.wrap (IntKind.u32.wrap (Quu p.2 y) * 2 ^ min y.2.1 32)),p.2 / 2 ^ min y.2.2 64)
def spB (x:Int) (l:List (Nat × (Nat × Nat))):Int × Int:=l.foldl Qn9 (0,x)
theorem Qwa (x:Int) (l:List (Nat × (Nat × Nat))) (y:Nat × (Nat × Nat)):spB x (l++[y])=Qn9 (spB x l) y:=by simp [spB]
set_option maxRecDepth 100000 in
set_option maxHeartbeats 2000000 in
theorem QBF (n:Nat) (hn:3≤n) (b1 b2 b3 b4:Value) (a:Option Addr) (len cap zn:Nat) (m x:Int) (hz:zn≤30) (z:Nat→Nat × Nat) (hlen:len≤1000) (w:World) (hI:BitsAt w.heap.size w (.slice a len cap) len z) :
 CallsIn Fence.wide n Tryz.prog 111 #[.agg #[b1,b2,b3,.slice a len cap,.int .i64 (zn:Int),b4,.int .u32 m],.int .i64 x] w fun e W'=>e=.returned (.int .u32 (spB (x / 2 ^ zn) (upto (fun j=>(len - 1 - j,z (len - 1 - j))) len)).1)∧Below w.heap.size w W':=by
 have h1:1≤n:=by omega
 have hro:Fence.wide.round=none:=rfl
 have h3:Fence.wide.fn 111:=trivial
 have h5:Fence.wide.fn 155:=trivial
 have h7:Fence.wide.fn 209:=trivial
 refine callsIn_of_wp_marks Tryz.func111 rfl h3 ?_ hro
 simp only [Tryz.ntmps111,List.size_toArray,lC,lN,rA,Nat.reduceSub,Array.replicate_succ,Array.replicate_zero,List.push_toArray,List.append_toArray,nA,cA]
 gi_wp2_with (gi_at_call 155; refine (QTm Fence.wide (n - 1) h5 hro _ _ _ _).mono ?_; rintro e w' ⟨rfl,rfl⟩)
 have bN:=((Boxed.new (w.alloc (.cells #[b1,b2,b3,Value.slice a len cap,Value.int IntKind.i64 ↑zn,b4,Value.int IntKind.u32 m] 183)) 2 (.int .i64 (x / 2 ^ zn))).alloc (.cells #[.int .u32 0] 108)).alloc (.cells #[.slice a len cap] 181)
 have bW:=(Boxed.new ((w.alloc (.cells #[b1,b2,b3,Value.slice a len cap,Value.int IntKind.i64 ↑zn,b4,Value.int IntKind.u32 m] 183)).alloc (.cells #[.int .i64 (x / 2 ^ zn)] 2)) 108 (.int .u32 0)).alloc (.cells #[.slice a len cap] 181)
 have bS:=Boxed.new (((w.alloc (.cells #[b1,b2,b3,Value.slice a len cap,Value.int IntKind.i64 ↑zn,b4,Value.int IntKind.u32 m] 183)).alloc (.cells #[.int .i64 (x / 2 ^ zn)] 2)).alloc (.cells #[.int .u32 0] 108)) 181 (.slice a len cap)
 simp only [World.size_alloc] at bN bW bS
 have hB0:Below w.heap.size w ((((w.alloc (.cells #[b1,b2,b3,Value.slice a len cap,Value.int IntKind.i64 ↑zn,b4,Value.int IntKind.u32 m] 183)).alloc (.cells #[.int .i64 (x / 2 ^ zn)] 2)).alloc (.cells #[.int .u32 0] 108)).alloc (.cells #[.slice a len cap] 181)):=((((Below.refl _ w).alloc (lR _) _).alloc (by simp) _).alloc (by simp; omega) _).alloc (by simp; omega) _
 have hsz:((((w.alloc (.cells #[b1,b2,b3,Value.slice a len cap,Value.int IntKind.i64 ↑zn,b4,Value.int IntKind.u32 m] 183)).alloc (.cells #[.int .i64 (x / 2 ^ zn)] 2)).alloc (.cells #[.int .u32 0] 108)).alloc (.cells #[.slice a len cap] 181)).heap.size=w.heap.size+4:=by simp
 obtain ⟨W0,hW0⟩:∃ W0,((((w.alloc (.cells #[b1,b2,b3,Value.slice a len cap,Value.int IntKind.i64 ↑zn,b4,Value.int IntKind.u32 m] 183)).alloc (.cells #[.int .i64 (x / 2 ^ zn)] 2)).alloc (.cells #[.int .u32 0] 108)).alloc (.cells #[.slice a len cap] 181))=W0:=⟨_,rfl⟩
 rw [hW0] at bN bW bS hB0 hsz ⊢
 clear hW0
 refine wpIn_rangeFunc_ownH hro h1 (gf:=209) (lb:=#[.pointer (some ⟨w.heap.size+1+1+1,0,none⟩)]) rfl h7 (enters_of Tryz.func209 (by kernel_rfl) rfl)
  (Qyp Fence.wide (n - 1) h7 hro (by omega) (w.heap.size+1+1+1) w.heap.size (.slice a len cap) len hlen z W0 (by omega) (by omega) bS.cell (hI.below hB0)) (fun h k=>h.trans k) (fun W l o o' hl h1 h2 h3=>⟨belowK_b (w:=W0) (by omega) W l o o' hl h1 h2 h3,World.putObj_heap_other (by omega)⟩) (Below.refl _ _) (fun _=>rfl)
  (fun pre W=>(Boxed W (w.heap.size+1) 2 (.int .i64 (spB (x / 2 ^ zn) pre).2)∧Boxed W (w.heap.size+1+1) 108 (.int .u32 (spB (x / 2 ^ zn) pre).1))∧Below w.heap.size W0 W)
  (fun _ _ _=>False)
  (OwnFrom.and (OwnFrom.and (Own.from (boxed_own _ _ _) _) (Own.from (boxed_own _ _ _) _)) (ownFrom_below (by omega) (by omega)))
  (fun _ _ _ _ _ hs _ _=>hs)
  ⟨⟨bN,bW⟩,Below.refl _ _⟩
  (fun y a' W=>∃ Bx,w.heap.size+1+1<Bx∧W.cell? ⟨Bx,0,none⟩=some (.int .i64 (y.2.1:Int))∧W.cell? ⟨Bx,1,none⟩=some (.int .i64 (y.2.2:Int))∧a'={
   tmps :=
    #[Value.agg #[b1,b2,b3,Value.slice a len cap,Value.int IntKind.i64 ↑zn,b4,Value.int IntKind.u32 m],
      Value.int IntKind.i64 x,Value.pointer (some { block:=w.heap.size,off:=0 }),
      Value.pointer (some { block:=w.heap.size+1,off:=0 }),Value.int IntKind.u32 0,
      Value.pointer (some { block:=w.heap.size+1+1,off:=0 }),undef,Value.pointer (some { block:=Bx,off:=0 }),Value.int IntKind.i64 x,
      Value.pointer (some { block:=w.heap.size,off:=4 }),Value.int IntKind.i64 ↑zn,
      Value.int IntKind.i64 (x / 2 ^ zn),Value.pointer (some { block:=w.heap.size,off:=3 }),
      Value.slice a len cap,
      Value.func (Fn.func 209) #[] #[Value.pointer (some { block:=w.heap.size+1+1+1,off:=0 })],.int .i64 (y.1:Int),.agg #[.int .i64 (y.2.1:Int),.int .i64 (y.2.2:Int)],
      undef,undef,undef,undef,undef,undef,undef,undef,undef,undef,undef,undef,undef,undef,
      undef,undef,undef],
   defers:=[] })
  (fun y a' _ X Y row hs hg hr=>by obtain ⟨Bx,g1,g2,g3,g4⟩:=hs; exact ⟨Bx,g1,cell_kept g2 hg (fun r e=>(hr r e).2),cell_kept g3 hg (fun r e=>(hr r e).2),g4⟩)
  ?assign ?body ?done ?stop
 case assign =>
  rintro l pre y W K ⟨⟨bN1,bW1⟩,hB1⟩ hK
  gi_wp2
  exact hK _ _ ((KeepsOthers.alloc _ _).from _) ⟨(Below.refl _ W).alloc (by have:=hB1.size; omega) _,Below.heap_alloc W _ _ (by have:=hB1.size; omega)⟩ ⟨⟨bN1.alloc _,bW1.alloc _⟩,hB1.alloc (by have:=hB1.size; omega) _⟩ ⟨W.heap.size,bW1.lt,QTs W _ _ _,QTr W _ _ _,rfl⟩
 case body =>
  rintro l pre y a' W hl ⟨r,hr⟩ ⟨⟨bN1,bW1⟩,hB1⟩ ⟨Bx,hBx,c1,c2,rfl⟩ hlt
  have cN:=bN1.cell
  have cW:=bW1.cell
  have fN:=bN1.frozen
  have fW:=bW1.frozen
  gi_wp2
  refine Am.wpIn_draw (kd:=fun j=>[0,0,3,0,3,3,3,3,3,0,3,3,2].getD j 1)
   (t:=.rd 0 (.rd 1 (.pu 2 (.rd 3 (.pu 4 (.pu 5 (.pu 6 (.pu 7 (.pu 8 (.rd 9 (.pu 10 (.pu 11 (.op 12 false .done))))))))))))) (by kernel_rfl) (by kernel_rfl) (Am.drawN_ok (by kernel_rfl))
   (S:=⟨⟨fun b o=>(b=w.heap.size+1+1∧o=0)∨(b=w.heap.size+1∧o=0)∨(b=Bx∧(o=0∨o=1)),fun _=>False⟩,⟨fun _ _=>False,fun _=>False⟩⟩) ?_
  have k1:∀ w',Am.Ek ⟨fun b o=>(b=w.heap.size+1+1∧o=0)∨(b=w.heap.size+1∧o=0)∨(b=Bx∧(o=0∨o=1)),fun _=>False⟩ W.drew w'→w'.cell? ⟨w.heap.size+1+1,0,none⟩=some (.int .u32 (spB (x / 2 ^ zn) pre).1):=fun w' hk=>(hk.cells _ _ (.inl ⟨rfl,rfl⟩)).trans cW
  have k2:∀ w',Am.Ek ⟨fun b o=>(b=w.heap.size+1+1∧o=0)∨(b=w.heap.size+1∧o=0)∨(b=Bx∧(o=0∨o=1)),fun _=>False⟩ W.drew w'→w'.cell? ⟨w.heap.size+1,0,none⟩=some (.int .i64 (spB (x / 2 ^ zn) pre).2):=fun w' hk=>(hk.cells _ _ (.inr (.inl ⟨rfl,rfl⟩))).trans cN
  have k3:∀ w',Am.Ek ⟨fun b o=>(b=w.heap.size+1+1∧o=0)∨(b=w.heap.size+1∧o=0)∨(b=Bx∧(o=0∨o=1)),fun _=>False⟩ W.drew w'→w'.cell? ⟨Bx,0,none⟩=some (.int .i64 (y.2.1:Int)):=fun w' hk=>(hk.cells _ _ (.inr (.inr ⟨rfl,.inl rfl⟩))).trans c1
  have k4:∀ w',Am.Ek ⟨fun b o=>(b=w.heap.size+1+1∧o=0)∨(b=w.heap.size+1∧o=0)∨(b=Bx∧(o=0∨o=1)),fun _=>False⟩ W.drew w'→w'.cell? ⟨Bx,1,none⟩=some (.int .i64 (y.2.2:Int)):=fun w' hk=>(hk.cells _ _ (.inr (.inr ⟨rfl,.inr rfl⟩))).trans c2
  refine ⟨_,.int .u32 (spB (x / 2 ^ zn) pre).1,rfl,.inl ⟨rfl,fun w' hk=>?_⟩,?_⟩
  ·simp [go_sem,k1 w' hk]
  refine ⟨_,.int .i64 (spB (x / 2 ^ zn) pre).2,rfl,.inl ⟨rfl,fun w' hk=>?_⟩,?_⟩
  ·simp [go_sem,k2 w' hk]
  refine ⟨_,.pointer (some ⟨Bx,1,none⟩),rfl,.inl ⟨rfl,fun w' hk=>?_⟩,?_⟩
  ·simp [go_sem]
  refine ⟨_,.int .i64 (y.2.2:Int),rfl,.inl ⟨rfl,fun w' hk=>?_⟩,?_⟩
  ·simp [go_sem,k4 w' hk]
  refine ⟨_,.int .i64 (IntKind.i64.wrap (2 ^ min y.2.2 64)),rfl,.inl ⟨rfl,fun w' hk=>?_⟩,?_⟩
  ·simp [go_sem]
  refine ⟨_,.int .i64 (QEy y),rfl,.inl ⟨rfl,fun w' hk=>?_⟩,?_⟩
  ·simp [go_sem,QEy]
  refine ⟨_,.int .i64 (Quu (spB (x / 2 ^ zn) pre).2 y),rfl,.inl ⟨rfl,fun w' hk=>?_⟩,?_⟩
  ·simp [go_sem,Quu]
  refine ⟨_,.int .u32 (IntKind.u32.wrap (Quu (spB (x / 2 ^ zn) pre).2 y)),rfl,.inl ⟨rfl,fun w' hk=>?_⟩,?_⟩
  ·simp [go_sem]
  refine ⟨_,.pointer (some ⟨Bx,0,none⟩),rfl,.inl ⟨rfl,fun w' hk=>?_⟩,?_⟩
  ·simp [go_sem]
  refine ⟨_,.int .i64 (y.2.1:Int),rfl,.inl ⟨rfl,fun w' hk=>?_⟩,?_⟩
  ·simp [go_sem,k3 w' hk]
  refine ⟨_,.int .u32 (IntKind.u32.wrap (IntKind.u32.wrap (Quu (spB (x / 2 ^ zn) pre).2 y) * 2 ^ min y.2.1 32)),rfl,.inl ⟨rfl,fun w' hk=>?_⟩,?_⟩
  ·simp [go_sem]
  refine ⟨_,.int .u32 (Qn9 (spB (x / 2 ^ zn) pre) y).1,rfl,.inl ⟨rfl,fun w' hk=>?_⟩,?_⟩
  ·simp [go_sem,Qn9]
  have cW':W.drew.cell? ⟨w.heap.size+1+1,0,none⟩=some (.int .u32 (spB (x / 2 ^ zn) pre).1):=cW
  have fW':W.drew.frozen? ⟨w.heap.size+1+1,0,none⟩=false:=fW
  refine Am.opN_skip (w':=W.drew.setCell ⟨w.heap.size+1+1,0,none⟩ (.int .u32 (Qn9 (spB (x / 2 ^ zn) pre) y).1)) rfl rfl ?_ ?_
  ·simp [go_sem,cW',fW']
  ·refine ⟨⟨⟨fun b o=>(b=w.heap.size+1+1∧o=0)∨(b=w.heap.size+1∧o=0)∨(b=Bx∧(o=0∨o=1)),fun _=>False⟩,⟨fun _ _=>False,fun _=>False⟩⟩,⟨Am.Sg.le.refl _,⟨rfl,rfl,rfl,by simp,fun _ _ h=>h.elim,fun _ h=>h.elim⟩⟩,fun h=>by (cases h),?_⟩
   obtain ⟨W2,hW2⟩:∃ W2,W.drew.setCell ⟨w.heap.size+1+1,0,none⟩ (.int .u32 (Qn9 (spB (x / 2 ^ zn) pre) y).1)=W2:=⟨_,rfl⟩
   have bW2:Boxed W2 (w.heap.size+1+1) 108 (.int .u32 (Qn9 (spB (x / 2 ^ zn) pre) y).1):=by rw [← hW2]; exact Boxed.set _ (show Boxed W.drew _ _ _ from bW1)
   have bN2:Boxed W2 (w.heap.size+1) 2 (.int .i64 (spB (x / 2 ^ zn) pre).2):=by rw [← hW2]; exact Boxed.other (show Boxed W.drew _ _ _ from bN1) (by omega) _
   have c22:W2.cell? ⟨Bx,1,none⟩=some (.int .i64 (y.2.2:Int)):=by
    rw [← hW2]
    have:(W.drew.setCell ⟨w.heap.size+1+1,0,none⟩ (.int .u32 (Qn9 (spB (x / 2 ^ zn) pre) y).1)).heap[Bx]?=W.drew.heap[Bx]?:=(grownBy_setCell' W.drew _ _).block Bx (by
     have:=c2; unfold World.cell? at this; split at this
     ·rename_i hh; exact (Array.getElem?_eq_some_iff.1 hh).1
     ·cases this) (fun e=>by cases e; omega)
    exact (Am.cell?_of_old (a:=⟨Bx,1,none⟩) this).trans c2
   have hK2:KeepsFrom W0.heap.size W W2:=by rw [← hW2]; exact (KeepsOthers.drew W).trans (KeepsOthers.setCell _ _ _) |>.from _
   have hB2:KpB w.heap.size (w.heap.size+1+1+1) W W2:=by
    rw [← hW2]
    exact ⟨(Below.refl _ W).drew.setCell (p:=⟨w.heap.size+1+1,0,none⟩) (by show w.heap.size≤w.heap.size+1+1; omega) _,(grownBy_setCell' W.drew _ _).block (w.heap.size+1+1+1) (by have:=hB1.size; show _<W.heap.size; omega) (fun e=>by have:=Option.some.inj e; omega)⟩
   rw [hW2]
   clear hW2
   have cN2:=bN2.cell
   have fN2:=bN2.frozen
   simp only [Am.RTree]
   gi_wp2
   refine ⟨hK2.trans ((KeepsOthers.setCell _ _ _).from _),hB2.trans ⟨(Below.refl _ W2).setCell (p:=⟨w.heap.size+1,0,none⟩) (by simp) _,(grownBy_setCell' W2 _ _).block (w.heap.size+1+1+1) (by have:=hB1.size; have:=hB2.1.size; omega) (fun e=>by have:=Option.some.inj e; omega)⟩,⟨?_,?_⟩,?_⟩
   ·rw [Qwa]; exact bN2.set _
   ·rw [Qwa]; exact Boxed.other bW2 (by omega) _
   ·exact (hB1.trans hB2.1).setCell (p:=⟨w.heap.size+1,0,none⟩) (by simp) _
 case done =>
  rintro D ys W hD rfl ⟨⟨bN1,bW1⟩,hB1⟩ hK
  have cW:=bW1.cell
  gi_wp2
  refine ⟨by simp,.inl ⟨_,_,rfl,run_takeDeferred hK,?_⟩⟩
  exact ⟨_,results_tmp rfl _ _ _,rfl,(hB0.trans hB1).trans (belowK_b (w:=w) (lR _) W D _ _ (by omega) hK rfl rfl)⟩
 case stop =>
  rintro D c pre W _ _ h _
  exact h.elim
end Go.Proofs.YtbdhjeojcpgblaaGreatDoor
namespace Go.Proofs.YtbdhjeojcpgblaaGreatDoor
open Go Go.Am Go.Rv
set_option maxRecDepth 100000
variable {P:Program} {G:Nat→Option V}
section
attribute [local go_sem] nF aZ lR zA zL decide_false decide_true Qu QdZ QMG QMF QaA QKY QKX QKW QKV QKU QKT QKS QKR
def u32 (w:Int):Prop:=0≤w∧w<4294967296
def frm (a b c:Bool) (l:List (Nat × Nat)) (z:Nat) (sg:Bool) (m:Int):List V:=[.bool a,.bool b,.bool c,Qyj l,.int .i64 z,.bool sg,.int .u32 m]
theorem QcG (m k:Nat) (h:m≤k):(1:Int)≤2 ^ m∧(2:Int) ^ m≤2 ^ k:=by
 have h1:=Nat.pow_le_pow_right (n:=2) (by omega) h
 have h2:0<2 ^ m:=Nat.pow_pos (by omega)
 constructor
 ·exact_mod_cast h2
 ·exact_mod_cast h1
theorem QGb {w:Int} {a m:Nat} (hw:u32 w) (ha:a≤31) (hm:m≤30) :
 IntKind.u32.wrap (BitVec.ofInt 32 (w.fdiv (2 ^ min a 32)) &&& BitVec.ofInt 32 (IntKind.u32.wrap (IntKind.u32.wrap (1 * 2 ^ min m 32) - 1))).toNat=fld w a m:=by
 have e1:min a 32=a:=by omega
 have e2:min m 32=m:=by omega
 obtain ⟨p1,p2⟩:=QcG m 30 hm
 have e3:IntKind.u32.wrap (1 * 2 ^ m)=2 ^ m:=by
  rw [Int.one_mul]; exact Qas _ (by simp [IntKind.min,IntKind.signed]; omega) (by simp [IntKind.max,IntKind.signed,IntKind.bits]; omega)
 have e4:IntKind.u32.wrap (2 ^ m - 1)=2 ^ m - 1:=Qas _ (by simp [IntKind.min,IntKind.signed]; omega) (by simp [IntKind.max,IntKind.signed,IntKind.bits]; omega)
 obtain ⟨q1,q2⟩:=QcG a 31 ha
 rw [e1,e2,e3,e4,Int.fdiv_eq_ediv_of_nonneg _ (by omega)]
 exact QgC .u32 m _ _ rfl (by simp [IntKind.bits]; omega)
theorem c_of (hT:Qf P tab) (w:Int) (a m:Nat) (hw:u32 w) (ha:a≤31) (hm:m≤30):Pure P G Qf9 [pr a m,.int .u32 w] fun v=>v=.int .u32 (fld w a m):=by
 intro t
 refine Qi 0 (zL _) (Qk hT Qbn (by simp [QdZ]) (Qg 1000 ?_))
 simp -implicitDefEqProofs (disch:=omega) only [go_sem,↓reduceIte,reduceCtorEq,rA,rq,rL,pr]
 exact congrArg (V.int .u32) (QGb hw ha hm)
theorem Qep (l:List (Nat × Nat)):∃ z,Qyj l=.lst z (l.map fun b=>pr b.1 b.2) true∧(z=2∨l=[]):=by
 cases l with
 | nil=>exact ⟨0,rfl,.inr rfl⟩
 | cons b l=>exact ⟨2,rfl,.inl rfl⟩
variable {l:List (Nat × Nat)}
theorem QSu (hb:∀ p∈l,p.2≤30) (z:Nat):QA l z≤z+30 * l.length:=by
 induction l generalizing z with
 | nil=>simp [QA]
 | cons p l ih =>
   have h1:=hb p List.mem_cons_self
   have:=ih (fun q hq=>hb q (List.mem_cons_of_mem _ hq)) (z+p.2)
   simp only [QA,List.foldl_cons,lC] at this ⊢
   omega
variable {i:Nat}
theorem Qhv {p:Nat × Nat} (h:l[i]?=some p) (z:Nat):QA (l.take (i+1)) z=QA (l.take i) z+p.2:=by
 rw [List.take_add_one,h]; simp [QA]
theorem XU {x:Int} (h1:-9223372036854775808≤x) (h2:x≤9223372036854775807):IntKind.i64.wrap x=x:=Qas _ (by simpa [IntKind.min,IntKind.signed,IntKind.bits] using h1) (by simpa [IntKind.max,IntKind.signed,IntKind.bits] using h2)
theorem QfB {n:Nat} (h:i<n) (hn:n≤1000000000):IntKind.i64.wrap ((i:Int)+1)=((i+1:Nat):Int):=by rw [XU (by omega) (by omega)]; rfl
theorem QDs (hT:Qf P tab) (a b c:Bool) (l:List (Nat × Nat)) (z:Nat) (sg:Bool) (m:Int) (hl:l.length≤4) (hb:∀ p∈l,p.2≤30) (hz:z≤30) :
 Pure P G Qf8 [.agg (frm a b c l z sg m)] fun v=>v=.int .i64 (QA l z):=by
 intro t
 obtain ⟨y,hy,hyl⟩:=Qep l
 refine Qi 0 (zL _) (Qk hT Qaw (by simp [QaA]) (Qg 1000 ?_))
 simp -implicitDefEqProofs (disch:=omega) only [go_sem,↓reduceIte,reduceCtorEq,rA,rq,rL,frm,hy,lM]
 refine QmK (fun n fr σ=>∃ i t',i≤l.length∧n=l.length - i∧Ql fr 3=.int .i64 (QA (l.take i) z)∧Ql fr 9=.lst y (l.map fun b=>pr b.1 b.2) true∧Ql fr 10=.int .i64 l.length∧Ql fr 11=.int .i64 i ∧
  σ=⟨t',[some (.arr t 183 (frm a b c l z sg m))]⟩) (fun n fr σ hJ=>?_) (m0:=l.length) ⟨0,t+1,zL _,rfl,?_⟩
 ·obtain ⟨i,t',hi,rfl,f3,f9,f10,f11,rfl⟩:=hJ
  refine Qg 1000 ?_
  rcases Nat.lt_or_ge i l.length with hlt | hge
  ·have hy2:y=2:=by rcases hyl with h | h; exact h; rw [h] at hlt; simp at hlt
   subst hy2
   obtain ⟨p,hp⟩:∃ p,l[i]?=some p:=⟨_,List.getElem?_eq_getElem hlt⟩
   have hg:(l.map fun b=>pr b.1 b.2).getD i .any=.agg [.int .i64 p.1,.int .i64 p.2]:=by simp [List.getD_eq_getElem?_getD,hp,pr]
   have hw:=QSu (l:=l.take (i+1)) (fun q hq=>hb q (List.mem_of_mem_take hq)) z
   have hw2:(l.take (i+1)).length≤4:=by simp; omega
   rw [Qhv hp] at hw
   have e1:IntKind.i64.wrap ((QA (l.take i) z:Int)+(p.2:Int))=((QA (l.take (i+1)) z:Nat):Int):=by rw [Qhv hp,XU (by omega) (by omega)]; push_cast; rfl
   have e2:=QfB hlt (by omega)
   simp -implicitDefEqProofs (disch:=omega) only [go_sem,↓reduceIte,reduceCtorEq,rA,rq,frm,hy,lM,f3,f9,f10,f11,hlt,hg]
   refine ⟨l.length - (i+1),_,_,by omega,Shift.drop (o':=[some (.arr t 183 (frm a b c l z sg m))]) (t':=t'+1) (by simp [XT,frm,hy]) (lR _) (zL _),i+1,t'+1,hlt,rfl,?_⟩
   simp -implicitDefEqProofs (disch:=omega) only [go_sem,↓reduceIte,rq,frm,hy,f9,f10,e1,e2]
  ·simp -implicitDefEqProofs (disch:=omega) only [go_sem,↓reduceIte,f10,f11,show ¬ i<l.length from by omega]
   have hi:i=l.length:=by omega
   subst hi
   rw [List.take_length] at f3
   refine Qa 1000 ?_
   simp -implicitDefEqProofs (disch:=omega) only [go_sem,↓reduceIte,rq,f3]
 ·simp -implicitDefEqProofs (disch:=omega) only [go_sem,↓reduceIte,reduceCtorEq,rq,frm,hy]
  simp [QA]
end
section
attribute [local go_sem] nF lR zA zL decide_false decide_true Qu ZR QMQ QMP QAa QMO QMN QMM QML QMK QMJ QMI QMH
theorem QCR (w:Int) (a m:Nat):0≤fld w a m∧fld w a m<2 ^ m:=by
 have:=(QcG m m (lR _)).1
 exact ⟨Int.emod_nonneg _ (by omega),Int.emod_lt_of_pos _ (by omega)⟩
variable {p:Nat × Nat} {i:Nat} {l:List (Nat × Nat)} {w:Int}
theorem QtP (h:l[i]?=some p) (z:Int):Qpq w (l.take (i+1)) z=Qpq w (l.take i) z * 2 ^ p.2+fld w p.1 p.2:=by
 rw [List.take_add_one,h]; simp [Qpq]
theorem QvP (w:Int) (l:List (Nat × Nat)):∀ i,0≤Qpq w (l.take i) 0∧Qpq w (l.take i) 0<2 ^ QA (l.take i) 0:=by
 intro i
 induction i with
 | zero=>simp [Qpq,QA]
 | succ i ih =>
   cases h:l[i]? with
   | none=>rw [List.take_of_length_le (by have:=List.getElem?_eq_none_iff.1 h; omega)]; rw [List.take_of_length_le (by have:=List.getElem?_eq_none_iff.1 h; omega)] at ih; exact ih
   | some p =>
     rw [QtP h,Qhv h]
     obtain ⟨f1,f2⟩:=QCR w p.1 p.2
     obtain ⟨g1,_⟩:=QcG p.2 p.2 (lR _)
     constructor
     ·have:=Int.mul_nonneg ih.1 (show (0:Int)≤2 ^ p.2 by omega); omega
     ·rw [Int.pow_add]
      have h1:Qpq w (l.take i) 0+1≤2 ^ QA (l.take i) 0:=by omega
      have:=Int.mul_le_mul_of_nonneg_right h1 (show (0:Int)≤2 ^ p.2 by omega)
      rw [Int.add_mul] at this
      omega
theorem Qw9 (l:List (Nat × Nat)) (i:Nat):QA (l.take i) 0≤QA l 0:=by
 have key:∀ (l:List (Nat × Nat)) (a b:Nat),a≤b→a≤QA l b:=by
  intro l
  induction l with
  | nil=>intro a b h; exact h
  | cons p l ih=>intro a b h; exact ih a (b+p.2) (by omega)
 have:QA l 0=QA (l.drop i) (QA (l.take i) 0):=by
  conv=>lhs; rw [← List.take_append_drop i l]
  rw [QA,List.foldl_append]; rfl
 rw [this]
 exact key _ _ _ (lR _)
theorem QEW (h:l[i]?=some p) (hl:QA l 0≤60) (hp:p.2≤30) :
 IntKind.i64.wrap (BitVec.ofInt 64 (IntKind.i64.wrap (Qpq w (l.take i) 0 * 2 ^ min p.2 64)) ||| BitVec.ofInt 64 (IntKind.i64.wrap (fld w p.1 p.2))).toNat=Qpq w (l.take (i+1)) 0:=by
 have e1:min p.2 64=p.2:=by omega
 obtain ⟨f1,f2⟩:=QCR w p.1 p.2
 obtain ⟨g1,g2⟩:=QcG p.2 30 hp
 have hb:=QvP w l (i+1)
 have hw:=Qw9 l (i+1)
 obtain ⟨_,q2⟩:=QcG (QA (l.take (i+1)) 0) 60 (by omega)
 have hb0:=QvP w l i
 rw [QtP h] at hb ⊢
 have hm:=Int.mul_nonneg hb0.1 (show (0:Int)≤2 ^ p.2 by omega)
 rw [e1,XU (x:=Qpq w (l.take i) 0 * 2 ^ p.2) (by omega) (by omega),XU (x:=fld w p.1 p.2) (by omega) (by omega)]
 exact QBX .i64 p.2 _ _ hm f1 f2 (Int.mul_emod_left _ _) (by simp [IntKind.max,IntKind.signed,IntKind.bits]; omega)
theorem QBH {n:Int} {b:Nat} (h0:0≤n) (h1:n<2 ^ b) (hb:1≤b) (hb2:b≤60):(IntKind.i64.wrap (n * 2 ^ (64 - b))).fdiv (2 ^ (64 - b))=sgn n b:=by
 obtain ⟨s1,_⟩:=QcG (64 - b) 64 (by omega)
 have hp:(2:Int) ^ b=2 * 2 ^ (b - 1):=by
  have:b=(b - 1)+1:=by omega
  conv=>lhs; rw [this,Int.pow_succ]
  omega
 have hsp:(2:Int) ^ (64 - b) * 2 ^ (b - 1)=9223372036854775808:=by
  rw [← Int.pow_add]
  have:64 - b+(b - 1)=63:=by omega
  rw [this]; rfl
 unfold sgn
 rw [Int.fdiv_eq_ediv_of_nonneg _ (by omega)]
 generalize hs:(2:Int) ^ (64 - b)=s at *
 generalize hq:(2:Int) ^ (b - 1)=q at *
 rw [hp] at h1 ⊢
 split
 ·rename_i hge
  have e:IntKind.i64.wrap (n * s)=(n - 2 * q) * s:=by
   have a1:=Int.mul_le_mul_of_nonneg_right hge (show 0≤s by omega)
   have a2:=Int.mul_le_mul_of_nonneg_right (show n+1≤2 * q by omega) (show 0≤s by omega)
   rw [Int.add_mul] at a2
   rw [Int.sub_mul,Int.mul_assoc 2 q s,Int.mul_comm q s,hsp]
   rw [Int.mul_assoc 2 q s,Int.mul_comm q s,hsp] at a2
   rw [Int.mul_comm q s,hsp] at a1
   unfold IntKind.wrap
   simp [IntKind.bits,IntKind.signed]
   omega
  rw [e,Int.mul_ediv_cancel _ (by omega)]
 ·rename_i hlt
  have a1:=Int.mul_le_mul_of_nonneg_right (show n+1≤q by omega) (show 0≤s by omega)
  rw [Int.add_mul,Int.mul_comm q s,hsp] at a1
  have a2:=Int.mul_nonneg h0 (show 0≤s by omega)
  rw [XU (by omega) (by omega),Int.mul_ediv_cancel _ (by omega)]
theorem QFX (hT:Qf P tab) (a b c:Bool) (l:List (Nat × Nat)) (z:Nat) (sg:Bool) (m w:Int) (hl:l.length≤4) (hb:∀ p∈l,p.1≤31∧p.2≤30) (hz:z≤30) (hwd:QA l 0+z≤60) (hwz:QA l z=QA l 0+z) (hsg:sg=true→1≤QA l z) (hw:u32 w) :
 Pure P G QbN [.agg (frm a b c l z sg m),.int .u32 w] fun v=>v=.int .i64 (if sg then sgn (Qpq w l 0 * 2 ^ z) (QA l z) else Qpq w l 0 * 2 ^ z):=by
 intro t
 obtain ⟨y,hy,hyl⟩:=Qep l
 refine Qi 0 (zL _) (Qk hT QeU (by simp [ZR]) (Qg 1000 ?_))
 simp -implicitDefEqProofs (disch:=omega) only [go_sem,↓reduceIte,reduceCtorEq,rA,rq,rL,frm,hy,lM]
 refine QmK (fun n fr σ=>∃ i t',i≤l.length∧n=l.length - i∧Ql fr 1=.int .u32 w∧Ql fr 2=.ptr 0 t 0∧Ql fr 5=.int .i64 (Qpq w (l.take i) 0)∧Ql fr 9=.lst y (l.map fun b=>pr b.1 b.2) true∧Ql fr 10=.int .i64 l.length∧Ql fr 11=.int .i64 i ∧
  σ=⟨t',[some (.arr t 183 (frm a b c l z sg m))]⟩) (fun n fr σ hJ=>?_) (m0:=l.length) ⟨0,t+1,zL _,rfl,?_⟩
 ·obtain ⟨i,t',hi,rfl,f1,f2,f5,f9,f10,f11,rfl⟩:=hJ
  refine Qg 1000 ?_
  rcases Nat.lt_or_ge i l.length with hlt | hge
  ·have hy2:y=2:=by rcases hyl with h | h; exact h; rw [h] at hlt; simp at hlt
   subst hy2
   obtain ⟨p,hp⟩:∃ p,l[i]?=some p:=⟨_,List.getElem?_eq_getElem hlt⟩
   have hpb:=hb p (List.mem_of_getElem? hp)
   have hg:(l.map fun b=>pr b.1 b.2).getD i .any=.agg [.int .i64 p.1,.int .i64 p.2]:=by simp [List.getD_eq_getElem?_getD,hp,pr]
   have e1:=QEW (w:=w) hp (by omega) hpb.2
   have e2:=QfB hlt (by omega)
   simp -implicitDefEqProofs (disch:=omega) only [go_sem,↓reduceIte,reduceCtorEq,rA,rq,frm,hy,lM,f1,f5,f9,f10,f11,hlt,hg]
   refine Qbe hT Qbn (c_of hT w p.1 p.2 hw hpb.1 hpb.2) rfl 1000 fun v hv=>?_
   subst hv
   simp -implicitDefEqProofs (disch:=omega) only [go_sem,↓reduceIte,rq,f11]
   refine ⟨l.length - (i+1),_,_,by omega,Shift.drop (o':=[some (.arr t 183 (frm a b c l z sg m))]) (t':=t'+1) (by simp [XT,frm,hy]) (lR _) (zL _),i+1,t'+1,hlt,rfl,?_⟩
   simp -implicitDefEqProofs (disch:=omega) only [go_sem,↓reduceIte,rq,frm,hy,f1,f2,f9,f10,e2]
   exact congrArg (V.int .i64) e1
  ·have hi:i=l.length:=by omega
   subst hi
   rw [List.take_length] at f5
   have hac:=QvP w l l.length
   rw [List.take_length] at hac
   simp -implicitDefEqProofs (disch:=omega) only [go_sem,↓reduceIte,f10,f11,show ¬ l.length<l.length from by omega]
   refine Qa 1000 ?_
   have ez:min z 64=z:=by omega
   obtain ⟨g1,g2⟩:=QcG (QA l 0+z) 60 hwd
   obtain ⟨y1,_⟩:=QcG z 30 hz
   have h1:=Int.mul_le_mul_of_nonneg_right (show Qpq w l 0+1≤2 ^ QA l 0 by omega) (show (0:Int)≤2 ^ z by omega)
   rw [Int.add_mul,← Int.pow_add] at h1
   have h2:=Int.mul_nonneg hac.1 (show (0:Int)≤2 ^ z by omega)
   have e3:IntKind.i64.wrap (Qpq w l 0 * 2 ^ z)=Qpq w l 0 * 2 ^ z:=XU (by omega) (by omega)
   cases sg with
   | false=>simp -implicitDefEqProofs (disch:=omega) only [go_sem,↓reduceIte,rA,rq,rL,f2,f5,frm,hy,ez,e3]
   | true =>
     have cw:=QDs (G:=G) hT a b c l z true m hl (fun p hp=>(hb p hp).2) hz
     simp only [frm,hy] at cw
     have hwd1:=hsg rfl
     have e4:IntKind.i64.wrap (64 - (QA l z:Int))=((64 - QA l z:Nat):Int):=by rw [XU (by omega) (by omega)]; omega
     have e5:=QBH (n:=Qpq w l 0 * 2 ^ z) (b:=QA l z) h2 (by rw [hwz]; omega) hwd1 (by omega)
     have e6:min (64 - QA l z) 64=64 - QA l z:=by omega
     have e7:(0:Int)≤((64 - QA l z:Nat):Int):=by omega
     simp -implicitDefEqProofs (disch:=omega) only [go_sem,↓reduceIte,reduceCtorEq,rA,rq,rL,f2,f5,frm,hy,ez,e3]
     refine Qbe hT Qaw cw rfl 1000 fun v hv=>?_
     subst hv
     simp -implicitDefEqProofs (disch:=omega) only [go_sem,↓reduceIte,rq,e4,e6,e7,Int.toNat_natCast]
     refine Qbe hT Qaw cw rfl 1000 fun v hv=>?_
     subst hv
     simp -implicitDefEqProofs (disch:=omega) only [go_sem,↓reduceIte,rq,e4,e6,e7,Int.toNat_natCast,e5]
 ·simp -implicitDefEqProofs (disch:=omega) only [go_sem,↓reduceIte,reduceCtorEq,rq,frm,hy]
  simp [Qpq]
end
end Go.Proofs.YtbdhjeojcpgblaaGreatDoor
