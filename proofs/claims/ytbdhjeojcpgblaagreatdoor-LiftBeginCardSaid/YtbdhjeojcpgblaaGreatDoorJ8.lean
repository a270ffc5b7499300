/- Ours. -/
import Derived.Test.YtbdhjeojcpgblaaGreatDoorJ7
import Derived.Test.YtbdhjeojcpgblaaGreatDoorY
open Nat renaming reduceEqDiff → rq, reduceAdd → rA, reduceLeDiff → rL, reduceLT → rT, zero_add → zA, le_refl → lR, zero_le → zL, add_zero → aZ
open List renaming length_cons → lC, length_nil → lN, take_succ_cons → tSq, length_append → lA, nil_append → nA, cons_append → cA, append_assoc → aA, take_nil → tN, take_zero → tZ, length_map → lM
open Bool renaming not_false → nF, not_true → nT
namespace Go.Proofs.YtbdhjeojcpgblaaGreatDoor
open Go Go.Am
set_option maxRecDepth 100000
variable {P:Program} {G:Nat→Option V}
set_option maxHeartbeats 2000000
section
attribute [local go_sem] lA lC lN tN tSq lR zA and_true false_implies Qh X0 QJH QJG QJF QJE QJD true_and
variable {L:List Nd} {v0 v1 v2 v3 v4 m:Nat} {fmt:Int→List UInt8}
theorem kx_m {ex:List (Option Ob)} {y:Option Ob} (h:ex[m]?=some y):(kG fmt v0 v1 v2 v3 v4 L++ex)[5+m]?=some y:=by
 rw [List.getElem?_append_right (by rw [Qh]; omega),Qh,← h]
 congr 1
 omega
theorem Qp3 {ex:List (Option Ob)}:(kG fmt v0 v1 v2 v3 v4 L++ex).take (5+ex.length)=kG fmt v0 v1 v2 v3 v4 L++ex:=by
 rw [List.take_of_length_le (by rw [kx_len]; omega)]
theorem QSk (hT:Qf P tab) (F:Fmt P G) {bin:Qhd} (hK:Qck [] [] bin) (hB:QGm P G F.fmt bin) {t:Nat} {ex:List (Option Ob)} {op x c:Int} {vm T:Nat} (hm:ex[m]?=some (some (.arr vm T [.ptr 1 v0 0]))) (hok:okN L) (ho:1≤op∧op≤16) (hc:i64 c) {r:GR} (hr:r.2.length≤1000000) (h:Qei bin L op x c=some r) :
 C P G 0 Xb [.int .u8 op,.int .i64 x,.int .i64 c,.ptr (5+m) vm 0] ⟨t,kG F.fmt v0 v1 v2 v3 v4 L++ex⟩ (Qc1 F.fmt r v0 v1 ex t):=by
 refine Qi (5+ex.length) (zL _) (Qk hT QaX (by simp [X0]) (Qg 1000 ?_))
 have hgr:=QF5 (P:=P) (G:=G) hT ho
 have hmm:∀ {v2 v3 v4:Nat} {L:List Nd},(kG F.fmt v0 v1 v2 v3 v4 L++ex)[5+m]?=some (some (.arr vm T [.ptr 1 v0 0])):=kx_m hm
 refine yp ?_
 refine call hT Xy (Qo8 hT (by simp)) 1000 fun v σ hv=>?_
 obtain ⟨htv,t9,ht9,rfl⟩:=hv
 unfold Qei at h
 rcases htv with ⟨y,d,hta,rfl⟩ | ⟨hta,y,d,rfl⟩
 ·rw [hta] at h
  simp only at h
  refine ya ?_
  refine Qj hT Qig hgr rfl 1000 ?_
  by_cases hg:QhJ op=true
  ·rw [if_pos hg] at h
   obtain ⟨hx',_,hd,_⟩:=Qbg (S:=[]) (C:=[]) hok hta
   have hn:i64 (doW op d c):=Qgv hd hc
   have hdo:=c_Do (P:=P) (G:=G) hT (op:=op) (by omega) (by omega) hd hc
   obtain ⟨p1,p2,p3,p4,p5,_,_⟩:=Yb hK hok hx' (by omega) hn h
   rw [hg]
   refine yp ?_
   (repeat' (first | with_reducible refine And.intro ?_ ?_ | with_reducible intro _)) <;> (
    refine Qj hT Qih hdo rfl 1000 ?_
    refine yp ?_
    (repeat' (first | with_reducible refine And.intro ?_ ?_ | with_reducible intro _)) <;> (
     refine call hT Qp (QeB hT F hn (by omega)) 1000 fun v σ hv=>?_
     obtain ⟨rfl,t',v2',v3',v4',ht,rfl⟩:=hv
     refine yp ?_
     (repeat' (first | with_reducible refine And.intro ?_ ?_ | with_reducible intro _)) <;> (
      refine call hT Qs (hB _ _ _ _ _ _ _ _ _ _ _ _ p1 p2 p3 (by omega) hr h) 1000 fun v σ hv=>?_
      obtain ⟨rfl,t2,w2,w3,w4,ht2,rfl⟩:=hv
      simp -implicitDefEqProofs (disch:=omega) only [go_sem,↓reduceIte,reduceCtorEq,rq,Qp3]
      exact ⟨rfl,t2,w2,w3,w4,by omega,rfl⟩)))
  ·rw [if_neg hg] at h
   cases h
   have hg':QhJ op=false:=by simpa using hg
   rw [hg']
   simp -implicitDefEqProofs (disch:=omega) only [go_sem,↓reduceIte,reduceCtorEq,rq,Qp3]
   exact ⟨rfl,t9,v2,v3,v4,by omega,rfl⟩
 ·rw [hta] at h
  cases h
  simp -implicitDefEqProofs (disch:=omega) only [go_sem,↓reduceIte,reduceCtorEq,rA,rq,rT,Qp3]
  exact ⟨rfl,t9,v2,v3,v4,by omega,rfl⟩
end
section
attribute [local go_sem] lR zA beq_self_eq_true decide_false decide_true YN QJq QJp QzX QzW QzV QzU QzT QJo QJn QJm QJl QJk QJj QJi QJh
theorem QSm (hT:Qf P tab) (F:Fmt P G) {bin:Qhd} (hK:Qck [] [] bin) (hB:QGm P G F.fmt bin) {v0 v1 v2 v3 v4 t:Nat} {L:List Nd} {ex:List (Option Ob)} {x c:Int} (hok:okN L) (hc:i64 c) {r:GR} (hr:r.2.length≤1000000) (h:Qca bin L 16 x c=some r) :
 C P G 0 Qdr [mk v0,.int .i64 x,.int .i64 c] ⟨t,kG F.fmt v0 v1 v2 v3 v4 L++ex⟩ (Qc1 F.fmt r v0 v1 ex t):=by
 refine Qi (5+ex.length) (zL _) (Qk hT Qdk (by simp [YN]) (Qg 1000 ?_))
 simp -implicitDefEqProofs (disch:=omega) only [go_sem,↓reduceIte,reduceCtorEq,rA,rq,Qh,XI,lA,lC,lN,aA,tSq,tN,false_implies,and_true]
 unfold Qca at h
 rw [if_neg (by simp)] at h
 refine call hT Xy (Qo8 hT (by simp)) 1000 fun v σ hv=>?_
 obtain ⟨htv8,t8,ht8,rfl⟩:=hv
 rcases htv8 with ⟨y,d,hta,rfl⟩ | ⟨hta,y,d,rfl⟩
 ·rw [hta] at h
  simp only at h
  obtain ⟨hx',_,hd,_⟩:=Qbg (S:=[]) (C:=[]) hok hta
  simp -implicitDefEqProofs (disch:=omega) only [go_sem,↓reduceIte,reduceCtorEq,rA,rq,rT,XI,lC,lN,tSq,tN,false_implies,and_true]
  obtain ⟨p1,p2,p3,p4,p5,_,_⟩:=Yb hK hok hx' (by omega) (Xo _) h
  (repeat' (first | with_reducible refine And.intro ?_ ?_ | with_reducible intro _)) <;> (
   refine call hT Qp (QeB hT F (Xo _) (by omega)) 1000 fun v σ hv=>?_
   obtain ⟨rfl,t',v2',v3',v4',ht,rfl⟩:=hv
   simp -implicitDefEqProofs (disch:=omega) only [go_sem,↓reduceIte,reduceCtorEq,rq,XI,lC,lN,tSq,tN,false_implies,and_true]
   (repeat' (first | with_reducible refine And.intro ?_ ?_ | with_reducible intro _)) <;> (
    refine call hT Qs (hB _ _ _ _ _ _ _ _ _ _ _ _ p1 p2 p3 (by omega) hr h) 1000 fun v σ hv=>?_
    obtain ⟨rfl,t2,w2,w3,w4,ht2,rfl⟩:=hv
    simp -implicitDefEqProofs (disch:=omega) only [go_sem,↓reduceIte,reduceCtorEq,rq,Qh,Qx,lA,lC,lN]
    first | exact ⟨by omega,rfl,t2,w2,w3,w4,by omega,rfl⟩ | exact ⟨by omega,rfl,t2,w2,w3,w4,by omega,rfl,rfl⟩ | exact ⟨by omega,t2,w2,w3,w4,by omega,rfl⟩ | exact ⟨by omega,t2,w2,w3,w4,by omega,rfl,rfl⟩))
 ·rw [hta] at h
  simp only at h
  simp -implicitDefEqProofs (disch:=omega) only [go_sem,↓reduceIte,reduceCtorEq,rA,rq,rT,XI,lC,lN,tSq,tN,false_implies,and_true]
  refine call hT Xy (Qo8 hT (by simp)) 1000 fun v σ hv=>?_
  obtain ⟨htv9,t9,ht9,rfl⟩:=hv
  rcases htv9 with ⟨y,d,htb,rfl⟩ | ⟨htb,y,d,rfl⟩
  ·rw [htb] at h
   simp only at h
   obtain ⟨hx',_,hd,_⟩:=Qbg (S:=[]) (C:=[]) hok htb
   have hn:i64 (doW 10 c d):=Qgv hc hd
   have exr:QPx .i64 c d=doW 10 c d:=rfl
   simp -implicitDefEqProofs (disch:=omega) only [go_sem,↓reduceIte,reduceCtorEq,rA,rq,rT,XI,lC,lN,tSq,tN,false_implies,and_true,exr]
   obtain ⟨p1,p2,p3,p4,p5,_,_⟩:=Yb hK hok hx' (by omega) hn h
   (repeat' (first | with_reducible refine And.intro ?_ ?_ | with_reducible intro _)) <;> (
    refine call hT Qp (QeB hT F hn (by omega)) 1000 fun v σ hv=>?_
    obtain ⟨rfl,t',v2',v3',v4',ht,rfl⟩:=hv
    simp -implicitDefEqProofs (disch:=omega) only [go_sem,↓reduceIte,reduceCtorEq,rq,XI,lC,lN,tSq,tN,false_implies,and_true]
    (repeat' (first | with_reducible refine And.intro ?_ ?_ | with_reducible intro _)) <;> (
     refine call hT Qs (hB _ _ _ _ _ _ _ _ _ _ _ _ p1 p2 p3 (by omega) hr h) 1000 fun v σ hv=>?_
     obtain ⟨rfl,t2,w2,w3,w4,ht2,rfl⟩:=hv
     simp -implicitDefEqProofs (disch:=omega) only [go_sem,↓reduceIte,reduceCtorEq,rq,Qh,Qx,lA,lC,lN]
     first | exact ⟨by omega,rfl,t2,w2,w3,w4,by omega,rfl⟩ | exact ⟨by omega,rfl,t2,w2,w3,w4,by omega,rfl,rfl⟩ | exact ⟨by omega,t2,w2,w3,w4,by omega,rfl⟩ | exact ⟨by omega,t2,w2,w3,w4,by omega,rfl,rfl⟩))
  ·rw [htb] at h
   simp only at h
   refine yl ?_
   have hA:∀ o u w,(o=10∨(o=2∧(ofI L x 10=none∨¬ c=0)))→ofI L x o=some (u,w)→c=0→bin L 16 u w=some r:=by
    intro o u w ho hs hz
    rcases ho with rfl | ⟨rfl,hq⟩
    ·rw [hs] at h; simp only at h; rwa [if_pos hz] at h
    ·rcases hq with hq | hq
     ·rw [hq,hs] at h; simp only at h; rwa [if_pos hz] at h
     ·exact absurd hz hq
   have hN:(ofI L x 10=none∨¬ c=0)→(ofI L x 2=none∨¬ c=0)→r=(-1,L):=by
    intro h1 h2
    cases e1:ofI L x 10 with
    | some p =>
      rw [e1] at h h1
      have hz:¬ c=0:=h1.resolve_left (by simp)
      simp only [if_neg hz] at h
      cases h; rfl
    | none =>
      rw [e1] at h
      simp only at h
      cases e2:ofI L x 2 with
      | some p =>
        rw [e2] at h h2
        have hz:¬ c=0:=h2.resolve_left (by simp)
        simp only [if_neg hz] at h
        cases h; rfl
      | none=>rw [e2] at h; cases h; rfl
   clear h
   refine ZJ [(10:Int),2] (fun i fr σ=>((1≤i→ofI L x 10=none∨¬ c=0)∧(2≤i→ofI L x 2=none∨¬ c=0))∧Ql fr 1=.int .i64 x∧Ql fr 2=.int .i64 c∧Ql fr 3=.ptr (5+ex.length) t 0∧Ql fr 50=.lst 1 [.int .u8 10,.int .u8 2] true∧Ql fr 51=.int .i64 2∧Ql fr 52=.int .i64 ((i:Nat):Int)∧∃ t',t≤t'∧σ=⟨t',kG F.fmt v0 v1 v2 v3 v4 L++(ex++[some (.arr t 141 [.ptr 1 v0 0])])⟩)
    (fun e fr σ=>(e=.ret∧Ql fr 6=.int .i64 r.1∧∃ t' v2' v3' v4',t≤t'∧σ=⟨t',kG F.fmt v0 v1 v2' v3' v4' r.2++(ex++[some (.arr t 141 [.ptr 1 v0 0])])⟩)∨(e=.ex 0∧r=(-1,L)∧∃ t',t≤t'∧σ=⟨t',kG F.fmt v0 v1 v2 v3 v4 L++(ex++[some (.arr t 141 [.ptr 1 v0 0])])⟩)) ⟨⟨fun h=>by omega,fun h=>by omega⟩,yb,yb,yb,yb,by simp -implicitDefEqProofs (disch:=omega) only [go_sem,↓reduceIte,reduceCtorEq,rq]; rfl,by simp -implicitDefEqProofs (disch:=omega) only [go_sem,↓reduceIte,reduceCtorEq,rq]; rfl,t9,by omega,rfl⟩ (fun i o hx fr σ hJ=>?_) (fun i hi fr σ hJ=>?_) (fun e fr σ hE=>?_)
   ·obtain ⟨⟨j1,j2⟩,f1,f2,f3,f50,f51,f52,t3,ht3,rfl⟩:=hJ
    have hio:(i=0∧o=10)∨(i=1∧o=2):=by
     rcases i with _ | _ | i
     ·simp at hx; exact .inl ⟨rfl,hx.symm⟩
     ·simp at hx; exact .inr ⟨rfl,hx.symm⟩
     ·simp at hx
    have hAo:o=10∨(o=2∧(ofI L x 10=none∨¬ c=0)):=by
     rcases hio with ⟨_,e⟩ | ⟨e1,e⟩
     ·exact .inl e
     ·exact .inr ⟨e,j1 (by omega)⟩
    cases ho:ofI L x o with
    | none =>
      rcases hio with ⟨rfl,rfl⟩ | ⟨rfl,rfl⟩
      ·refine Qt [(1,.int .i64 x),(2,.int .i64 c),(3,.ptr (5+ex.length) t 0),(50,.lst 1 [.int .u8 10,.int .u8 2] true),(51,.int .i64 2),(52,.int .i64 0)] ⟨f1,f2,f3,f50,f51,f52,trivial⟩ 1000 ?_
       simp -implicitDefEqProofs (disch:=omega) only [go_sem,↓reduceIte,reduceCtorEq,rA,rq,rL,rT,Int.reduceToNat,Int.reduceLE,Int.reduceLT,XI,lC,lN,tSq,tN,false_implies,true_implies,and_true]
       refine call hT XD (QSi (base:=0) hT (zL _)) 1000 fun v σ hv=>?_
       obtain ⟨rfl,t4,ht4,rfl⟩:=hv
       rw [ho]
       simp -implicitDefEqProofs (disch:=omega) only [go_sem,↓reduceIte,rA,rq,rT,lC,lN,true_and,Qxr]
       exact ⟨_,_,Shift.refl _ _ _ _,yb,yb,yb,yb,yb,by simp -implicitDefEqProofs (disch:=omega) only [go_sem,↓reduceIte,rq]; rfl,t4,by omega,rfl⟩
      ·refine Qt [(1,.int .i64 x),(2,.int .i64 c),(3,.ptr (5+ex.length) t 0),(50,.lst 1 [.int .u8 10,.int .u8 2] true),(51,.int .i64 2),(52,.int .i64 1)] ⟨f1,f2,f3,f50,f51,f52,trivial⟩ 1000 ?_
       simp -implicitDefEqProofs (disch:=omega) only [go_sem,↓reduceIte,reduceCtorEq,rA,rq,rL,rT,Int.reduceToNat,Int.reduceLE,Int.reduceLT,XI,lC,lN,tSq,tN,false_implies,true_implies,and_true]
       refine call hT XD (QSi (base:=0) hT (zL _)) 1000 fun v σ hv=>?_
       obtain ⟨rfl,t4,ht4,rfl⟩:=hv
       rw [ho]
       simp -implicitDefEqProofs (disch:=omega) only [go_sem,↓reduceIte,rA,rq,rT,lC,lN,and_true,Qxr]
       exact ⟨_,_,Shift.refl _ _ _ _,j1 (by omega),yb,yb,yb,yb,yb,by simp -implicitDefEqProofs (disch:=omega) only [go_sem,↓reduceIte,rq]; rfl,t4,by omega,rfl⟩
    | some p =>
      obtain ⟨u,w⟩:=p
      by_cases hz:c=0
      ·have hb:=hA o u w hAo ho hz
       obtain ⟨q1,q2,_⟩:=QmR (S:=[]) (C:=[]) hok ho
       rcases hio with ⟨rfl,rfl⟩ | ⟨rfl,rfl⟩
       ·refine Qt [(1,.int .i64 x),(2,.int .i64 c),(3,.ptr (5+ex.length) t 0),(50,.lst 1 [.int .u8 10,.int .u8 2] true),(51,.int .i64 2),(52,.int .i64 0)] ⟨f1,f2,f3,f50,f51,f52,trivial⟩ 1000 ?_
        simp -implicitDefEqProofs (disch:=omega) only [go_sem,↓reduceIte,reduceCtorEq,rA,rq,rL,rT,Int.reduceToNat,Int.reduceLE,Int.reduceLT,XI,lC,lN,tSq,tN,false_implies,true_implies,and_true]
        refine call hT XD (QSi (base:=0) hT (zL _)) 1000 fun v σ hv=>?_
        obtain ⟨rfl,t4,ht4,rfl⟩:=hv
        rw [ho]
        simp -implicitDefEqProofs (disch:=omega) only [go_sem,↓reduceIte,reduceCtorEq,rA,rq,rT,XI,lC,lN,tSq,tN,false_implies,and_true,not_true_eq_false,Qxr,hz]
        refine call hT Qs (hB _ _ _ _ _ _ _ _ _ _ _ _ hok q1 q2 (by omega) hr hb) 1000 fun v σ hv=>?_
        obtain ⟨rfl,t5,w2,w3,w4,ht5,rfl⟩:=hv
        refine yk ?_
        exact ⟨t5,w2,w3,w4,by omega,rfl,rfl⟩
       ·refine Qt [(1,.int .i64 x),(2,.int .i64 c),(3,.ptr (5+ex.length) t 0),(50,.lst 1 [.int .u8 10,.int .u8 2] true),(51,.int .i64 2),(52,.int .i64 1)] ⟨f1,f2,f3,f50,f51,f52,trivial⟩ 1000 ?_
        simp -implicitDefEqProofs (disch:=omega) only [go_sem,↓reduceIte,reduceCtorEq,rA,rq,rL,rT,Int.reduceToNat,Int.reduceLE,Int.reduceLT,XI,lC,lN,tSq,tN,false_implies,true_implies,and_true]
        refine call hT XD (QSi (base:=0) hT (zL _)) 1000 fun v σ hv=>?_
        obtain ⟨rfl,t4,ht4,rfl⟩:=hv
        rw [ho]
        simp -implicitDefEqProofs (disch:=omega) only [go_sem,↓reduceIte,reduceCtorEq,rA,rq,rT,XI,lC,lN,tSq,tN,false_implies,and_true,not_true_eq_false,Qxr,hz]
        refine call hT Qs (hB _ _ _ _ _ _ _ _ _ _ _ _ hok q1 q2 (by omega) hr hb) 1000 fun v σ hv=>?_
        obtain ⟨rfl,t5,w2,w3,w4,ht5,rfl⟩:=hv
        refine yk ?_
        exact ⟨t5,w2,w3,w4,by omega,rfl,rfl⟩
      ·rcases hio with ⟨rfl,rfl⟩ | ⟨rfl,rfl⟩
       ·refine Qt [(1,.int .i64 x),(2,.int .i64 c),(3,.ptr (5+ex.length) t 0),(50,.lst 1 [.int .u8 10,.int .u8 2] true),(51,.int .i64 2),(52,.int .i64 0)] ⟨f1,f2,f3,f50,f51,f52,trivial⟩ 1000 ?_
        simp -implicitDefEqProofs (disch:=omega) only [go_sem,↓reduceIte,reduceCtorEq,rA,rq,rL,rT,Int.reduceToNat,Int.reduceLE,Int.reduceLT,XI,lC,lN,tSq,tN,false_implies,true_implies,and_true]
        refine call hT XD (QSi (base:=0) hT (zL _)) 1000 fun v σ hv=>?_
        obtain ⟨rfl,t4,ht4,rfl⟩:=hv
        rw [ho]
        simp -implicitDefEqProofs (disch:=omega) only [go_sem,↓reduceIte,reduceCtorEq,rA,rq,rT,XI,lC,lN,tSq,tN,false_implies,true_implies,true_and,and_true,not_false_eq_true,Qxr,hz]
        exact ⟨_,_,Shift.refl _ _ _ _,yb,yb,yb,yb,yb,by simp -implicitDefEqProofs (disch:=omega) only [go_sem,↓reduceIte,rq]; rfl,t4,by omega,rfl⟩
       ·refine Qt [(1,.int .i64 x),(2,.int .i64 c),(3,.ptr (5+ex.length) t 0),(50,.lst 1 [.int .u8 10,.int .u8 2] true),(51,.int .i64 2),(52,.int .i64 1)] ⟨f1,f2,f3,f50,f51,f52,trivial⟩ 1000 ?_
        simp -implicitDefEqProofs (disch:=omega) only [go_sem,↓reduceIte,reduceCtorEq,rA,rq,rL,rT,Int.reduceToNat,Int.reduceLE,Int.reduceLT,XI,lC,lN,tSq,tN,false_implies,true_implies,and_true]
        refine call hT XD (QSi (base:=0) hT (zL _)) 1000 fun v σ hv=>?_
        obtain ⟨rfl,t4,ht4,rfl⟩:=hv
        rw [ho]
        simp -implicitDefEqProofs (disch:=omega) only [go_sem,↓reduceIte,reduceCtorEq,rA,rq,rT,XI,lC,lN,tSq,tN,false_implies,true_implies,true_and,and_true,not_false_eq_true,Qxr,hz]
        exact ⟨_,_,Shift.refl _ _ _ _,yb,yb,yb,yb,yb,by simp -implicitDefEqProofs (disch:=omega) only [go_sem,↓reduceIte,rq]; rfl,t4,by omega,rfl⟩
   ·obtain ⟨⟨j1,j2⟩,f1,f2,f3,f50,f51,f52,t3,ht3,rfl⟩:=hJ
    subst hi
    refine Qt [(1,.int .i64 x),(2,.int .i64 c),(3,.ptr (5+ex.length) t 0),(50,.lst 1 [.int .u8 10,.int .u8 2] true),(51,.int .i64 2),(52,.int .i64 2)] ⟨f1,f2,f3,f50,f51,f52,trivial⟩ 1000 ?_
    simp -implicitDefEqProofs (disch:=omega) only [go_sem,↓reduceIte,reduceCtorEq,rq,Int.reduceLT,true_and,and_true]
    exact ⟨hN (j1 (by simp)) (j2 (by simp)),t3,by omega,rfl⟩
   ·rcases hE with ⟨rfl,f6,t3,w2,w3,w4,ht3,rfl⟩ | ⟨rfl,rfl,t3,ht3,rfl⟩
    ·refine Qa 1000 ?_
     simp -implicitDefEqProofs (disch:=omega) only [go_sem,f6,Qh,Qx,lA,lC,lN]
     exact ⟨by omega,rfl,t3,w2,w3,w4,by omega,rfl⟩
    ·refine Qa 1000 ?_
     simp -implicitDefEqProofs (disch:=omega) only [go_sem,↓reduceIte,Qh,Qx,lA,lC,lN]
     exact ⟨by omega,rfl,t3,v2,v3,v4,by omega,rfl⟩
end
section
attribute [local go_sem] aZ lR Nat.mul_one zA bne_self_eq_false decide_false decide_true Yx XZ QJu QJt QJs QJr QLU QLT Qz3 QLS QLR QLQ QLP QLO QLN QLM QLL
theorem Qtk {T:Nat→Option AF} (hT:Qf P T) {f:Nat} {A:AF} (hf:T f=some A) {n base base':Nat} {Q:AE→Fr→H→Prop} {t:AT} {d:Option Nat} {dead:List Nat} {s:List KI} {fr:Fr} {first args cap:List V} {σ:H} {R:V→H→Prop}
 (h:C P G base' f (first++args++cap) σ R) (fuel:Nat) (k:∀ v σ',R v σ'→run P G n base Q fuel (.at t dead::s) .nrm (fput fr d v) σ'):CV P G base' (.fn (.func f) first cap) args σ (kC P G n base Q d t dead s fr) :=
 Qk2 hT hf (h.conseq fun v σ' hq=>Qa fuel (k v σ' hq))
variable {r:GR} {op x c:Int} {L:List Nd} {bin:Qhd}
theorem Qpe (hb:Qck [] [] bin) (hok:okN L) (hc:i64 c) (h:Qca bin L op x c=some r):QvQ L r:=by
 unfold Qca at h
 split at h
 ·cases h; exact .inr rfl
 split at h
 ·rename_i y d hta
  obtain ⟨t1,_,t3,_⟩:=Qbg (S:=[]) (C:=[]) hok hta
  exact .inl (Xp hb hok t1 (by omega) (Xo _) h).2
 ·split at h
  ·rename_i y d hta
   obtain ⟨t1,_,t3,_⟩:=Qbg (S:=[]) (C:=[]) hok hta
   exact .inl (Xp hb hok t1 (by omega) (Qgv hc t3) h).2
  ·split at h
   ·rename_i y z hof
    obtain ⟨t1,t2,_⟩:=QmR (S:=[]) (C:=[]) hok hof
    split at h
    ·exact .inl (hb _ _ _ _ _ hok t1 t2 (by omega) h).2
    ·cases h; exact .inr rfl
   ·split at h
    ·rename_i y z hof
     obtain ⟨t1,t2,_⟩:=QmR (S:=[]) (C:=[]) hok hof
     split at h
     ·exact .inl (hb _ _ _ _ _ hok t1 t2 (by omega) h).2
     ·cases h; exact .inr rfl
    ·cases h; exact .inr rfl
def chain (L:List Nd):List (Option GR)→Option GR
 | []=>some (-1,L)
 | q::l=>q.bind fun q=>if q.1≠-1 then some q else chain L l
variable {l:List (Option GR)} {q:Option GR}
theorem QgI {k:List Nd→Option GR} (hn:∀ r,q=some r→QvQ L r) (hk:k L=some r→chain L l=some r) (h:Qmu q k=some r):chain L (q::l)=some r:=by
 unfold Qmu at h
 cases q with
 | none=>cases h
 | some q =>
   simp only [Option.bind_some,chain] at h ⊢
   by_cases h1:q.1≠-1
   ·rw [if_pos h1] at h ⊢; exact h
   ·rw [if_neg h1] at h ⊢
    rcases hn q rfl with h2 | h2
    ·exact absurd h2 h1
    ·rw [h2] at h; exact hk h
theorem QrM (hb:Qck [] [] bin) (hok:okN L) (ho:1≤op∧op≤16) (hx:inG L x) (hc:i64 c) (h:Qjv bin L op x c=some r):chain L [some (QaJ L op x c),Qgh bin L op x c,QeS bin L op x c,Qei bin L op x c,Qca bin L op x c]=some r:=by
 unfold Qjv at h
 refine QgI (fun r hr=>?_) (fun h=>?_) h
 ·cases hr; exact Qpa hx
 refine QgI (fun r hr=>Qo3 hb hok hx hc hr) (fun h=>?_) h
 refine QgI (fun r hr=>QoF hb hok hc hr) (fun h=>?_) h
 refine QgI (fun r hr=>Qo9 hb hok ho hc hr) (fun h=>?_) h
 rw [h]
 simp only [chain,Option.bind_some]
 by_cases h1:r.1≠-1
 ·rw [if_pos h1]
 ·rw [if_neg h1]
  rcases Qpe hb hok hc h with h2 | h2
  ·exact absurd h2 h1
  ·rw [h2]
theorem Qem (hn:∀ r,q=some r→QvQ L r) (h:chain L (q::l)=some r):∃ s,q=some s∧((s.1≠-1∧s=r)∨(s=(-1,L)∧chain L l=some r)):=by
 cases q with
 | none=>cases h
 | some q =>
   simp only [chain,Option.bind_some] at h
   by_cases h1:q.1≠-1
   ·rw [if_pos h1] at h
    cases h
    exact ⟨_,rfl,.inl ⟨h1,rfl⟩⟩
   ·rw [if_neg h1] at h
    rcases hn q rfl with h2 | h2
    ·exact absurd h2 h1
    ·exact ⟨_,rfl,.inr ⟨h2,h⟩⟩
variable {v0 v1 v2 v3 v4 t:Nat}
theorem k_S2 (hT:Qf P tab) (F:Fmt P G) (hK:Qck [] [] bin) (hB:QGm P G F.fmt bin) {ex:List (Option Ob)} {m vm T:Nat} (hm:ex[m]?=some (some (.arr vm T [.ptr 1 v0 0]))) (hok:okN L) (hc:i64 c) (hr:r.2.length≤1000000) (h:Qca bin L op x c=some r) :
 C P G 0 Xa [.int .u8 op,.int .i64 x,.int .i64 c,.ptr (5+m) vm 0] ⟨t,kG F.fmt v0 v1 v2 v3 v4 L++ex⟩ (Qc1 F.fmt r v0 v1 ex t):=by
 refine Qk hT QaW (by simp [XZ]) (Qg 1000 ?_)
 have hmm:(kG F.fmt v0 v1 v2 v3 v4 L++ex)[5+m]?=some (some (.arr vm T [.ptr 1 v0 0])):=kx_m hm
 by_cases h16:op=16
 ·subst h16
  simp -implicitDefEqProofs (disch:=omega) only [go_sem,↓reduceIte,reduceCtorEq,rA,rq,lC,lN,tSq,tN,false_implies,and_true,hmm]
  refine call hT Qdk (QSm hT F hK hB hok hc hr h) 1000 fun v σ hv=>?_
  obtain ⟨rfl,t',v2',v3',v4',ht,rfl⟩:=hv
  refine ya ?_
  exact ⟨rfl,t',v2',v3',v4',ht,rfl⟩
 ·rw [Qca,if_pos h16] at h
  cases h
  simp -implicitDefEqProofs (disch:=omega) only [go_sem,↓reduceIte,reduceCtorEq,rA,rq,false_implies,true_implies,and_true,not_false_eq_true,h16]
  exact ⟨rfl,t,v2,v3,v4,by omega,rfl⟩
theorem Qp5 (hT:Qf P tab) (F:Fmt P G) (hP:Bits P G) (hK:Qck [] [] bin) (hB:QGm P G F.fmt bin) {ex:List (Option Ob)} (hok:okN L) (hL:L.length≤1000000) (hx':inG L x) (ho:1≤op∧op≤16) (hc:i64 c) (hr:r.2.length≤1000000) (h:Qjv bin L op x c=some r) :
 C P G 0 QcM [mk v0,.int .u8 op,.int .i64 x,.int .i64 c] ⟨t,kG F.fmt v0 v1 v2 v3 v4 L++ex⟩ (Qc1 F.fmt r v0 v1 ex t):=by
 refine Qi (5+ex.length) (zL _) (Qk hT YC (by simp [Yx]) (Qg 1000 ?_))
 replace h:=QrM hK hok ho hx' hc h
 simp -implicitDefEqProofs (disch:=omega) only [go_sem,↓reduceIte,reduceCtorEq,rA,rq,rL,Qh,XI,lA,lC,lN,aA,cA,nA,tSq,tZ,tN,false_implies,and_true]
 have hbox:(ex++[some (.arr t 141 [.ptr 1 v0 0]),some (.arr (t+1) 213 [.fn (.func XN) [mk v0] [],.fn (.func XM) [mk v0] [],.fn (.func XL) [mk v0] [],.fn (.func Xb) [] [.ptr (5+ex.length) t 0],.fn (.func Xa) [] [.ptr (5+ex.length) t 0]])])[ex.length]?=some (some (.arr t 141 [.ptr 1 v0 0])):=by simp
 refine ZJ [0,1,2,3,4] (fun i fr σ=>chain L ([some (QaJ L op x c),Qgh bin L op x c,QeS bin L op x c,Qei bin L op x c,Qca bin L op x c].drop i)=some r∧Ql fr 1=.int .u8 op∧Ql fr 2=.int .i64 x∧Ql fr 3=.int .i64 c∧Ql fr 24=.sl (5+(ex.length+1)) (t+1) 0 1 5 none∧Ql fr 25=.int .i64 5∧Ql fr 26=.int .i64 ((i:Nat):Int)∧∃ t' v2' v3' v4',t≤t'∧σ=⟨t',kG F.fmt v0 v1 v2' v3' v4' L++(ex++[some (.arr t 141 [.ptr 1 v0 0]),some (.arr (t+1) 213 [.fn (.func XN) [mk v0] [],.fn (.func XM) [mk v0] [],.fn (.func XL) [mk v0] [],.fn (.func Xb) [] [.ptr (5+ex.length) t 0],.fn (.func Xa) [] [.ptr (5+ex.length) t 0]])])⟩)
  (fun e fr σ=>(e=.ret∧Ql fr 8=.int .i64 r.1∧∃ t' v2' v3' v4',t≤t'∧σ=⟨t',kG F.fmt v0 v1 v2' v3' v4' r.2++(ex++[some (.arr t 141 [.ptr 1 v0 0]),some (.arr (t+1) 213 [.fn (.func XN) [mk v0] [],.fn (.func XM) [mk v0] [],.fn (.func XL) [mk v0] [],.fn (.func Xb) [] [.ptr (5+ex.length) t 0],.fn (.func Xa) [] [.ptr (5+ex.length) t 0]])])⟩)∨(e=.ex 0∧r=(-1,L)∧∃ t' v2' v3' v4',t≤t'∧σ=⟨t',kG F.fmt v0 v1 v2' v3' v4' L++(ex++[some (.arr t 141 [.ptr 1 v0 0]),some (.arr (t+1) 213 [.fn (.func XN) [mk v0] [],.fn (.func XM) [mk v0] [],.fn (.func XL) [mk v0] [],.fn (.func Xb) [] [.ptr (5+ex.length) t 0],.fn (.func Xa) [] [.ptr (5+ex.length) t 0]])])⟩)) ⟨h,yb,yb,yb,yb,by simp -implicitDefEqProofs (disch:=omega) only [go_sem,↓reduceIte,reduceCtorEq,rq]; rfl,by simp -implicitDefEqProofs (disch:=omega) only [go_sem,↓reduceIte,reduceCtorEq,rq]; rfl,_,v2,v3,v4,by omega,rfl⟩ (fun i o hx fr σ hJ=>?_) (fun i hi fr σ hJ=>?_) (fun e fr σ hE=>?_)
 ·obtain ⟨hch,f1,f2,f3,f24,f25,f26,t3,y2,y3,y4,ht3,rfl⟩:=hJ
  rcases i with _ | _ | _ | _ | _ | i
  ·have hch:chain L (some (QaJ L op x c)::[Qgh bin L op x c,QeS bin L op x c,Qei bin L op x c,Qca bin L op x c])=some r:=hch
   obtain ⟨q,hq,hcase⟩:=Qem (fun r hr=>by cases hr; exact Qpa hx') hch
   have hq2:q.2.length≤1000000:=by rcases hcase with ⟨_,rfl⟩ | ⟨rfl,_⟩; exact hr; exact hL
   refine Qt [(1,.int .u8 op),(2,.int .i64 x),(3,.int .i64 c),(24,.sl (5+(ex.length+1)) (t+1) 0 1 5 none),(25,.int .i64 5),(26,.int .i64 0)] ⟨f1,f2,f3,f24,f25,f26,trivial⟩ 1000 ?_
   simp -implicitDefEqProofs (disch:=omega) only [go_sem,↓reduceIte,rA,rq,rL,rT,Int.reduceToNat,Int.reduceLE,Int.reduceLT,Qam,lC,lN,true_implies,and_true]
   refine Qtk hT Qdj (QSl hT F ho hL) 1000 fun v σ hv=>?_
   obtain ⟨rfl,t4,w2,w3,w4,ht4,rfl⟩:=hv
   cases hq
   rcases hcase with ⟨hne,he⟩ | ⟨he,hch'⟩
   ·rw [he] at hne ⊢
    refine yc ?_
    exact ⟨t4,w2,w3,w4,by omega,rfl,rfl⟩
   ·rw [he]
    refine ya ?_
    exact ⟨_,_,Shift.refl _ _ _ _,hch',yb,yb,yb,yb,yb,by simp -implicitDefEqProofs (disch:=omega) only [go_sem,↓reduceIte,rq]; rfl,t4,w2,w3,w4,by omega,rfl⟩
  ·have hch:chain L (Qgh bin L op x c::[QeS bin L op x c,Qei bin L op x c,Qca bin L op x c])=some r:=hch
   obtain ⟨q,hq,hcase⟩:=Qem (fun r hr=>Qo3 hK hok hx' hc hr) hch
   have hq2:q.2.length≤1000000:=by rcases hcase with ⟨_,rfl⟩ | ⟨rfl,_⟩; exact hr; exact hL
   refine Qt [(1,.int .u8 op),(2,.int .i64 x),(3,.int .i64 c),(24,.sl (5+(ex.length+1)) (t+1) 0 1 5 none),(25,.int .i64 5),(26,.int .i64 1)] ⟨f1,f2,f3,f24,f25,f26,trivial⟩ 1000 ?_
   simp -implicitDefEqProofs (disch:=omega) only [go_sem,↓reduceIte,rA,rq,rL,rT,Int.reduceToNat,Int.reduceLE,Int.reduceLT,Qam,lC,lN,true_implies,and_true]
   refine Qtk hT Qdi (QSj hT F hP hK hB hok hx' ho hc hq2 hq) 1000 fun v σ hv=>?_
   obtain ⟨rfl,t4,w2,w3,w4,ht4,rfl⟩:=hv
   rcases hcase with ⟨hne,rfl⟩ | ⟨rfl,hch'⟩
   ·refine yc ?_
    exact ⟨t4,w2,w3,w4,by omega,rfl,rfl⟩
   ·refine ya ?_
    exact ⟨_,_,Shift.refl _ _ _ _,hch',yb,yb,yb,yb,yb,by simp -implicitDefEqProofs (disch:=omega) only [go_sem,↓reduceIte,rq]; rfl,t4,w2,w3,w4,by omega,rfl⟩
  ·have hch:chain L (QeS bin L op x c::[Qei bin L op x c,Qca bin L op x c])=some r:=hch
   obtain ⟨q,hq,hcase⟩:=Qem (fun r hr=>QoF hK hok hc hr) hch
   have hq2:q.2.length≤1000000:=by rcases hcase with ⟨_,rfl⟩ | ⟨rfl,_⟩; exact hr; exact hL
   refine Qt [(1,.int .u8 op),(2,.int .i64 x),(3,.int .i64 c),(24,.sl (5+(ex.length+1)) (t+1) 0 1 5 none),(25,.int .i64 5),(26,.int .i64 2)] ⟨f1,f2,f3,f24,f25,f26,trivial⟩ 1000 ?_
   simp -implicitDefEqProofs (disch:=omega) only [go_sem,↓reduceIte,rA,rq,rL,rT,Int.reduceToNat,Int.reduceLE,Int.reduceLT,Qam,lC,lN,true_implies,and_true]
   refine Qtk hT Qdh (QSh hT F hK hB hok hL ho hc hq2 hq) 1000 fun v σ hv=>?_
   obtain ⟨rfl,t4,w2,w3,w4,ht4,rfl⟩:=hv
   rcases hcase with ⟨hne,rfl⟩ | ⟨rfl,hch'⟩
   ·refine yc ?_
    exact ⟨t4,w2,w3,w4,by omega,rfl,rfl⟩
   ·refine ya ?_
    exact ⟨_,_,Shift.refl _ _ _ _,hch',yb,yb,yb,yb,yb,by simp -implicitDefEqProofs (disch:=omega) only [go_sem,↓reduceIte,rq]; rfl,t4,w2,w3,w4,by omega,rfl⟩
  ·have hch:chain L (Qei bin L op x c::[Qca bin L op x c])=some r:=hch
   obtain ⟨q,hq,hcase⟩:=Qem (fun r hr=>Qo9 hK hok ho hc hr) hch
   have hq2:q.2.length≤1000000:=by rcases hcase with ⟨_,rfl⟩ | ⟨rfl,_⟩; exact hr; exact hL
   refine Qt [(1,.int .u8 op),(2,.int .i64 x),(3,.int .i64 c),(24,.sl (5+(ex.length+1)) (t+1) 0 1 5 none),(25,.int .i64 5),(26,.int .i64 3)] ⟨f1,f2,f3,f24,f25,f26,trivial⟩ 1000 ?_
   simp -implicitDefEqProofs (disch:=omega) only [go_sem,↓reduceIte,rA,rq,rL,rT,Int.reduceToNat,Int.reduceLE,Int.reduceLT,Qam,lC,lN,true_implies,and_true]
   refine Qtk hT QaX (QSk hT F hK hB hbox hok ho hc hq2 hq) 1000 fun v σ hv=>?_
   obtain ⟨rfl,t4,w2,w3,w4,ht4,rfl⟩:=hv
   rcases hcase with ⟨hne,rfl⟩ | ⟨rfl,hch'⟩
   ·refine yc ?_
    exact ⟨t4,w2,w3,w4,by omega,rfl,rfl⟩
   ·refine ya ?_
    exact ⟨_,_,Shift.refl _ _ _ _,hch',yb,yb,yb,yb,yb,by simp -implicitDefEqProofs (disch:=omega) only [go_sem,↓reduceIte,rq]; rfl,t4,w2,w3,w4,by omega,rfl⟩
  ·have hch:chain L (Qca bin L op x c::[])=some r:=hch
   obtain ⟨q,hq,hcase⟩:=Qem (fun r hr=>Qpe hK hok hc hr) hch
   have hq2:q.2.length≤1000000:=by rcases hcase with ⟨_,rfl⟩ | ⟨rfl,_⟩; exact hr; exact hL
   refine Qt [(1,.int .u8 op),(2,.int .i64 x),(3,.int .i64 c),(24,.sl (5+(ex.length+1)) (t+1) 0 1 5 none),(25,.int .i64 5),(26,.int .i64 4)] ⟨f1,f2,f3,f24,f25,f26,trivial⟩ 1000 ?_
   simp -implicitDefEqProofs (disch:=omega) only [go_sem,↓reduceIte,rA,rq,rT,Int.reduceToNat,Int.reduceLE,Int.reduceLT,Qam,lC,lN,true_implies,and_true]
   refine Qtk hT QaW (k_S2 hT F hK hB hbox hok hc hq2 hq) 1000 fun v σ hv=>?_
   obtain ⟨rfl,t4,w2,w3,w4,ht4,rfl⟩:=hv
   rcases hcase with ⟨hne,rfl⟩ | ⟨rfl,hch'⟩
   ·refine yc ?_
    exact ⟨t4,w2,w3,w4,by omega,rfl,rfl⟩
   ·refine ya ?_
    exact ⟨_,_,Shift.refl _ _ _ _,hch',yb,yb,yb,yb,yb,by simp -implicitDefEqProofs (disch:=omega) only [go_sem,↓reduceIte,rq]; rfl,t4,w2,w3,w4,by omega,rfl⟩
  ·simp at hx
 ·obtain ⟨hch,f1,f2,f3,f24,f25,f26,t3,y2,y3,y4,ht3,rfl⟩:=hJ
  subst hi
  have hch:some (-1,L)=some r:=hch
  cases hch
  refine Qt [(1,.int .u8 op),(2,.int .i64 x),(3,.int .i64 c),(24,.sl (5+(ex.length+1)) (t+1) 0 1 5 none),(25,.int .i64 5),(26,.int .i64 5)] ⟨f1,f2,f3,f24,f25,f26,trivial⟩ 1000 ?_
  refine yk ?_
  exact ⟨t3,y2,y3,y4,by omega,rfl,rfl⟩
 ·rcases hE with ⟨rfl,f8,t3,w2,w3,w4,ht3,rfl⟩ | ⟨rfl,rfl,t3,w2,w3,w4,ht3,rfl⟩
  ·refine Qa 1000 ?_
   simp -implicitDefEqProofs (disch:=omega) only [go_sem,rA,f8,Qh,Qx,lA,lC,lN]
   exact ⟨by omega,rfl,t3,w2,w3,w4,by omega,rfl⟩
  ·refine Qa 1000 ?_
   simp -implicitDefEqProofs (disch:=omega) only [go_sem,↓reduceIte,rA,Qh,Qx,lA,lC,lN]
   exact ⟨by omega,rfl,t3,w2,w3,w4,by omega,rfl⟩
end
section
attribute [local go_sem] nF nT aA cA lA lC lN nA tN tSq tZ aZ lR zA and_true beq_self_eq_true bne_self_eq_false decide_false decide_true false_implies Qh XI Qx ZT QOp QOo QAK QAJ QAI QAH QAG QAF QAE QOn QOm QOl QOk QOj QOi QOh QOg not_false_eq_true true_and true_implies
theorem QnL (f:Nat):Qck [] [] (QTT f):=QDG (fun L hok x=>QRj (by simp) (by simp) (QRR hok) x) f
variable {bin:Qhd}
theorem Qa1 {L:List Nd} {op x y:Int} {p q:Option Int} {r:GR} (h:Qxd bin L op x y p q=some r):∃ s,Qjt bin L op x y p q=some s∧((s.1≠-1∧r=s)∨(s.1=-1∧r=addN s.2 ⟨4,0,0,op,x,y⟩))∧s.2.length≤r.2.length:=by
 unfold Qxd Qmu at h
 cases hr:Qjt bin L op x y p q with
 | none=>rw [hr] at h; cases h
 | some s =>
   rw [hr] at h
   simp only [Option.bind_some] at h
   split at h
   ·rename_i h1; cases h; exact ⟨_,rfl,.inl ⟨h1,rfl⟩,lR _⟩
   ·rename_i h1
    cases h
    exact ⟨_,rfl,.inr ⟨Decidable.byContradiction h1,rfl⟩,QfU (Qml _ _)⟩
theorem k_binS (hT:Qf P tab) (F:Fmt P G) (hP:Bits P G) (hK:Qck [] [] bin) (hB:QGm P G F.fmt bin) (hK':Qck [] [] (binR bin)):QGm P G F.fmt (binR bin):=by
 intro L op x y r v0 v1 v2 v3 v4 t ex hok hx hy ho hr h
 have hL:L.length≤1000000:=by have:=QfU (hK' _ _ _ _ _ hok hx hy ho h).1.pre; omega
 refine Qi (5+ex.length) (zL _) (Qk hT Qs (by simp [ZT]) (Qg 1000 ?_))
 have i0:i64 0:=by unfold i64; omega
 have hsw:=QS9 (P:=P) (G:=G) hT ho
 refine ya ?_
 refine call hT YD (QgQ hT (by simp)) 1000 fun v σ hv=>?_
 obtain ⟨rfl,t1,ht1,rfl⟩:=hv
 unfold binR at h
 cases hp:Qjg L x with
 | some a =>
   have ha:i64 a:=(QfV (S:=[]) (C:=[]) hok hp).2
   have ea:Qjw L x=.tup [.int .i64 a,.bool true]:=by rw [Qjw,hp]
   rw [ea]
   refine ya ?_
   refine call hT YD (QgQ hT (by simp)) 1000 fun v σ hv=>?_
   obtain ⟨rfl,t2,ht2,rfl⟩:=hv
   cases hq:Qjg L y with
   | some b =>
     have hb:i64 b:=(QfV (S:=[]) (C:=[]) hok hq).2
     have eb:Qjw L y=.tup [.int .i64 b,.bool true]:=by rw [Qjw,hq]
     rw [hp,hq] at h
     simp only at h
     cases h
     have hdo:=c_Do (P:=P) (G:=G) hT (op:=op) (by omega) (by omega) ha hb
     rw [eb]
     refine ya ?_
     refine Qj hT Qih hdo rfl 1000 ?_
     refine ya ?_
     refine call hT Qp (QeB hT F (Qgv ha hb) hL) 1000 fun v σ hv=>?_
     obtain ⟨rfl,t4,w2,w3,w4,ht4,rfl⟩:=hv
     refine ya ?_
     exact ⟨by omega,rfl,t4,w2,w3,w4,by omega,rfl⟩
   | none =>
     have eb:Qjw L y=.tup [.int .i64 0,.bool false]:=by rw [Qjw,hq]
     have hxy:¬ x=y:=fun e=>by rw [e,hq] at hp; cases hp
     have hyx:¬ y=x:=fun e=>hxy e.symm
     rw [hp,hq] at h
     simp only [Option.isSome_some,true_or,and_true] at h
     rw [eb]
     refine ya ?_
     refine Qj hT Qdg hsw rfl 1000 ?_
     by_cases hS:Qhg op=true
     ·rw [if_pos hS] at h
      rw [hS]
      replace hxy:=hyx
      obtain ⟨s,hs,hcase,hsl⟩:=Qa1 h
      unfold Qjt at hs
      rw [if_neg hxy] at hs
      simp only at hs
      refine yo ?_
      refine call hT YC (Qp5 hT F hP hK hB hok hL hy ho ha (by omega) hs) 1000 fun v σ hv=>?_
      obtain ⟨rfl,t4,w2,w3,w4,ht4,rfl⟩:=hv
      rcases hcase with ⟨hne,rfl⟩ | ⟨he,rfl⟩
      ·refine yd ?_
       exact ⟨by omega,rfl,t4,w2,w3,w4,by omega,rfl⟩
      ·refine ye ?_
       refine call hT Qz (QjO hT F ⟨4,0,0,op,y,x⟩ (by omega) i0 i0) 1000 fun v σ hv=>?_
       obtain ⟨rfl,t5,z2,z3,z4,ht5,rfl⟩:=hv
       refine ya ?_
       exact ⟨by omega,rfl,t5,z2,z3,z4,by omega,rfl⟩
     ·rw [if_neg hS] at h
      have hS':Qhg op=false:=by simpa using hS
      rw [hS']
      obtain ⟨s,hs,hcase,hsl⟩:=Qa1 h
      unfold Qjt at hs
      rw [if_neg hxy] at hs
      simp only at hs
      by_cases h0:a=0∧op=15
      ·obtain ⟨rfl,rfl⟩:=h0
       rw [if_pos ⟨rfl,rfl⟩] at hs
       cases hq:bin L 16 y x with
       | none=>rw [hq] at hs; cases hs
       | some q =>
         rw [hq] at hs
         simp only [Option.bind_some] at hs
         obtain ⟨g1,g2⟩:=hK _ _ _ _ _ hok hy hx (by omega) hq
         have gq:=(g1.val g2).1
         have gx:=(QiB g1.pre hx).1
         have gl:=QfU (hK _ _ _ _ _ g1.ok gq gx (by omega) hs).1.pre
         refine yo ?_
         (repeat' (first | with_reducible refine And.intro ?_ ?_ | with_reducible intro _)) <;> (
          refine call hT Qs (hB _ _ _ _ _ _ _ _ _ _ _ _ hok hy hx (by omega) (by omega) hq) 1000 fun v σ hv=>?_
          obtain ⟨rfl,t3,u2,u3,u4,ht3,rfl⟩:=hv
          refine ya ?_
          (repeat' (first | with_reducible refine And.intro ?_ ?_ | with_reducible intro _)) <;> (
           refine call hT Qs (hB _ _ _ _ _ _ _ _ _ _ _ _ g1.ok gq gx (by omega) (by omega) hs) 1000 fun v σ hv=>?_
           obtain ⟨rfl,t4,w2,w3,w4,ht4,rfl⟩:=hv
           rcases hcase with ⟨hne,rfl⟩ | ⟨he,rfl⟩
           ·refine yd ?_
            exact ⟨by omega,rfl,t4,w2,w3,w4,by omega,rfl⟩
           ·refine ye ?_
            refine call hT Qz (QjO hT F ⟨4,0,0,15,x,y⟩ (by omega) i0 i0) 1000 fun v σ hv=>?_
            obtain ⟨rfl,t5,z2,z3,z4,ht5,rfl⟩:=hv
            refine ya ?_
            exact ⟨by omega,rfl,t5,z2,z3,z4,by omega,rfl⟩))
      ·rw [if_neg fun e=>h0 ⟨by simpa using e.1,e.2⟩] at hs
       cases hs
       rcases hcase with ⟨hne,_⟩ | ⟨_,rfl⟩
       ·exact absurd rfl hne
       by_cases ha0:a=0
       ·have ho15:¬ op=15:=fun e=>h0 ⟨ha0,e⟩
        simp -implicitDefEqProofs (disch:=omega) only [go_sem,↓reduceIte,reduceCtorEq,rA,rq,rL,hxy,ha0,ho15]
        refine call hT Qz (QjO hT F ⟨4,0,0,op,x,y⟩ (by omega) i0 i0) 1000 fun v σ hv=>?_
        obtain ⟨rfl,t5,z2,z3,z4,ht5,rfl⟩:=hv
        refine ya ?_
        exact ⟨by omega,rfl,t5,z2,z3,z4,by omega,rfl⟩
       ·simp -implicitDefEqProofs (disch:=omega) only [go_sem,↓reduceIte,reduceCtorEq,rA,rq,rL,hxy,ha0]
        refine call hT Qz (QjO hT F ⟨4,0,0,op,x,y⟩ (by omega) i0 i0) 1000 fun v σ hv=>?_
        obtain ⟨rfl,t5,z2,z3,z4,ht5,rfl⟩:=hv
        refine ya ?_
        exact ⟨by omega,rfl,t5,z2,z3,z4,by omega,rfl⟩
 | none =>
   have ea:Qjw L x=.tup [.int .i64 0,.bool false]:=by rw [Qjw,hp]
   rw [ea]
   refine ya ?_
   refine call hT YD (QgQ hT (by simp)) 1000 fun v σ hv=>?_
   obtain ⟨rfl,t2,ht2,rfl⟩:=hv
   cases hq:Qjg L y with
   | some b =>
     have hb:i64 b:=(QfV (S:=[]) (C:=[]) hok hq).2
     have eb:Qjw L y=.tup [.int .i64 b,.bool true]:=by rw [Qjw,hq]
     have hxy:¬ x=y:=fun e=>by rw [← e,hp] at hq; cases hq
     rw [hp,hq] at h
     simp only [Option.isSome_none,reduceCtorEq,Bool.false_eq_true,false_or,false_and,and_false,if_false] at h
     rw [eb]
     refine ya ?_
     refine Qj hT Qdg hsw rfl 1000 ?_
     cases Qhg op
     ·skip
      obtain ⟨s,hs,hcase,hsl⟩:=Qa1 h
      unfold Qjt at hs
      rw [if_neg hxy] at hs
      simp only at hs
      refine yo ?_
      refine call hT YC (Qp5 hT F hP hK hB hok hL hx ho hb (by omega) hs) 1000 fun v σ hv=>?_
      obtain ⟨rfl,t4,w2,w3,w4,ht4,rfl⟩:=hv
      rcases hcase with ⟨hne,rfl⟩ | ⟨he,rfl⟩
      ·refine yd ?_
       exact ⟨by omega,rfl,t4,w2,w3,w4,by omega,rfl⟩
      ·refine ye ?_
       refine call hT Qz (QjO hT F ⟨4,0,0,op,x,y⟩ (by omega) i0 i0) 1000 fun v σ hv=>?_
       obtain ⟨rfl,t5,z2,z3,z4,ht5,rfl⟩:=hv
       refine ya ?_
       exact ⟨by omega,rfl,t5,z2,z3,z4,by omega,rfl⟩
     ·skip
      obtain ⟨s,hs,hcase,hsl⟩:=Qa1 h
      unfold Qjt at hs
      rw [if_neg hxy] at hs
      simp only at hs
      refine yo ?_
      refine call hT YC (Qp5 hT F hP hK hB hok hL hx ho hb (by omega) hs) 1000 fun v σ hv=>?_
      obtain ⟨rfl,t4,w2,w3,w4,ht4,rfl⟩:=hv
      rcases hcase with ⟨hne,rfl⟩ | ⟨he,rfl⟩
      ·refine yd ?_
       exact ⟨by omega,rfl,t4,w2,w3,w4,by omega,rfl⟩
      ·refine ye ?_
       refine call hT Qz (QjO hT F ⟨4,0,0,op,x,y⟩ (by omega) i0 i0) 1000 fun v σ hv=>?_
       obtain ⟨rfl,t5,z2,z3,z4,ht5,rfl⟩:=hv
       refine ya ?_
       exact ⟨by omega,rfl,t5,z2,z3,z4,by omega,rfl⟩
   | none =>
     have eb:Qjw L y=.tup [.int .i64 0,.bool false]:=by rw [Qjw,hq]
     rw [hp,hq] at h
     simp only [Option.isSome_none,Bool.false_eq_true,false_or,true_and] at h
     rw [eb]
     refine ya ?_
     refine Qj hT Qdg hsw rfl 1000 ?_
     by_cases hS:Qhg op=true
     ·rw [hS]
      by_cases hlt:y<x
      ·rw [if_pos ⟨hS,hlt⟩] at h
       obtain ⟨s,hs,hcase,hsl⟩:=Qa1 h
       unfold Qjt at hs
       by_cases exy:y=x
       ·exact absurd exy (by omega)
       ·rw [if_neg exy] at hs
        simp only [reduceCtorEq,false_and,if_false] at hs
        cases hs
        rcases hcase with ⟨hne,_⟩ | ⟨_,rfl⟩
        ·exact absurd rfl hne
        simp -implicitDefEqProofs (disch:=omega) only [go_sem,↓reduceIte,reduceCtorEq,rA,rq,rL,exy,hlt]
        refine call hT Qz (QjO hT F ⟨4,0,0,op,y,x⟩ (by omega) i0 i0) 1000 fun v σ hv=>?_
        obtain ⟨rfl,t5,z2,z3,z4,ht5,rfl⟩:=hv
        refine ya ?_
        exact ⟨by omega,rfl,t5,z2,z3,z4,by omega,rfl⟩
      ·rw [if_neg fun e=>hlt e.2] at h
       obtain ⟨s,hs,hcase,hsl⟩:=Qa1 h
       unfold Qjt at hs
       by_cases exy:x=y
       ·rw [if_pos exy] at hs
        subst exy
        cases hs
        simp -implicitDefEqProofs (disch:=omega) only [go_sem,↓reduceIte,reduceCtorEq,rA,rq,hlt]
        refine call hT Qa3 (QPS hT F hL) 1000 fun v σ hv=>?_
        obtain ⟨rfl,t4,w2,w3,w4,ht4,rfl⟩:=hv
        rcases hcase with ⟨hne,rfl⟩ | ⟨he,rfl⟩
        ·refine yd ?_
         exact ⟨by omega,rfl,t4,w2,w3,w4,by omega,rfl⟩
        ·refine ye ?_
         refine call hT Qz (QjO hT F ⟨4,0,0,op,x,x⟩ (by omega) i0 i0) 1000 fun v σ hv=>?_
         obtain ⟨rfl,t5,z2,z3,z4,ht5,rfl⟩:=hv
         refine ya ?_
         exact ⟨by omega,rfl,t5,z2,z3,z4,by omega,rfl⟩
       ·rw [if_neg exy] at hs
        simp only [reduceCtorEq,false_and,if_false] at hs
        cases hs
        rcases hcase with ⟨hne,_⟩ | ⟨_,rfl⟩
        ·exact absurd rfl hne
        simp -implicitDefEqProofs (disch:=omega) only [go_sem,↓reduceIte,reduceCtorEq,rA,rq,rL,exy,hlt]
        refine call hT Qz (QjO hT F ⟨4,0,0,op,x,y⟩ (by omega) i0 i0) 1000 fun v σ hv=>?_
        obtain ⟨rfl,t5,z2,z3,z4,ht5,rfl⟩:=hv
        refine ya ?_
        exact ⟨by omega,rfl,t5,z2,z3,z4,by omega,rfl⟩
     ·rw [if_neg fun e=>hS e.1] at h
      have hS':Qhg op=false:=by simpa using hS
      rw [hS']
      obtain ⟨s,hs,hcase,hsl⟩:=Qa1 h
      unfold Qjt at hs
      by_cases exy:x=y
      ·rw [if_pos exy] at hs
       subst exy
       cases hs
       refine ya ?_
       refine call hT Qa3 (QPS hT F hL) 1000 fun v σ hv=>?_
       obtain ⟨rfl,t4,w2,w3,w4,ht4,rfl⟩:=hv
       rcases hcase with ⟨hne,rfl⟩ | ⟨he,rfl⟩
       ·refine yd ?_
        exact ⟨by omega,rfl,t4,w2,w3,w4,by omega,rfl⟩
       ·refine ye ?_
        refine call hT Qz (QjO hT F ⟨4,0,0,op,x,x⟩ (by omega) i0 i0) 1000 fun v σ hv=>?_
        obtain ⟨rfl,t5,z2,z3,z4,ht5,rfl⟩:=hv
        refine ya ?_
        exact ⟨by omega,rfl,t5,z2,z3,z4,by omega,rfl⟩
      ·rw [if_neg exy] at hs
       simp only [reduceCtorEq,false_and,if_false] at hs
       cases hs
       rcases hcase with ⟨hne,_⟩ | ⟨_,rfl⟩
       ·exact absurd rfl hne
       simp -implicitDefEqProofs (disch:=omega) only [go_sem,↓reduceIte,reduceCtorEq,rA,rq,rL,exy]
       refine call hT Qz (QjO hT F ⟨4,0,0,op,x,y⟩ (by omega) i0 i0) 1000 fun v σ hv=>?_
       obtain ⟨rfl,t5,z2,z3,z4,ht5,rfl⟩:=hv
       refine ya ?_
       exact ⟨by omega,rfl,t5,z2,z3,z4,by omega,rfl⟩
theorem k_bin (hT:Qf P tab) (F:Fmt P G) (hP:Bits P G):∀ f,QGm P G F.fmt (QTT f)
 | 0=>fun L op x y r _ _ _ _ _ _ _ _ _ _ _ _ h=>by cases h
 | f+1=>k_binS hT F hP (QnL f) (k_bin hT F hP f) (QnL (f+1))
end
end Go.Proofs.YtbdhjeojcpgblaaGreatDoor
