/- Ours. -/
import Derived.Test.YtbdhjeojcpgblaaGreatDoorJ6
import Derived.Test.YtbdhjeojcpgblaaGreatDoorAmD
import Derived.Test.YtbdhjeojcpgblaaGreatDoorY
open Nat renaming reduceEqDiff → rq, reduceAdd → rA, reduceLeDiff → rL, reduceLT → rT, zero_add → zA, le_refl → lR, zero_le → zL, add_zero → aZ
open List renaming length_cons → lC, length_nil → lN, take_succ_cons → tSq, length_append → lA, nil_append → nA, cons_append → cA, append_assoc → aA, take_nil → tN, take_zero → tZ, length_map → lM
open Bool renaming not_false → nF, not_true → nT
namespace Go.Proofs.YtbdhjeojcpgblaaGreatDoor
open Go Go.Am
set_option maxRecDepth 100000
variable {P:Program} {G:Nat→Option V}
set_option maxHeartbeats 1000000
section
attribute [local go_sem] nF nT aZ lR zA beq_self_eq_true bne_self_eq_false decide_false decide_true Qu QfW QPf QPe QPd QPc QPb Qd5 zqj_0 zqj_1 QcH zq9_0 zq9_1 zq9_2 zq9_3 zq9_4 QmS QNA QNz QNy QNx QNw QNv QNu QNt ZS QMd QMc QaE QHW QHV QHU QHT QHS Zj QL4 QL3 Qz6 Qz5 Qz4 QL2 QL1 QL0 QLZ QLY QLX QLW QLV Zi QJC QJB QJA QJz QJy QJx
section
variable {fmt:Int→List UInt8} {v0 v1 v2 v3 v4:Nat} {L:List Nd} {ex zs ys:List (Option Ob)} {y z:Option Ob}
theorem XI:(kG fmt v0 v1 v2 v3 v4 L++(ex++y::zs))[5+ex.length]?=some y:=by
 rw [List.getElem?_append_right (by rw [Qh]; omega),Qh,List.getElem?_append_right (by omega)]
 simp
theorem Qam:(kG fmt v0 v1 v2 v3 v4 L++(ex++y::z::zs))[5+(ex.length+1)]?=some z:=by
 rw [List.getElem?_append_right (by rw [Qh]; omega),Qh,List.getElem?_append_right (by omega)]
 simp
theorem QcS:(kG fmt v0 v1 v2 v3 v4 L++(ex++y::zs)).set (5+ex.length) z=kG fmt v0 v1 v2 v3 v4 L++(ex++z::zs):=by
 rw [List.set_append_right _ _ (by rw [Qh]; omega),Qh,List.set_append_right _ _ (by omega)]
 simp
theorem Qba {u:Option Ob}:(kG fmt v0 v1 v2 v3 v4 L++(ex++y::z::zs)).set (5+(ex.length+1)) u=kG fmt v0 v1 v2 v3 v4 L++(ex++y::u::zs):=by
 rw [List.set_append_right _ _ (by rw [Qh]; omega),Qh,List.set_append_right _ _ (by omega)]
 simp
theorem Qx:(kG fmt v0 v1 v2 v3 v4 L++(ex++zs)).take (5+ex.length)=kG fmt v0 v1 v2 v3 v4 L++ex:=by
 rw [← aA,List.take_left' (by simp [kG]; omega)]
theorem kx_len:(kG fmt v0 v1 v2 v3 v4 L++ex).length=5+ex.length:=by simp [kG]; omega
end
abbrev Qc1 (fmt:Int→List UInt8) (r:GR) (v0 v1:Nat) (ex:List (Option Ob)) (t:Nat):V→H→Prop:=fun v σ=>v=.int .i64 r.1∧∃ t' v2' v3' v4',t≤t'∧σ=⟨t',kG fmt v0 v1 v2' v3' v4' r.2++ex⟩
abbrev mk (v0:Nat):V:=.agg [.ptr 1 v0 0]
variable {n x op:Int} {t base:Nat}
theorem Qnk (hT:Qf P tab) (F:Fmt P G) {v0 v1 v2 v3 v4:Nat} {L:List Nd} {ex:List (Option Ob)} (hn:i64 n) (hL:L.length≤1000000) :
 C P G 0 Qge [.ptr 1 v0 0,.int .i64 n] ⟨t,kG F.fmt v0 v1 v2 v3 v4 L++ex⟩ (Qc1 F.fmt (Qdo L n) v0 v1 ex t):=by
 refine Qk hT Qah (by simp [Qd5]) (Qg 1000 ?_)
 refine yl ?_
 refine call hT Qz (QjO hT F ⟨1,n,0,0,0,0⟩ hL hn (show i64 0 by unfold i64; omega)) 1000 fun v σ hv=>?_
 obtain ⟨rfl,t',v2',v3',v4',ht,rfl⟩:=hv
 refine ya ?_
 exact ⟨rfl,t',v2',v3',v4',ht,rfl⟩
theorem QeB (hT:Qf P tab) (F:Fmt P G) {v0 v1 v2 v3 v4:Nat} {L:List Nd} {ex:List (Option Ob)} (hn:i64 n) (hL:L.length≤1000000) :
 C P G 0 Qe1 [mk v0,.int .i64 n] ⟨t,kG F.fmt v0 v1 v2 v3 v4 L++ex⟩ (Qc1 F.fmt (Qdo L n) v0 v1 ex t):=by
 refine Qi (5+ex.length) (zL _) (Qk hT Qp (by simp [ZS]) (Qg 1000 ?_))
 simp -implicitDefEqProofs (disch:=omega) only [go_sem,↓reduceIte,reduceCtorEq,rq,Qh,XI,lA,lC,lN,aA,true_implies,and_true]
 refine call hT Qah (Qnk hT F hn hL) 1000 fun v σ hv=>?_
 obtain ⟨rfl,t',v2',v3',v4',ht,rfl⟩:=hv
 simp -implicitDefEqProofs (disch:=omega) only [go_sem,↓reduceIte,reduceCtorEq,rq,Qh,Qx,lA,lC,lN]
 first | exact ⟨by omega,rfl,t',v2',v3',v4',by omega,rfl⟩ | exact ⟨by omega,rfl,t',v2',v3',v4',by omega,rfl,rfl⟩ | exact ⟨by omega,t',v2',v3',v4',by omega,rfl⟩ | exact ⟨by omega,t',v2',v3',v4',by omega,rfl,rfl⟩
theorem QS4 (hT:Qf P tab) (l:List Int) (hl:l.length≤1000000) (tr:Bool) (n:Int):Pure P G QrW [.int .i64 n,.lst 1 (Xg l) tr] fun v=>v=.bool (decide (n∈l)):=by
 intro t
 refine Qi 0 (zL _) (Qk hT Qay (by simp [QmS]) (Qg 1000 ?_))
 simp -implicitDefEqProofs (disch:=omega) only [go_sem,↓reduceIte,reduceCtorEq,rq,Xl]
 refine ZJ l (fun i fr σ=>n ∉ l.take i∧Ql fr 0=.int .i64 n∧Ql fr 7=.lst 1 (Xg l) tr∧Ql fr 8=.int .i64 l.length∧Ql fr 9=.int .i64 ((i:Nat):Int)∧σ=⟨t,[]⟩)
  (fun e fr σ=>σ=⟨t,[]⟩∧((e=.ret∧Ql fr 4=.bool true∧n∈l)∨(e=.ex 0∧n ∉ l))) ⟨by simp,yb,yb,yb,by simp -implicitDefEqProofs (disch:=omega) only [go_sem,↓reduceIte,reduceCtorEq,rq]; rfl,rfl⟩ (fun i x hx fr σ hJ=>?_) (fun i hi fr σ hJ=>?_) (fun e fr σ hE=>?_)
 ·obtain ⟨hn,f0,f7,f8,f9,rfl⟩:=hJ
  have hlt:=(List.getElem?_eq_some_iff.1 hx).1
  have hg:=QmV hx
  have e2:=w_nx hlt (by omega)
  by_cases h:n=x
  ·subst h
   refine Qt [(0,.int .i64 n),(7,.lst 1 (Xg l) tr),(8,.int .i64 l.length),(9,.int .i64 ((i:Nat):Int))] ⟨f0,f7,f8,f9,trivial⟩ 1000 ?_
   simp -implicitDefEqProofs (disch:=omega) only [go_sem,↓reduceIte,reduceCtorEq,rq,Xl,hlt,hg]
   exact List.mem_of_getElem? hx
  ·refine Qt [(0,.int .i64 n),(7,.lst 1 (Xg l) tr),(8,.int .i64 l.length),(9,.int .i64 ((i:Nat):Int))] ⟨f0,f7,f8,f9,trivial⟩ 1000 ?_
   simp -implicitDefEqProofs (disch:=omega) only [go_sem,↓reduceIte,reduceCtorEq,rq,Xl,hlt,hg,h,e2]
   refine ⟨fun h=>h.elim,_,_,Shift.refl _ _ _ _,?_,?_⟩
   ·rw [QoG hx]; simp [hn,h]
   ·exact yb
 ·obtain ⟨hn,f0,f7,f8,f9,rfl⟩:=hJ
  rw [hi,List.take_length] at hn
  refine Qt [(0,.int .i64 n),(7,.lst 1 (Xg l) tr),(8,.int .i64 l.length),(9,.int .i64 ((i:Nat):Int))] ⟨f0,f7,f8,f9,trivial⟩ 1000 ?_
  refine yi ?_
  exact hn
 ·obtain ⟨rfl,⟨rfl,f4,hm⟩ | ⟨rfl,hm⟩⟩:=hE
  ·refine Qa 1000 ?_
   simp -implicitDefEqProofs (disch:=omega) only [go_sem,f4,hm]
  ·refine Qa 1000 ?_
   simp -implicitDefEqProofs (disch:=omega) only [go_sem,↓reduceIte,hm]
def Qjw (L:List Nd) (x:Int):V:=match Qjg L x with | some n=>.tup [.int .i64 n,.bool true] | none=>.tup [.int .i64 0,.bool false]
theorem QgQ (hT:Qf P tab) {fmt:Int→List UInt8} {v0 v1 v2 v3 v4:Nat} {L:List Nd} {ex:List (Option Ob)} (hb:base≤5+ex.length) :
 C P G base QiK [.ptr 1 v0 0,.int .i64 x] ⟨t,kG fmt v0 v1 v2 v3 v4 L++ex⟩ fun v σ=>v=Qjw L x∧∃ t',t≤t'∧σ=⟨t',kG fmt v0 v1 v2 v3 v4 L++ex⟩:=by
 refine Qi (5+ex.length) hb (Qk hT YD (by simp [QcH]) (Qg 1000 ?_))
 refine ya ?_
 refine call hT QF (Qgn hT) 1000 fun v σ hv=>?_
 obtain ⟨rfl,t',ht,rfl⟩:=hv
 by_cases hx:inG L x
 ·have hx':0≤x∧x<L.length:=hx
  have e:L.getD x.toNat zeroNd=nd L x:=rfl
  rw [if_pos hx',e]
  by_cases hk:(nd L x).kind=1
  ·have en:Qjw L x=.tup [.int .i64 (nd L x).n,.bool true]:=by rw [Qjw,Qjg,if_pos ⟨hx,hk⟩]
   rw [en]
   generalize nd L x=d at *
   simp -implicitDefEqProofs (disch:=omega) only [go_sem,↓reduceIte,reduceCtorEq,rA,rq,rL,rT,Qh,XI,QcS,Qx,lA,lC,lN,aA,cA,nA,tZ,true_implies,true_and,and_true,Nd.cells,hk]
   exact ⟨by omega,t'+1,by omega,rfl⟩
  ·have en:Qjw L x=.tup [.int .i64 0,.bool false]:=by rw [Qjw,Qjg,if_neg fun h=>hk h.2]
   rw [en]
   generalize nd L x=d at *
   simp -implicitDefEqProofs (disch:=omega) only [go_sem,↓reduceIte,reduceCtorEq,rA,rq,rL,rT,Qh,XI,QcS,Qx,lA,lC,lN,aA,cA,nA,tZ,false_implies,true_implies,true_and,and_true,not_false_eq_true,Nd.cells,hk]
   exact ⟨by omega,t'+1,by omega,rfl⟩
 ·have hx':¬ (0≤x∧x<L.length):=hx
  have en:Qjw L x=.tup [.int .i64 0,.bool false]:=by rw [Qjw,Qjg,if_neg fun h=>hx h.1]
  rw [en,if_neg hx']
  simp -implicitDefEqProofs (disch:=omega) only [go_sem,↓reduceIte,reduceCtorEq,rA,rq,rT,Qh,XI,QcS,Qx,lA,lC,lN,aA,cA,nA,tZ,true_and,and_true,Nd.cells,zeroNd]
  exact ⟨by omega,t'+1,by omega,rfl⟩
theorem QPU (hT:Qf P tab) {fmt:Int→List UInt8} {v0 v1 v2 v3 v4:Nat} {L:List Nd} {ex:List (Option Ob)} (hb:base≤5+ex.length) :
 C P G base Qm3 [.ptr 1 v0 0,.int .i64 x] ⟨t,kG fmt v0 v1 v2 v3 v4 L++ex⟩ fun v σ=>v=.bool (Qvz L x)∧∃ t',t≤t'∧σ=⟨t',kG fmt v0 v1 v2 v3 v4 L++ex⟩:=by
 refine Qi (5+ex.length) hb (Qk hT Qhz (by simp [QfW]) (Qg 1000 ?_))
 refine ya ?_
 refine call hT QF (Qgn hT) 1000 fun v σ hv=>?_
 obtain ⟨rfl,t',ht,rfl⟩:=hv
 by_cases hx:inG L x
 ·have hx':0≤x∧x<L.length:=hx
  have e:L.getD x.toNat zeroNd=nd L x:=rfl
  rw [if_pos hx',e]
  have en:Qvz L x=decide (((nd L x).kind=4∧((nd L x).op=14∨(nd L x).op=15∨(nd L x).op=16))∨((nd L x).kind=1∧((nd L x).n=0∨(nd L x).n=1))):=by simp [Qvz,hx]
  rw [en]
  generalize nd L x=d at *
  by_cases hk:d.kind=4
  ·have h1:¬ d.kind=1:=by omega
   by_cases o14:d.op=14
   ·simp -implicitDefEqProofs (disch:=omega) only [go_sem,↓reduceIte,reduceCtorEq,rA,rq,rL,rT,Int.reduceEq,Qh,XI,QcS,Qx,lA,lC,lN,aA,cA,nA,tZ,true_implies,true_and,and_true,Nd.cells,hk,o14]
    exact ⟨by omega,t'+1,by omega,rfl⟩
   by_cases o15:d.op=15
   ·simp -implicitDefEqProofs (disch:=omega) only [go_sem,↓reduceIte,reduceCtorEq,rA,rq,rL,rT,Int.reduceEq,Qh,XI,QcS,Qx,lA,lC,lN,aA,cA,nA,tZ,false_implies,true_implies,true_and,and_true,not_false_eq_true,Nd.cells,hk,o15]
    exact ⟨by omega,t'+1,by omega,rfl⟩
   by_cases o16:d.op=16
   ·simp -implicitDefEqProofs (disch:=omega) only [go_sem,↓reduceIte,reduceCtorEq,rA,rq,rL,rT,Int.reduceEq,Qh,XI,QcS,Qx,lA,lC,lN,aA,cA,nA,tZ,false_implies,true_implies,true_and,and_true,not_false_eq_true,Nd.cells,hk,o16]
    exact ⟨by omega,t'+1,by omega,rfl⟩
   ·simp -implicitDefEqProofs (disch:=omega) only [go_sem,↓reduceIte,reduceCtorEq,rA,rq,rL,rT,Int.reduceEq,Qh,XI,QcS,Qx,lA,lC,lN,aA,cA,nA,tSq,tZ,false_implies,true_implies,true_and,and_true,not_false_eq_true,Nd.cells,hk,o14,o15,o16]
    exact ⟨by omega,t'+1,by omega,rfl⟩
  ·by_cases h1:d.kind=1
   ·have hi:=QS4 (P:=P) (G:=G) hT [0,1] (by simp) true d.n
    simp -implicitDefEqProofs (disch:=omega) only [go_sem,↓reduceIte,reduceCtorEq,rA,rq,rL,rT,Int.reduceEq,Qh,XI,QcS,Qx,lA,lC,lN,aA,cA,nA,tSq,tZ,false_implies,true_implies,true_and,and_true,not_false_eq_true,Nd.cells,h1]
    refine Qj hT Qay hi rfl 1000 ?_
    simp -implicitDefEqProofs (disch:=omega) only [go_sem,↓reduceIte,reduceCtorEq,rA,rq,Qh,Qx,lA,lC,lN,and_true]
    exact ⟨by omega,by simp,t'+1,by omega,rfl⟩
   ·simp -implicitDefEqProofs (disch:=omega) only [go_sem,↓reduceIte,reduceCtorEq,rA,rq,rL,rT,Qh,XI,QcS,Qx,lA,lC,lN,aA,cA,nA,tSq,tZ,false_implies,true_implies,true_and,and_true,not_false_eq_true,Nd.cells,hk,h1]
    exact ⟨by omega,t'+1,by omega,rfl⟩
 ·have hx':¬ (0≤x∧x<L.length):=hx
  have en:Qvz L x=false:=by simp [Qvz,hx]
  rw [en,if_neg hx']
  simp -implicitDefEqProofs (disch:=omega) only [go_sem,↓reduceIte,reduceCtorEq,rA,rq,rT,Qh,XI,QcS,Qx,lA,lC,lN,aA,cA,nA,tZ,true_and,and_true,Nd.cells,zeroNd]
  exact ⟨by omega,t'+1,by omega,rfl⟩
def Qxr (o:Option (Int × Int)):V:=match o with | some (u,v)=>.tup [.int .i64 u,.int .i64 v,.bool true] | none=>.tup [.int .i64 0,.int .i64 0,.bool false]
theorem QSi (hT:Qf P tab) {fmt:Int→List UInt8} {v0 v1 v2 v3 v4:Nat} {L:List Nd} {ex:List (Option Ob)} (hb:base≤5+ex.length) :
 C P G base Qgd [mk v0,.int .i64 x,.int .u8 op] ⟨t,kG fmt v0 v1 v2 v3 v4 L++ex⟩ fun v σ=>v=Qxr (ofI L x op)∧∃ t',t≤t'∧σ=⟨t',kG fmt v0 v1 v2 v3 v4 L++ex⟩:=by
 refine Qi (5+ex.length) hb (Qk hT XD (by simp [QaE]) (Qg 1000 ?_))
 simp -implicitDefEqProofs (disch:=omega) only [go_sem,↓reduceIte,reduceCtorEq,rA,rq,Qh,XI,lA,lC,lN,aA,true_implies,and_true]
 refine call hT QF (Qgn hT) 1000 fun v σ hv=>?_
 obtain ⟨rfl,t',ht,rfl⟩:=hv
 by_cases hx:inG L x
 ·have hx':0≤x∧x<L.length:=hx
  have e:L.getD x.toNat zeroNd=nd L x:=rfl
  rw [if_pos hx',e]
  by_cases hk:(nd L x).kind=4
  ·by_cases ho:(nd L x).op=op
   ·have en:Qxr (ofI L x op)=.tup [.int .i64 (nd L x).x,.int .i64 (nd L x).y,.bool true]:=by rw [ofI,if_pos ⟨hx,hk,ho⟩]; rfl
    rw [en]
    generalize nd L x=d at *
    simp -implicitDefEqProofs (disch:=omega) only [go_sem,↓reduceIte,reduceCtorEq,rA,rq,rL,rT,Qh,Qam,Qba,Qx,lA,lC,lN,aA,cA,nA,tZ,true_implies,true_and,and_true,Nd.cells,hk,ho]
    exact ⟨by omega,t'+1,by omega,rfl⟩
   ·have en:Qxr (ofI L x op)=.tup [.int .i64 0,.int .i64 0,.bool false]:=by rw [ofI,if_neg fun h=>ho h.2.2]; rfl
    rw [en]
    generalize nd L x=d at *
    simp -implicitDefEqProofs (disch:=omega) only [go_sem,↓reduceIte,reduceCtorEq,rA,rq,rL,rT,Qh,Qam,Qba,Qx,lA,lC,lN,aA,cA,nA,tZ,false_implies,true_implies,true_and,and_true,not_false_eq_true,Nd.cells,hk,ho]
    exact ⟨by omega,t'+1,by omega,rfl⟩
  ·have en:Qxr (ofI L x op)=.tup [.int .i64 0,.int .i64 0,.bool false]:=by rw [ofI,if_neg fun h=>hk h.2.1]; rfl
   rw [en]
   generalize nd L x=d at *
   simp -implicitDefEqProofs (disch:=omega) only [go_sem,↓reduceIte,reduceCtorEq,rA,rq,rL,rT,Qh,Qam,Qba,Qx,lA,lC,lN,aA,cA,nA,tZ,false_implies,true_implies,true_and,and_true,not_false_eq_true,Nd.cells,hk]
   exact ⟨by omega,t'+1,by omega,rfl⟩
 ·have hx':¬ (0≤x∧x<L.length):=hx
  have en:Qxr (ofI L x op)=.tup [.int .i64 0,.int .i64 0,.bool false]:=by rw [ofI,if_neg fun h=>hx h.1]; rfl
  rw [en,if_neg hx']
  simp -implicitDefEqProofs (disch:=omega) only [go_sem,↓reduceIte,reduceCtorEq,rA,rq,rL,rT,Int.reduceEq,Qh,Qam,Qba,Qx,lA,lC,lN,aA,cA,nA,tZ,false_implies,true_implies,true_and,and_true,not_false_eq_true,Nd.cells,zeroNd]
  exact ⟨by omega,t'+1,by omega,rfl⟩
def tailV (L:List Nd) (x op:Int):V→Prop:=fun v=>(∃ y d,Qfa L x op=some (y,d)∧v=.tup [.int .i64 y,.int .i64 d,.bool true])∨(Qfa L x op=none∧∃ y d,v=.tup [.int .i64 y,.int .i64 d,.bool false])
theorem Qo8 (hT:Qf P tab) {fmt:Int→List UInt8} {v0 v1 v2 v3 v4:Nat} {L:List Nd} {ex:List (Option Ob)} (hb:base≤5+ex.length) :
 C P G base Qd8 [mk v0,.int .i64 x,.int .u8 op] ⟨t,kG fmt v0 v1 v2 v3 v4 L++ex⟩ fun v σ=>tailV L x op v∧∃ t',t≤t'∧σ=⟨t',kG fmt v0 v1 v2 v3 v4 L++ex⟩:=by
 refine Qi (5+ex.length) hb (Qk hT Xy (by simp [Zi]) (Qg 1000 ?_))
 simp -implicitDefEqProofs (disch:=omega) only [go_sem,↓reduceIte,reduceCtorEq,rA,rq,Qh,XI,lA,lC,lN,aA,tSq,tN,false_implies,and_true]
 refine call hT XD (QSi hT (by simp; omega)) 1000 fun v σ hv=>?_
 obtain ⟨rfl,t1,ht1,rfl⟩:=hv
 cases ho:ofI L x op with
 | none =>
   have et:Qfa L x op=none:=by simp [Qfa,ho]
   simp -implicitDefEqProofs (disch:=omega) only [go_sem,↓reduceIte,reduceCtorEq,rA,rq,rT,Qh,Qx,lA,lC,lN,and_true,Qxr]
   exact ⟨by omega,.inr ⟨et,0,0,rfl⟩,t1,by omega,rfl⟩
 | some p =>
   obtain ⟨u,w⟩:=p
   simp -implicitDefEqProofs (disch:=omega) only [go_sem,↓reduceIte,reduceCtorEq,rA,rq,rT,XI,lC,lN,true_implies,and_true,Qxr]
   refine call hT YD (QgQ hT (by simp; omega)) 1000 fun v σ hv=>?_
   obtain ⟨rfl,t2,ht2,rfl⟩:=hv
   cases hn:Qjg L w with
   | none =>
     have et:Qfa L x op=none:=by simp [Qfa,ho,hn]
     have ev:Qjw L w=.tup [.int .i64 0,.bool false]:=by rw [Qjw,hn]
     rw [ev]
     simp -implicitDefEqProofs (disch:=omega) only [go_sem,↓reduceIte,reduceCtorEq,rA,rq,rT,Qh,Qx,lA,lC,lN,and_true]
     exact ⟨by omega,.inr ⟨et,u,0,rfl⟩,t2,by omega,rfl⟩
   | some c =>
     have et:Qfa L x op=some (u,c):=by simp [Qfa,ho,hn]
     have ev:Qjw L w=.tup [.int .i64 c,.bool true]:=by rw [Qjw,hn]
     rw [ev]
     simp -implicitDefEqProofs (disch:=omega) only [go_sem,↓reduceIte,reduceCtorEq,rA,rq,rT,Qh,Qx,lA,lC,lN,and_true]
     exact ⟨by omega,.inl ⟨u,c,et,rfl⟩,t2,by omega,rfl⟩
theorem QPS (hT:Qf P tab) (F:Fmt P G) {v0 v1 v2 v3 v4:Nat} {L:List Nd} {ex:List (Option Ob)} (hL:L.length≤1000000) :
 C P G 0 Qd9 [mk v0,.int .u8 op,.int .i64 x] ⟨t,kG F.fmt v0 v1 v2 v3 v4 L++ex⟩ (Qc1 F.fmt (Qk5 L op x) v0 v1 ex t):=by
 refine Qi (5+ex.length) (zL _) (Qk hT Qa3 (by simp [Zj]) (Qg 1000 ?_))
 have i0:i64 0:=by unfold i64; omega
 have i1:i64 1:=by unfold i64; omega
 by_cases h1:op=2∨op=10∨op=14∨op=15
 ·have e:Qk5 L op x=Qdo L 0:=by rw [Qk5,if_pos h1]
  rw [e]
  rcases h1 with rfl | rfl | rfl | rfl <;> (
   simp -implicitDefEqProofs (disch:=omega) only [go_sem,↓reduceIte,reduceCtorEq,rA,rq,Int.reduceEq,Qh,XI,Qx,lA,lC,lN,aA,tSq,tN,false_implies,true_implies,true_and,and_true,not_false_eq_true]
   refine call hT Qp (QeB hT F i0 hL) 1000 fun v σ hv=>?_
   obtain ⟨rfl,t',v2',v3',v4',ht,rfl⟩:=hv
   simp -implicitDefEqProofs (disch:=omega) only [go_sem,↓reduceIte,reduceCtorEq,rq,Qh,Qx,lA,lC,lN]
   first | exact ⟨by omega,rfl,t',v2',v3',v4',by omega,rfl⟩ | exact ⟨by omega,rfl,t',v2',v3',v4',by omega,rfl,rfl⟩ | exact ⟨by omega,t',v2',v3',v4',by omega,rfl⟩ | exact ⟨by omega,t',v2',v3',v4',by omega,rfl,rfl⟩)
 ·have n1:¬ op=2:=by omega
  have n2:¬ op=10:=by omega
  have n3:¬ op=14:=by omega
  have n4:¬ op=15:=by omega
  by_cases h2:op=16
  ·have e:Qk5 L op x=Qdo L 1:=by rw [Qk5,if_neg h1,if_pos h2]
   rw [e]
   simp -implicitDefEqProofs (disch:=omega) only [go_sem,↓reduceIte,reduceCtorEq,rA,rq,Int.reduceEq,Qh,XI,lA,lC,lN,aA,tSq,tN,false_implies,true_implies,true_and,and_true,not_false_eq_true,h2]
   refine call hT Qp (QeB hT F i1 hL) 1000 fun v σ hv=>?_
   obtain ⟨rfl,t',v2',v3',v4',ht,rfl⟩:=hv
   simp -implicitDefEqProofs (disch:=omega) only [go_sem,↓reduceIte,reduceCtorEq,rq,Qh,Qx,lA,lC,lN]
   first | exact ⟨by omega,rfl,t',v2',v3',v4',by omega,rfl⟩ | exact ⟨by omega,rfl,t',v2',v3',v4',by omega,rfl,rfl⟩ | exact ⟨by omega,t',v2',v3',v4',by omega,rfl⟩ | exact ⟨by omega,t',v2',v3',v4',by omega,rfl,rfl⟩
  ·by_cases h3:op=8∨op=9
   ·have e:Qk5 L op x=(x,L):=by rw [Qk5,if_neg h1,if_neg h2,if_pos h3]
    rw [e]
    rcases h3 with rfl | rfl <;> (
     simp -implicitDefEqProofs (disch:=omega) only [go_sem,↓reduceIte,reduceCtorEq,rA,rq,Int.reduceEq,Qh,XI,Qx,lA,lC,lN,aA,tSq,tN,false_implies,true_implies,true_and,and_true,not_false_eq_true]
     first | exact ⟨by omega,rfl,t+1,v2,v3,v4,by omega,rfl⟩ | exact ⟨by omega,rfl,t+1,v2,v3,v4,by omega,rfl,rfl⟩ | exact ⟨by omega,t+1,v2,v3,v4,by omega,rfl⟩ | exact ⟨by omega,t+1,v2,v3,v4,by omega,rfl,rfl⟩)
   ·have n5:¬ op=8:=by omega
    have n6:¬ op=9:=by omega
    have e:Qk5 L op x=(-1,L):=by rw [Qk5,if_neg h1,if_neg h2,if_neg h3]
    rw [e]
    simp -implicitDefEqProofs (disch:=omega) only [go_sem,↓reduceIte,reduceCtorEq,rA,rq,Qh,XI,Qx,lA,lC,lN,aA,tSq,tN,false_implies,true_implies,true_and,and_true,not_false_eq_true,n1,n2,n3,n4,h2,n5,n6]
    first | exact ⟨by omega,rfl,t+1,v2,v3,v4,by omega,rfl⟩ | exact ⟨by omega,rfl,t+1,v2,v3,v4,by omega,rfl,rfl⟩ | exact ⟨by omega,t+1,v2,v3,v4,by omega,rfl⟩ | exact ⟨by omega,t+1,v2,v3,v4,by omega,rfl,rfl⟩
end
section
attribute [local go_sem] lR zA Qcu QJw QJv QdQ QHR QHQ QdO QL6 QL5
variable {op:Int}
theorem ops16 (h:1≤op∧op≤16):op=1∨op=2∨op=3∨op=4∨op=5∨op=6∨op=7∨op=8∨op=9∨op=10∨op=11∨op=12∨op=13∨op=14∨op=15∨op=16:=by omega
theorem w_of (hT:Qf P tab) (h:1≤op∧op≤16):∃ f,Pure P G QX [.int .u8 op] fun v=>v=fact f (Qhg op) (QhJ op) ((Qe7 op).getD 0) (Qe7 op).isSome:=by
 rcases ops16 h with rfl | rfl | rfl | rfl | rfl | rfl | rfl | rfl | rfl | rfl | rfl | rfl | rfl | rfl | rfl | rfl
 ·exact ⟨_,of_1 hT⟩
 ·exact ⟨_,of_2 hT⟩
 ·exact ⟨_,of_3 hT⟩
 ·exact ⟨_,of_4 hT⟩
 ·exact ⟨_,of_5 hT⟩
 ·exact ⟨_,of_6 hT⟩
 ·exact ⟨_,of_7 hT⟩
 ·exact ⟨_,of_8 hT⟩
 ·exact ⟨_,of_9 hT⟩
 ·exact ⟨_,QRY hT⟩
 ·exact ⟨_,QRX hT⟩
 ·exact ⟨_,QRW hT⟩
 ·exact ⟨_,QRV hT⟩
 ·exact ⟨_,QRU hT⟩
 ·exact ⟨_,QRT hT⟩
 ·exact ⟨_,QRS hT⟩
theorem QS9 (hT:Qf P tab) (h:1≤op∧op≤16):Pure P G QkI [.int .u8 op] fun v=>v=.bool (Qhg op):=by
 intro t
 obtain ⟨f,hf⟩:=w_of (P:=P) (G:=G) hT h
 refine Qi 0 (zL _) (Qk hT Qdg (by simp [QdO]) (Qg 1000 ?_))
 refine ya ?_
 refine Qj hT QO hf rfl 1000 ?_
 simp -implicitDefEqProofs (disch:=omega) only [go_sem,↓reduceIte,reduceCtorEq,rA,rq,rL,fact,lN,lC,true_implies,and_true]
theorem QF5 (hT:Qf P tab) (h:1≤op∧op≤16):Pure P G QiC [.int .u8 op] fun v=>v=.bool (QhJ op):=by
 intro t
 obtain ⟨f,hf⟩:=w_of (P:=P) (G:=G) hT h
 refine Qi 0 (zL _) (Qk hT Qig (by simp [Qcu]) (Qg 1000 ?_))
 refine ya ?_
 refine Qj hT QO hf rfl 1000 ?_
 simp -implicitDefEqProofs (disch:=omega) only [go_sem,↓reduceIte,reduceCtorEq,rA,rq,rL,fact,lN,lC,true_implies,and_true]
theorem QTf (hT:Qf P tab) (h:1≤op∧op≤16):Pure P G QkK [.int .u8 op] fun v=>v=.tup [.int .i64 ((Qe7 op).getD 0),.bool (Qe7 op).isSome]:=by
 intro t
 obtain ⟨f,hf⟩:=w_of (P:=P) (G:=G) hT h
 refine Qi 0 (zL _) (Qk hT QkB (by simp [QdQ]) (Qg 1000 ?_))
 refine ya ?_
 refine Qj hT QO hf rfl 1000 ?_
 simp -implicitDefEqProofs (disch:=omega) only [go_sem,↓reduceIte,reduceCtorEq,rA,rq,rL,fact,lN,lC,true_implies,and_true]
 refine Qj hT QO hf rfl 1000 ?_
 simp -implicitDefEqProofs (disch:=omega) only [go_sem,↓reduceIte,reduceCtorEq,rA,rq,fact,lN,lC,true_implies,and_true]
structure Bits (P:Program) (G:Nat→Option V):Prop where
 power:∀ c,i64 c→Pure P G QkJ [.int .i64 c] fun v=>v=match Qk6 c with | some k=>.tup [.int .i64 (k:Nat),.bool true] | none=>.tup [.int .i64 0,.bool false]
end
section
attribute [local go_sem] aA cA lA lC lN nA tN tSq tZ lR zA Option.getD_some Option.isSome_some and_true beq_self_eq_true false_implies Qh XI Qx Qu YM QJg QJf QzS QJe QJd QJc QJb QJa QI9 QI8 QI7 not_false_eq_true true_and true_implies
def QGm (P:Program) (G:Nat→Option V) (fmt:Int→List UInt8) (bin:Qhd):Prop:=∀ (L:List Nd) (op x y:Int) (r:GR) (v0 v1 v2 v3 v4 t:Nat) (ex:List (Option Ob)),okN L→inG L x→inG L y→(1≤op∧op≤16)→r.2.length≤1000000→bin L op x y=some r →
 C P G 0 Qe2 [mk v0,.int .u8 op,.int .i64 x,.int .i64 y] ⟨t,kG fmt v0 v1 v2 v3 v4 L++ex⟩ (Qc1 fmt r v0 v1 ex t)
theorem QfU {L L':List Nd} (h:L <+: L'):L.length≤L'.length:=h.length_le
variable {op x:Int}
theorem Yb {bin:Qhd} (hK:Qck [] [] bin) {L:List Nd} (hok:okN L) {n:Int} (hx:inG L x) (ho:1≤op∧op≤16) (hn:i64 n) {r:GR} (h:QgW bin L op x n=some r) :
 okN (Qdo L n).2∧inG (Qdo L n).2 x∧inG (Qdo L n).2 (Qdo L n).1∧(Qdo L n).2.length≤r.2.length∧L.length≤r.2.length∧okN r.2∧L <+: r.2:=by
 obtain ⟨h1,h2⟩:=Qbk (S:=[]) (C:=[]) hok hn
 obtain ⟨h3,h4⟩:=h1.val h2
 obtain ⟨g1,g2⟩:=QiB h1.pre hx
 obtain ⟨k1,k2⟩:=hK _ _ _ _ _ h1.ok g1 h3 ho h
 have l1:=QfU k1.pre
 have l2:=QfU h1.pre
 exact ⟨h1.ok,g1,h3,l1,by omega,k1.ok,h1.pre.trans k1.pre⟩
theorem wop (ho:1≤op∧op≤16):IntKind.i64.wrap op=op:=wrap_i64 (by omega) (by omega)
theorem QSl (hT:Qf P tab) (F:Fmt P G) {v0 v1 v2 v3 v4 t:Nat} {L:List Nd} {ex:List (Option Ob)} {c:Int} (ho:1≤op∧op≤16) (hL:L.length≤1000000) :
 C P G 0 XN [mk v0,.int .u8 op,.int .i64 x,.int .i64 c] ⟨t,kG F.fmt v0 v1 v2 v3 v4 L++ex⟩ (Qc1 F.fmt (QaJ L op x c) v0 v1 ex t):=by
 refine Qi (5+ex.length) (zL _) (Qk hT Qdj (by simp [YM]) (Qg 1000 ?_))
 have i0:i64 0:=by unfold i64; omega
 have im:i64 (-1):=by unfold i64; omega
 have hkp:=QTf (P:=P) (G:=G) hT ho
 have hi1:=QS4 (P:=P) (G:=G) hT [3,8,15] (by simp) true op
 have hi2:=QS4 (P:=P) (G:=G) hT [5,7] (by simp) true op
 have hw:=wop ho
 refine ya ?_
 refine Qj hT QkB hkp rfl 1000 ?_
 by_cases h1:Qe7 op=some c
 ·have e:QaJ L op x c=(x,L):=by rw [QaJ,if_pos h1]
  rw [e,h1]
  refine ya ?_
  first | exact ⟨by omega,rfl,t+1,v2,v3,v4,by omega,rfl⟩ | exact ⟨by omega,rfl,t+1,v2,v3,v4,by omega,rfl,rfl⟩ | exact ⟨by omega,t+1,v2,v3,v4,by omega,rfl⟩ | exact ⟨by omega,t+1,v2,v3,v4,by omega,rfl,rfl⟩
 ·have hq:(Qe7 op).isSome=true→¬ c=(Qe7 op).getD 0:=fun h e=>by
   obtain ⟨k,hk⟩:=Option.isSome_iff_exists.1 h
   rw [hk] at e h1
   exact h1 (by rw [e]; rfl)
  generalize (Qe7 op).isSome=b at *
  generalize (Qe7 op).getD 0=k at *
  have hstep:(b=false∧True)∨(b=true∧¬ c=k):=by cases b; exact .inl ⟨rfl,trivial⟩; exact .inr ⟨rfl,hq rfl⟩
  by_cases h2:(op=3∨op=8∨op=15)∧c=0
  ·have e:QaJ L op x c=Qdo L 0:=by rw [QaJ,if_neg h1,if_pos h2]
   have hd:decide (op∈[(3:Int),8,15])=true:=by simpa using h2.1
   have hc0:=h2.2
   rw [hd] at hi1
   rw [e]
   rcases hstep with ⟨rfl,hck⟩ | ⟨rfl,hck⟩ <;> (
    refine yh ?_
    refine Qj hT Qay hi1 rfl 1000 ?_
    simp -implicitDefEqProofs (disch:=omega) only [go_sem,↓reduceIte,reduceCtorEq,rA,rq,hc0]
    refine call hT Qp (QeB hT F i0 hL) 1000 fun v σ hv=>?_
    obtain ⟨rfl,t',v2',v3',v4',ht,rfl⟩:=hv
    refine ya ?_
    first | exact ⟨by omega,rfl,t',v2',v3',v4',by omega,rfl⟩ | exact ⟨by omega,rfl,t',v2',v3',v4',by omega,rfl,rfl⟩ | exact ⟨by omega,t',v2',v3',v4',by omega,rfl⟩ | exact ⟨by omega,t',v2',v3',v4',by omega,rfl,rfl⟩)
  ·have hd1:(decide (op∈[(3:Int),8,15])=false∧True)∨(decide (op∈[(3:Int),8,15])=true∧¬ c=0):=by
    by_cases h:op=3∨op=8∨op=15
    ·exact .inr ⟨by simpa using h,fun hc=>h2 ⟨h,hc⟩⟩
    ·exact .inl ⟨by simpa using h,trivial⟩
   generalize decide (op∈[(3:Int),8,15])=d1 at *
   by_cases h3:op=9∧c=-1
   ·have e:QaJ L op x c=Qdo L (-1):=by rw [QaJ,if_neg h1,if_neg h2,if_pos h3]
    rw [e]
    obtain ⟨h9,hcm⟩:=h3
    have hcn:¬ (-1:Int)=0:=by omega
    rcases hstep with ⟨rfl,hck⟩ | ⟨rfl,hck⟩ <;> rcases hd1 with ⟨rfl,hc0⟩ | ⟨rfl,hc0⟩ <;> (
     refine yh ?_
     refine Qj hT Qay hi1 rfl 1000 ?_
     simp -implicitDefEqProofs (disch:=omega) only [go_sem,↓reduceIte,reduceCtorEq,rA,rq,h9,hcm,hcn]
     refine call hT Qp (QeB hT F im hL) 1000 fun v σ hv=>?_
     obtain ⟨rfl,t',v2',v3',v4',ht,rfl⟩:=hv
     refine ya ?_
     first | exact ⟨by omega,rfl,t',v2',v3',v4',by omega,rfl⟩ | exact ⟨by omega,rfl,t',v2',v3',v4',by omega,rfl,rfl⟩ | exact ⟨by omega,t',v2',v3',v4',by omega,rfl⟩ | exact ⟨by omega,t',v2',v3',v4',by omega,rfl,rfl⟩)
   ·have h9:(¬ op=9∧True)∨(op=9∧¬ c=-1):=by
     by_cases h:op=9
     ·exact .inr ⟨h,fun hc=>h3 ⟨h,hc⟩⟩
     ·exact .inl ⟨h,trivial⟩
    by_cases h4:(op=5∨op=7)∧c=1
    ·have e:QaJ L op x c=Qdo L 0:=by rw [QaJ,if_neg h1,if_neg h2,if_neg h3,if_pos h4]
     have hd:decide (op∈[(5:Int),7])=true:=by simpa using h4.1
     have hc1:=h4.2
     have ho9:¬ op=9:=by omega
     rw [hd] at hi2
     rw [e]
     rcases hstep with ⟨rfl,hck⟩ | ⟨rfl,hck⟩ <;> rcases hd1 with ⟨rfl,hc0⟩ | ⟨rfl,hc0⟩ <;> (
      refine yh ?_
      refine Qj hT Qay hi1 rfl 1000 ?_
      simp -implicitDefEqProofs (disch:=omega) only [go_sem,↓reduceIte,reduceCtorEq,rA,rq,rL,hc0,ho9,hw]
      refine Qj hT Qay hi2 rfl 1000 ?_
      refine yr ?_
      refine call hT Qp (QeB hT F i0 hL) 1000 fun v σ hv=>?_
      obtain ⟨rfl,t',v2',v3',v4',ht,rfl⟩:=hv
      refine ya ?_
      first | exact ⟨by omega,rfl,t',v2',v3',v4',by omega,rfl⟩ | exact ⟨by omega,rfl,t',v2',v3',v4',by omega,rfl,rfl⟩ | exact ⟨by omega,t',v2',v3',v4',by omega,rfl⟩ | exact ⟨by omega,t',v2',v3',v4',by omega,rfl,rfl⟩)
    ·have hd2:(decide (op∈[(5:Int),7])=false∧True)∨(decide (op∈[(5:Int),7])=true∧¬ c=1):=by
      by_cases h:op=5∨op=7
      ·exact .inr ⟨by simpa using h,fun hc=>h4 ⟨h,hc⟩⟩
      ·exact .inl ⟨by simpa using h,trivial⟩
     generalize decide (op∈[(5:Int),7])=d2 at *
     have e:QaJ L op x c=(-1,L):=by rw [QaJ,if_neg h1,if_neg h2,if_neg h3,if_neg h4]
     rw [e]
     rcases hstep with ⟨rfl,hck⟩ | ⟨rfl,hck⟩ <;> rcases hd1 with ⟨rfl,hc0⟩ | ⟨rfl,hc0⟩ <;> rcases h9 with ⟨ho9,hcm⟩ | ⟨ho9,hcm⟩ <;> rcases hd2 with ⟨rfl,hc1⟩ | ⟨rfl,hc1⟩ <;> (
      refine yh ?_
      refine Qj hT Qay hi1 rfl 1000 ?_
      simp -implicitDefEqProofs (disch:=omega) only [go_sem,↓reduceIte,reduceCtorEq,rA,rq,rL,hc0,ho9,hcm,hw]
      first | refine Qj hT Qay hi2 rfl 1000 ?_ | (rw [ho9] at hi2; refine Qj hT Qay hi2 rfl 1000 ?_)
      refine yr ?_
      first | exact ⟨by omega,rfl,t+1,v2,v3,v4,by omega,rfl⟩ | exact ⟨by omega,rfl,t+1,v2,v3,v4,by omega,rfl,rfl⟩ | exact ⟨by omega,t+1,v2,v3,v4,by omega,rfl⟩ | exact ⟨by omega,t+1,v2,v3,v4,by omega,rfl,rfl⟩)
end
section
attribute [local go_sem] aA lA lC lN tN tSq lR zA and_true beq_self_eq_true bne_self_eq_false false_implies Qh XI Qx Qu YL QI6 QI5 QzR QzQ QzP QzO QzN QI4 QI3 QI2 QI1 QI0 QIZ QIY QIX not_false_eq_true true_and true_implies
theorem QSj (hT:Qf P tab) (F:Fmt P G) (hP:Bits P G) {bin:Qhd} (hK:Qck [] [] bin) (hB:QGm P G F.fmt bin) {v0 v1 v2 v3 v4 t:Nat} {L:List Nd} {ex:List (Option Ob)} {op x c:Int} (hok:okN L) (hx':inG L x) (ho:1≤op∧op≤16) (hc:i64 c) {r:GR} (hr:r.2.length≤1000000) (h:Qgh bin L op x c=some r) :
 C P G 0 XM [mk v0,.int .u8 op,.int .i64 x,.int .i64 c] ⟨t,kG F.fmt v0 v1 v2 v3 v4 L++ex⟩ (Qc1 F.fmt r v0 v1 ex t):=by
 refine Qi (5+ex.length) (zL _) (Qk hT Qdi (by simp [YL]) (Qg 1000 ?_))
 have hpw:=hP.power c hc
 have i0:i64 0:=by unfold i64; omega
 have en:IntKind.i64.wrap (0 - c)=IntKind.i64.wrap (-c):=by rw [Int.zero_sub]
 have e63:=QtO c
 have hm64:i64 (c % 64):=by unfold i64; omega
 have esh:IntKind.i64.wrap (1 * 2 ^ min (c % 64).toNat 64)=IntKind.i64.wrap (2 ^ (c % 64).toNat):=by rw [Int.one_mul,Nat.min_eq_left (by omega)]
 have h640:0≤c % 64:=by omega
 refine ya ?_
 refine Qj hT QkA hpw (by rfl) 1000 ?_
 unfold Qgh at h
 split at h
 ·rename_i h1
  subst h1
  cases Qk6 c <;> (
   simp -implicitDefEqProofs (disch:=omega) only [go_sem,↓reduceIte,reduceCtorEq,rA,rq,rT,en]
   obtain ⟨p1,p2,p3,p4,p5,_,_⟩:=Yb hK hok hx' (by omega) (Xo _) h
   (repeat' (first | with_reducible refine And.intro ?_ ?_ | with_reducible intro _)) <;> (
    refine call hT Qp (QeB hT F (Xo _) (by omega)) 1000 fun v σ hv=>?_
    obtain ⟨rfl,t',v2',v3',v4',ht,rfl⟩:=hv
    refine ya ?_
    (repeat' (first | with_reducible refine And.intro ?_ ?_ | with_reducible intro _)) <;> (
     refine call hT Qs (hB _ _ _ _ _ _ _ _ _ _ _ _ p1 p2 p3 (by omega) hr h) 1000 fun v σ hv=>?_
     obtain ⟨rfl,t2,w2,w3,w4,ht2,rfl⟩:=hv
     refine ya ?_
     first | exact ⟨by omega,rfl,t2,w2,w3,w4,by omega,rfl⟩ | exact ⟨by omega,rfl,t2,w2,w3,w4,by omega,rfl,rfl⟩ | exact ⟨by omega,t2,w2,w3,w4,by omega,rfl⟩ | exact ⟨by omega,t2,w2,w3,w4,by omega,rfl,rfl⟩)))
 ·rename_i h1
  split at h
  ·rename_i h2
   subst h2
   cases Qk6 c <;> (
    simp -implicitDefEqProofs (disch:=omega) only [go_sem,↓reduceIte,reduceCtorEq,rA,rq,rT,Int.reduceEq,e63,esh,h640]
    obtain ⟨p1,p2,p3,p4,p5,_,_⟩:=Yb hK hok hx' (by omega) (Xo _) h
    (repeat' (first | with_reducible refine And.intro ?_ ?_ | with_reducible intro _)) <;> (
     refine call hT Qp (QeB hT F (Xo _) (by omega)) 1000 fun v σ hv=>?_
     obtain ⟨rfl,t',v2',v3',v4',ht,rfl⟩:=hv
     refine ya ?_
     (repeat' (first | with_reducible refine And.intro ?_ ?_ | with_reducible intro _)) <;> (
      refine call hT Qs (hB _ _ _ _ _ _ _ _ _ _ _ _ p1 p2 p3 (by omega) hr h) 1000 fun v σ hv=>?_
      obtain ⟨rfl,t2,w2,w3,w4,ht2,rfl⟩:=hv
      refine ya ?_
      first | exact ⟨by omega,rfl,t2,w2,w3,w4,by omega,rfl⟩ | exact ⟨by omega,rfl,t2,w2,w3,w4,by omega,rfl,rfl⟩ | exact ⟨by omega,t2,w2,w3,w4,by omega,rfl⟩ | exact ⟨by omega,t2,w2,w3,w4,by omega,rfl,rfl⟩)))
  ·rename_i h2
   split at h
   ·rename_i h3
    obtain ⟨ho12,hcm⟩:=h3
    rcases ho12 with rfl | rfl <;> cases Qk6 c <;> (
     simp -implicitDefEqProofs (disch:=omega) only [go_sem,↓reduceIte,reduceCtorEq,rA,rq,rT,Int.reduceEq,e63,hcm]
     obtain ⟨p1,p2,p3,p4,p5,_,_⟩:=Yb hK hok hx' (by omega) hm64 h
     (repeat' (first | with_reducible refine And.intro ?_ ?_ | with_reducible intro _)) <;> (
      refine call hT Qp (QeB hT F hm64 (by omega)) 1000 fun v σ hv=>?_
      obtain ⟨rfl,t',v2',v3',v4',ht,rfl⟩:=hv
      refine ya ?_
      (repeat' (first | with_reducible refine And.intro ?_ ?_ | with_reducible intro _)) <;> (
       refine call hT Qs (hB _ _ _ _ _ _ _ _ _ _ _ _ p1 p2 p3 (by omega) hr h) 1000 fun v σ hv=>?_
       obtain ⟨rfl,t2,w2,w3,w4,ht2,rfl⟩:=hv
       refine ya ?_
       first | exact ⟨by omega,rfl,t2,w2,w3,w4,by omega,rfl⟩ | exact ⟨by omega,rfl,t2,w2,w3,w4,by omega,rfl,rfl⟩ | exact ⟨by omega,t2,w2,w3,w4,by omega,rfl⟩ | exact ⟨by omega,t2,w2,w3,w4,by omega,rfl,rfl⟩)))
   ·rename_i h3
    have hA:(¬ op=12∧¬ op=13)∨((op=12∨op=13)∧c=c % 64):=by
     by_cases a:op=12∨op=13
     ·exact .inr ⟨a,Decidable.byContradiction fun hn=>h3 ⟨a,hn⟩⟩
     ·exact .inl ⟨fun e=>a (.inl e),fun e=>a (.inr e)⟩
    split at h
    ·rename_i h4
     obtain ⟨rfl,h4⟩:=h4
     obtain ⟨k,hk⟩:=Option.isSome_iff_exists.1 h4
     have hk2:=(Qbt hk).1
     have hik:i64 ((k:Nat):Int):=by unfold i64; omega
     rw [hk] at h ⊢
     refine ya ?_
     obtain ⟨p1,p2,p3,p4,p5,_,_⟩:=Yb hK hok hx' (by omega) hik h
     (repeat' (first | with_reducible refine And.intro ?_ ?_ | with_reducible intro _)) <;> (
      refine call hT Qp (QeB hT F hik (by omega)) 1000 fun v σ hv=>?_
      obtain ⟨rfl,t',v2',v3',v4',ht,rfl⟩:=hv
      refine ya ?_
      (repeat' (first | with_reducible refine And.intro ?_ ?_ | with_reducible intro _)) <;> (
       refine call hT Qs (hB _ _ _ _ _ _ _ _ _ _ _ _ p1 p2 p3 (by omega) hr h) 1000 fun v σ hv=>?_
       obtain ⟨rfl,t2,w2,w3,w4,ht2,rfl⟩:=hv
       refine ya ?_
       first | exact ⟨by omega,rfl,t2,w2,w3,w4,by omega,rfl⟩ | exact ⟨by omega,rfl,t2,w2,w3,w4,by omega,rfl,rfl⟩ | exact ⟨by omega,t2,w2,w3,w4,by omega,rfl⟩ | exact ⟨by omega,t2,w2,w3,w4,by omega,rfl,rfl⟩))
    ·rename_i h4
     split at h
     ·rename_i h5
      obtain ⟨rfl,h5⟩:=h5
      obtain ⟨k,hk⟩:=Option.isSome_iff_exists.1 h5
      rw [hk]
      refine ya ?_
      obtain ⟨p1,p2,p3,p4,p5,_,_⟩:=Yb hK hok hx' (by omega) (Xo _) h
      (repeat' (first | with_reducible refine And.intro ?_ ?_ | with_reducible intro _)) <;> (
       refine call hT Qp (QeB hT F (Xo _) (by omega)) 1000 fun v σ hv=>?_
       obtain ⟨rfl,t',v2',v3',v4',ht,rfl⟩:=hv
       refine ya ?_
       (repeat' (first | with_reducible refine And.intro ?_ ?_ | with_reducible intro _)) <;> (
        refine call hT Qs (hB _ _ _ _ _ _ _ _ _ _ _ _ p1 p2 p3 (by omega) hr h) 1000 fun v σ hv=>?_
        obtain ⟨rfl,t2,w2,w3,w4,ht2,rfl⟩:=hv
        refine ya ?_
        first | exact ⟨by omega,rfl,t2,w2,w3,w4,by omega,rfl⟩ | exact ⟨by omega,rfl,t2,w2,w3,w4,by omega,rfl,rfl⟩ | exact ⟨by omega,t2,w2,w3,w4,by omega,rfl⟩ | exact ⟨by omega,t2,w2,w3,w4,by omega,rfl,rfl⟩))
     ·rename_i h5
      split at h
      ·rename_i h6
       obtain ⟨rfl,rfl⟩:=h6
       cases Qk6 1 <;> (
        refine ya ?_
        obtain ⟨p1,p2,p3,p4,p5,_,_⟩:=Yb hK hok hx' (by omega) i0 h
        (repeat' (first | with_reducible refine And.intro ?_ ?_ | with_reducible intro _)) <;> (
         refine call hT Qp (QeB hT F i0 (by omega)) 1000 fun v σ hv=>?_
         obtain ⟨rfl,t',v2',v3',v4',ht,rfl⟩:=hv
         refine ya ?_
         (repeat' (first | with_reducible refine And.intro ?_ ?_ | with_reducible intro _)) <;> (
          refine call hT Qs (hB _ _ _ _ _ _ _ _ _ _ _ _ p1 p2 p3 (by omega) hr h) 1000 fun v σ hv=>?_
          obtain ⟨rfl,t2,w2,w3,w4,ht2,rfl⟩:=hv
          refine ya ?_
          first | exact ⟨by omega,rfl,t2,w2,w3,w4,by omega,rfl⟩ | exact ⟨by omega,rfl,t2,w2,w3,w4,by omega,rfl,rfl⟩ | exact ⟨by omega,t2,w2,w3,w4,by omega,rfl⟩ | exact ⟨by omega,t2,w2,w3,w4,by omega,rfl,rfl⟩)))
      ·rename_i h6
       cases h
       rcases hA with ⟨n12,n13⟩ | ⟨a12,hcm⟩
       ·by_cases a6:op=6
        ·subst a6
         have hpn:Qk6 c=none:=by
          cases hp:Qk6 c with
          | none=>rfl
          | some k=>exact absurd ⟨rfl,by simp [hp]⟩ h4
         rw [hpn]
         refine ya ?_
         first | exact ⟨by omega,rfl,t+1,v2,v3,v4,by omega,rfl⟩ | exact ⟨by omega,rfl,t+1,v2,v3,v4,by omega,rfl,rfl⟩ | exact ⟨by omega,t+1,v2,v3,v4,by omega,rfl⟩ | exact ⟨by omega,t+1,v2,v3,v4,by omega,rfl,rfl⟩
        by_cases a7:op=7
        ·subst a7
         have hpn:Qk6 c=none:=by
          cases hp:Qk6 c with
          | none=>rfl
          | some k=>exact absurd ⟨rfl,by simp [hp]⟩ h5
         rw [hpn]
         refine ya ?_
         first | exact ⟨by omega,rfl,t+1,v2,v3,v4,by omega,rfl⟩ | exact ⟨by omega,rfl,t+1,v2,v3,v4,by omega,rfl,rfl⟩ | exact ⟨by omega,t+1,v2,v3,v4,by omega,rfl⟩ | exact ⟨by omega,t+1,v2,v3,v4,by omega,rfl,rfl⟩
        by_cases a15:op=15
        ·subst a15
         have hc1:¬ c=1:=fun e=>h6 ⟨rfl,e⟩
         cases Qk6 c <;> (
          refine yr ?_
          first | exact ⟨by omega,rfl,t+1,v2,v3,v4,by omega,rfl⟩ | exact ⟨by omega,rfl,t+1,v2,v3,v4,by omega,rfl,rfl⟩ | exact ⟨by omega,t+1,v2,v3,v4,by omega,rfl⟩ | exact ⟨by omega,t+1,v2,v3,v4,by omega,rfl,rfl⟩)
        ·cases Qk6 c <;> (
          simp -implicitDefEqProofs (disch:=omega) only [go_sem,↓reduceIte,reduceCtorEq,rA,rq,rT,h1,h2,n12,n13,a6,a7,a15]
          first | exact ⟨by omega,rfl,t+1,v2,v3,v4,by omega,rfl⟩ | exact ⟨by omega,rfl,t+1,v2,v3,v4,by omega,rfl,rfl⟩ | exact ⟨by omega,t+1,v2,v3,v4,by omega,rfl⟩ | exact ⟨by omega,t+1,v2,v3,v4,by omega,rfl,rfl⟩)
       ·have e63':Qcb .i64 c 63=c:=by rw [e63]; exact hcm.symm
        rcases a12 with rfl | rfl <;> cases Qk6 c <;> (
         simp -implicitDefEqProofs (disch:=omega) only [go_sem,↓reduceIte,reduceCtorEq,rA,rq,rT,Int.reduceEq,e63']
         first | exact ⟨by omega,rfl,t+1,v2,v3,v4,by omega,rfl⟩ | exact ⟨by omega,rfl,t+1,v2,v3,v4,by omega,rfl,rfl⟩ | exact ⟨by omega,t+1,v2,v3,v4,by omega,rfl⟩ | exact ⟨by omega,t+1,v2,v3,v4,by omega,rfl,rfl⟩)
end
section
attribute [local go_sem] nF nT aA lA lC lN tN tSq aZ lR zA and_true beq_self_eq_true bne_self_eq_false false_implies Qh XI Qx Qu YK QIW QIV QzM QzL QzK QzJ QzI QIU QIT QIS QIR QIQ QIP QIO QIN not_false_eq_true true_and true_implies
theorem QSh (hT:Qf P tab) (F:Fmt P G) {bin:Qhd} (hK:Qck [] [] bin) (hB:QGm P G F.fmt bin) {v0 v1 v2 v3 v4 t:Nat} {L:List Nd} {ex:List (Option Ob)} {op x c:Int} (hok:okN L) (hL:L.length≤1000000) (ho:1≤op∧op≤16) (hc:i64 c) {r:GR} (hr:r.2.length≤1000000) (h:QeS bin L op x c=some r) :
 C P G 0 XL [mk v0,.int .u8 op,.int .i64 x,.int .i64 c] ⟨t,kG F.fmt v0 v1 v2 v3 v4 L++ex⟩ (Qc1 F.fmt r v0 v1 ex t):=by
 refine Qi (5+ex.length) (zL _) (Qk hT Qdh (by simp [YK]) (Qg 1000 ?_))
 have i0:i64 0:=by unfold i64; omega
 have e1:Qcb .i64 c 1=c % 2:=QgC .i64 1 c 1 rfl (by decide)
 have ex1:QPx .i64 c 1=doW 10 c 1:=rfl
 have hx1:i64 (doW 10 c 1):=Qgv hc (by unfold i64; omega)
 refine ya ?_
 refine call hT Qhz (QPU hT (by simp)) 1000 fun v σ hv=>?_
 obtain ⟨rfl,t1,ht1,rfl⟩:=hv
 unfold QeS at h
 split at h
 ·rename_i hbo
  cases h
  refine yq ?_
  first | exact ⟨by omega,rfl,t1,v2,v3,v4,by omega,rfl⟩ | exact ⟨by omega,rfl,t1,v2,v3,v4,by omega,rfl,rfl⟩ | exact ⟨by omega,t1,v2,v3,v4,by omega,rfl⟩ | exact ⟨by omega,t1,v2,v3,v4,by omega,rfl,rfl⟩
 ·rename_i hbo
  have hbo:Qvz L x=true:=by simpa using hbo
  have hx':=Qvy hbo
  split at h
  ·rename_i h1
   cases h
   rcases h1 with ⟨rfl,h2⟩ | ⟨rfl,rfl⟩
   ·simp -implicitDefEqProofs (disch:=omega) only [go_sem,↓reduceIte,reduceCtorEq,rA,rq,hbo,e1,h2]
    first | exact ⟨by omega,rfl,t1,v2,v3,v4,by omega,rfl⟩ | exact ⟨by omega,rfl,t1,v2,v3,v4,by omega,rfl,rfl⟩ | exact ⟨by omega,t1,v2,v3,v4,by omega,rfl⟩ | exact ⟨by omega,t1,v2,v3,v4,by omega,rfl,rfl⟩
   ·refine yq ?_
    first | exact ⟨by omega,rfl,t1,v2,v3,v4,by omega,rfl⟩ | exact ⟨by omega,rfl,t1,v2,v3,v4,by omega,rfl,rfl⟩ | exact ⟨by omega,t1,v2,v3,v4,by omega,rfl⟩ | exact ⟨by omega,t1,v2,v3,v4,by omega,rfl,rfl⟩
  ·rename_i hn1
   split at h
   ·rename_i h1
    cases h
    rcases h1 with rfl | ⟨rfl,h2⟩
    ·have h3:¬ c % 2=1:=fun e=>hn1 (.inl ⟨rfl,e⟩)
     simp -implicitDefEqProofs (disch:=omega) only [go_sem,↓reduceIte,reduceCtorEq,rA,rq,Int.reduceEq,hbo,e1,h3]
     refine call hT Qp (QeB hT F i0 hL) 1000 fun v σ hv=>?_
     obtain ⟨rfl,t',v2',v3',v4',ht,rfl⟩:=hv
     refine ya ?_
     first | exact ⟨by omega,rfl,t',v2',v3',v4',by omega,rfl⟩ | exact ⟨by omega,rfl,t',v2',v3',v4',by omega,rfl,rfl⟩ | exact ⟨by omega,t',v2',v3',v4',by omega,rfl⟩ | exact ⟨by omega,t',v2',v3',v4',by omega,rfl,rfl⟩
    ·have h3:¬ c=1:=fun e=>hn1 (.inr ⟨rfl,e⟩)
     simp -implicitDefEqProofs (disch:=omega) only [go_sem,↓reduceIte,reduceCtorEq,rA,rq,Int.reduceEq,hbo,h2,h3]
     refine call hT Qp (QeB hT F i0 hL) 1000 fun v σ hv=>?_
     obtain ⟨rfl,t',v2',v3',v4',ht,rfl⟩:=hv
     refine ya ?_
     first | exact ⟨by omega,rfl,t',v2',v3',v4',by omega,rfl⟩ | exact ⟨by omega,rfl,t',v2',v3',v4',by omega,rfl,rfl⟩ | exact ⟨by omega,t',v2',v3',v4',by omega,rfl⟩ | exact ⟨by omega,t',v2',v3',v4',by omega,rfl,rfl⟩
   ·rename_i hn2
    have n8:¬ op=8:=fun e=>hn2 (.inl e)
    split at h
    ·rename_i h1
     obtain ⟨rfl,hodd⟩:=h1
     cases hq:QgW bin L 16 x 0 with
     | none=>rw [hq] at h; cases h
     | some q =>
       rw [hq] at h
       simp only [Option.bind_some] at h
       obtain ⟨p1,p2,p3,p4,p5,p6,p7⟩:=Yb hK hok hx' (by omega) i0 hq
       obtain ⟨g1,g2⟩:=Xp hK hok hx' (by omega) i0 hq
       obtain ⟨s1,s2,s3,s4,s5,s6,s7⟩:=Yb hK p6 (g1.val g2).1 (by omega) hx1 h
       simp -implicitDefEqProofs (disch:=omega) only [go_sem,↓reduceIte,reduceCtorEq,rA,rq,Int.reduceEq,hbo,e1,hodd,ex1]
       (repeat' (first | with_reducible refine And.intro ?_ ?_ | with_reducible intro _)) <;> (
        refine call hT Qp (QeB hT F i0 hL) 1000 fun v σ hv=>?_
        obtain ⟨rfl,t',v2',v3',v4',ht,rfl⟩:=hv
        refine ya ?_
        (repeat' (first | with_reducible refine And.intro ?_ ?_ | with_reducible intro _)) <;> (
         refine call hT Qs (hB _ _ _ _ _ _ _ _ _ _ _ _ p1 p2 p3 (by omega) (by omega) hq) 1000 fun v σ hv=>?_
         obtain ⟨rfl,t3,w2,w3,w4,ht3,rfl⟩:=hv
         refine ya ?_
         (repeat' (first | with_reducible refine And.intro ?_ ?_ | with_reducible intro _)) <;> (
          refine call hT Qp (QeB hT F hx1 (by omega)) 1000 fun v σ hv=>?_
          obtain ⟨rfl,t4,y2,y3,y4,ht4,rfl⟩:=hv
          refine ya ?_
          (repeat' (first | with_reducible refine And.intro ?_ ?_ | with_reducible intro _)) <;> (
           refine call hT Qs (hB _ _ _ _ _ _ _ _ _ _ _ _ s1 s2 s3 (by omega) hr h) 1000 fun v σ hv=>?_
           obtain ⟨rfl,t5,z2,z3,z4,ht5,rfl⟩:=hv
           refine ya ?_
           first | exact ⟨by omega,rfl,t5,z2,z3,z4,by omega,rfl⟩ | exact ⟨by omega,rfl,t5,z2,z3,z4,by omega,rfl,rfl⟩ | exact ⟨by omega,t5,z2,z3,z4,by omega,rfl⟩ | exact ⟨by omega,t5,z2,z3,z4,by omega,rfl,rfl⟩))))
    ·rename_i hn3
     have hxo:(¬ op=10∧True)∨(op=10∧¬ c % 2=1):=by
      by_cases e:op=10
      ·exact .inr ⟨e,fun o=>hn3 ⟨e,o⟩⟩
      ·exact .inl ⟨e,trivial⟩
     by_cases a16:op=16
     ·subst a16
      have hc0:c=0:=Decidable.byContradiction fun e=>hn2 (.inr ⟨rfl,e⟩)
      subst hc0
      refine yq ?_
      refine call hT Xy (Qo8 hT (by simp)) 1000 fun v σ hv=>?_
      obtain ⟨htv,t9,ht9,rfl⟩:=hv
      rcases htv with ⟨y,d,hta,rfl⟩ | ⟨hta,y,d,rfl⟩
      ·rw [hta] at h
       simp only at h
       by_cases hd:d=0
       ·subst hd
        refine ya ?_
        refine call hT Qhz (QPU hT (by simp)) 1000 fun v σ hv=>?_
        obtain ⟨rfl,t8,ht8,rfl⟩:=hv
        by_cases hby:Qvz L y=true
        ·rw [if_pos (by simp [hby])] at h
         cases h
         simp -implicitDefEqProofs (disch:=omega) only [go_sem,↓reduceIte,reduceCtorEq,rq,hby]
         first | exact ⟨by omega,rfl,t8,v2,v3,v4,by omega,rfl⟩ | exact ⟨by omega,rfl,t8,v2,v3,v4,by omega,rfl,rfl⟩ | exact ⟨by omega,t8,v2,v3,v4,by omega,rfl⟩ | exact ⟨by omega,t8,v2,v3,v4,by omega,rfl,rfl⟩
        ·rw [if_neg fun e=>hby e.2.2] at h
         cases h
         have hby':Qvz L y=false:=by simpa using hby
         simp -implicitDefEqProofs (disch:=omega) only [go_sem,↓reduceIte,reduceCtorEq,rq,hby']
         first | exact ⟨by omega,rfl,t8,v2,v3,v4,by omega,rfl⟩ | exact ⟨by omega,rfl,t8,v2,v3,v4,by omega,rfl,rfl⟩ | exact ⟨by omega,t8,v2,v3,v4,by omega,rfl⟩ | exact ⟨by omega,t8,v2,v3,v4,by omega,rfl,rfl⟩
       ·rw [if_neg fun e=>hd e.2.1] at h
        cases h
        simp -implicitDefEqProofs (disch:=omega) only [go_sem,↓reduceIte,reduceCtorEq,rA,rq,rT,hd]
        first | exact ⟨by omega,rfl,t9,v2,v3,v4,by omega,rfl⟩ | exact ⟨by omega,rfl,t9,v2,v3,v4,by omega,rfl,rfl⟩ | exact ⟨by omega,t9,v2,v3,v4,by omega,rfl⟩ | exact ⟨by omega,t9,v2,v3,v4,by omega,rfl,rfl⟩
      ·rw [hta] at h
       cases h
       refine ya ?_
       first | exact ⟨by omega,rfl,t9,v2,v3,v4,by omega,rfl⟩ | exact ⟨by omega,rfl,t9,v2,v3,v4,by omega,rfl,rfl⟩ | exact ⟨by omega,t9,v2,v3,v4,by omega,rfl⟩ | exact ⟨by omega,t9,v2,v3,v4,by omega,rfl,rfl⟩
     ·have hrr:r=(-1,L):=by
       split at h
       ·rw [if_neg fun e=>a16 e.1] at h; cases h; rfl
       ·cases h; rfl
      subst hrr
      rcases hxo with ⟨n10,_⟩ | ⟨rfl,hodd⟩
      ·simp -implicitDefEqProofs (disch:=omega) only [go_sem,↓reduceIte,reduceCtorEq,rA,rq,hbo,n8,n10,a16]
       refine call hT Xy (Qo8 hT (by simp)) 1000 fun v σ hv=>?_
       obtain ⟨htv,t9,ht9,rfl⟩:=hv
       rcases htv with ⟨y,d,hta,rfl⟩ | ⟨hta,y,d,rfl⟩ <;> (
        simp -implicitDefEqProofs (disch:=omega) only [go_sem,↓reduceIte,reduceCtorEq,rA,rq,rT,a16]
        first | exact ⟨by omega,rfl,t9,v2,v3,v4,by omega,rfl⟩ | exact ⟨by omega,rfl,t9,v2,v3,v4,by omega,rfl,rfl⟩ | exact ⟨by omega,t9,v2,v3,v4,by omega,rfl⟩ | exact ⟨by omega,t9,v2,v3,v4,by omega,rfl,rfl⟩)
      ·simp -implicitDefEqProofs (disch:=omega) only [go_sem,↓reduceIte,reduceCtorEq,rA,rq,Int.reduceEq,hbo,e1,hodd]
       refine call hT Xy (Qo8 hT (by simp)) 1000 fun v σ hv=>?_
       obtain ⟨htv,t9,ht9,rfl⟩:=hv
       rcases htv with ⟨y,d,hta,rfl⟩ | ⟨hta,y,d,rfl⟩ <;> (
        refine ya ?_
        first | exact ⟨by omega,rfl,t9,v2,v3,v4,by omega,rfl⟩ | exact ⟨by omega,rfl,t9,v2,v3,v4,by omega,rfl,rfl⟩ | exact ⟨by omega,t9,v2,v3,v4,by omega,rfl⟩ | exact ⟨by omega,t9,v2,v3,v4,by omega,rfl,rfl⟩)
end
end Go.Proofs.YtbdhjeojcpgblaaGreatDoor
