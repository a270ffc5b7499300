/- Ours. -/
import Derived.Test.YtbdhjeojcpgblaaGreatDoorJ9
import Derived.KernelRfl
import Derived.Test.YtbdhjeojcpgblaaGreatDoorTabB
import Derived.Test.YtbdhjeojcpgblaaGreatDoorAmD
import Derived.Test.YtbdhjeojcpgblaaGreatDoorJ1
import Derived.Test.YtbdhjeojcpgblaaGreatDoorY
open Nat renaming reduceEqDiff → rq, reduceAdd → rA, reduceLeDiff → rL, reduceLT → rT, zero_add → zA, le_refl → lR, zero_le → zL, add_zero → aZ
open List renaming length_cons → lC, length_nil → lN, take_succ_cons → tSq, length_append → lA, nil_append → nA, cons_append → cA, append_assoc → aA, take_nil → tN, take_zero → tZ, length_map → lM
open Bool renaming not_false → nF, not_true → nT
namespace Go.Proofs.YtbdhjeojcpgblaaGreatDoor
open Go Go.Am
set_option maxRecDepth 100000
variable {P:Program} {G:Nat→Option V}
set_option maxHeartbeats 2000000
section
attribute [local go_sem] nF nT lR zA zL QiA zqi_0 zqi_1 zqi_2 zqi_3 zqi_4 zqi_5 Qiz zqk_0 zqk_1 zqk_2 zqk_3 zqk_4 Qcm QOr QOq
variable {op x y:Int}
theorem QPP (hT:Qf P tab) (h:Pure P G QX [.int .u8 op] fun v=>v=fact (.val .nilFunc) false false 0 false):Pure P G Qdp [.int .u8 op] fun v=>v=.bool false:=by
 intro t
 refine Qi 0 (zL _) (Qk hT QfG (by simp [Qcm]) (Qg 1000 ?_))
 refine ya ?_
 refine Qj hT QO h rfl 1000 ?_
 simp -implicitDefEqProofs (disch:=omega) only [go_sem,↓reduceIte,reduceCtorEq,rA,rq,rL,fact,lN,lC,true_implies,and_true]
variable {f v0 v1 v2 v3 v4 t:Nat}
theorem Qg2 (hT:Qf P tab) {n:Int} {c1 c2 c3:Bool} (h:Pure P G QX [.int .u8 op] fun v=>v=fact (.fn (.func f) [] []) c1 c2 n c3):Pure P G Qdp [.int .u8 op] fun v=>v=.bool true:=by
 intro t
 refine Qi 0 (zL _) (Qk hT QfG (by simp [Qcm]) (Qg 1000 ?_))
 refine ya ?_
 refine Qj hT QO h rfl 1000 ?_
 simp -implicitDefEqProofs (disch:=omega) only [go_sem,↓reduceIte,reduceCtorEq,rA,rq,rL,fact,lN,lC,true_implies,and_true]
theorem QTe (hT:Qf P tab) (h0:0≤op) (h1:op≤255):Pure P G Qdp [.int .u8 op] fun v=>v=.bool (decide (1≤op∧op≤16)):=by
 by_cases hm:17≤op
 ·have e:decide (1≤op∧op≤16)=false:=by simp; omega
  rw [e]
  exact QPP hT (QB8 hT hm h1)
 ·have:op=0∨op=1∨op=2∨op=3∨op=4∨op=5∨op=6∨op=7∨op=8∨op=9∨op=10∨op=11∨op=12∨op=13∨op=14∨op=15∨op=16:=by omega
  rcases this with rfl | rfl | rfl | rfl | rfl | rfl | rfl | rfl | rfl | rfl | rfl | rfl | rfl | rfl | rfl | rfl | rfl
  ·exact QPP hT (of_0 hT)
  ·exact Qg2 hT (of_1 hT)
  ·exact Qg2 hT (of_2 hT)
  ·exact Qg2 hT (of_3 hT)
  ·exact Qg2 hT (of_4 hT)
  ·exact Qg2 hT (of_5 hT)
  ·exact Qg2 hT (of_6 hT)
  ·exact Qg2 hT (of_7 hT)
  ·exact Qg2 hT (of_8 hT)
  ·exact Qg2 hT (of_9 hT)
  ·exact Qg2 hT (QRY hT)
  ·exact Qg2 hT (QRX hT)
  ·exact Qg2 hT (QRW hT)
  ·exact Qg2 hT (QRV hT)
  ·exact Qg2 hT (QRU hT)
  ·exact Qg2 hT (QRT hT)
  ·exact Qg2 hT (QRS hT)
def QqW (f:Nat) (L:List Nd) (op x y:Int):Option GR:=if inG L x∧inG L y∧(1≤op∧op≤16) then QTT f L op x y else some (-1,L)
variable {r:GR} {L:List Nd}
theorem QCz (hT:Qf P tab) (F:Fmt P G) (hP:Bits P G) (f:Nat) {ex:List (Option Ob)} (hok:okN L) (h0:0≤op∧op≤255) (hr:r.2.length≤1000000) (h:QqW f L op x y=some r) :
 C P G 0 Qo0 [.ptr 1 v0 0,.int .u8 op,.int .i64 x,.int .i64 y] ⟨t,kG F.fmt v0 v1 v2 v3 v4 L++ex⟩ (Qc1 F.fmt r v0 v1 ex t):=by
 refine Qi (5+ex.length) (zL _) (Qk hT Qcn (by simp [QiA]) (Qg 1000 ?_))
 have hkn:=QTe (P:=P) (G:=G) hT h0.1 h0.2
 unfold QqW at h
 refine ya ?_
 refine call hT QF (Qgn hT) 1000 fun v σ hv=>?_
 obtain ⟨rfl,t1,ht1,rfl⟩:=hv
 by_cases hx:inG L x
 ·have hx':0≤x∧x<L.length:=hx
  have e:L.getD x.toNat zeroNd=nd L x:=rfl
  rw [if_pos hx',e]
  generalize nd L x=d at *
  simp -implicitDefEqProofs (disch:=omega) only [go_sem,↓reduceIte,reduceCtorEq,rA,rq,rT,Qh,XI,QcS,lA,lC,lN,aA,cA,nA,tZ,and_true,Nd.cells]
  refine call hT QF (Qgn hT) 1000 fun v σ hv=>?_
  obtain ⟨rfl,t2,ht2,rfl⟩:=hv
  by_cases hy:inG L y
  ·have hy':0≤y∧y<L.length:=hy
   have e:L.getD y.toNat zeroNd=nd L y:=rfl
   rw [if_pos hy',e]
   generalize nd L y=d2 at *
   simp -implicitDefEqProofs (disch:=omega) only [go_sem,↓reduceIte,reduceCtorEq,rA,rq,rT,Qh,Qam,Qba,lA,lC,lN,aA,cA,nA,tZ,and_true,Nd.cells]
   refine Qj hT QfG hkn rfl 1000 ?_
   by_cases ho:1≤op∧op≤16
   ·rw [if_pos ⟨hx,hy,ho⟩] at h
    have ed:decide (1≤op∧op≤16)=true:=by simpa using ho
    rw [ed]
    simp -implicitDefEqProofs (disch:=omega) only [go_sem,↓reduceIte,reduceCtorEq,rA,rq,lC,lN,cA,nA,tZ,and_true]
    refine call hT Qs (k_bin hT F hP f _ _ _ _ _ _ _ _ _ _ _ _ hok hx hy ho hr h) 1000 fun v σ hv=>?_
    obtain ⟨rfl,t4,w2,w3,w4,ht4,rfl⟩:=hv
    simp -implicitDefEqProofs (disch:=omega) only [go_sem,↓reduceIte,reduceCtorEq,rA,rq,Qh,Qx,lA,lC,lN]
    exact ⟨by omega,rfl,t4,w2,w3,w4,by omega,rfl⟩
   ·rw [if_neg fun q=>ho q.2.2] at h
    cases h
    have ed:decide (1≤op∧op≤16)=false:=by simpa using ho
    rw [ed]
    simp -implicitDefEqProofs (disch:=omega) only [go_sem,↓reduceIte,reduceCtorEq,rA,rq,Qh,Qx,lA,lC,lN]
    exact ⟨by omega,rfl,_,v2,v3,v4,by omega,rfl⟩
  ·have hy':¬ (0≤y∧y<L.length):=hy
   rw [if_neg fun q=>hy q.2.1] at h
   cases h
   rw [if_neg hy']
   simp -implicitDefEqProofs (disch:=omega) only [go_sem,↓reduceIte,reduceCtorEq,rA,rq,rT,Qh,Qam,Qba,Qx,lA,lC,lN,aA,cA,nA,tZ,and_true,Nd.cells,zeroNd]
   exact ⟨by omega,rfl,_,v2,v3,v4,by omega,rfl⟩
 ·have hx':¬ (0≤x∧x<L.length):=hx
  rw [if_neg fun q=>hx q.1] at h
  cases h
  rw [if_neg hx']
  simp -implicitDefEqProofs (disch:=omega) only [go_sem,↓reduceIte,reduceCtorEq,rA,rq,rT,Qh,XI,QcS,lA,lC,lN,aA,cA,nA,tZ,and_true,Nd.cells,zeroNd]
  refine call hT QF (Qgn hT) 1000 fun v σ hv=>?_
  obtain ⟨rfl,t2,ht2,rfl⟩:=hv
  by_cases hy:0≤y∧y<L.length
  ·rw [if_pos hy]
   generalize L.getD y.toNat zeroNd=d2 at *
   simp -implicitDefEqProofs (disch:=omega) only [go_sem,↓reduceIte,reduceCtorEq,rA,rq,rT,Qh,Qam,Qba,Qx,lA,lC,lN,aA,cA,nA,tZ,and_true,Nd.cells]
   exact ⟨by omega,rfl,_,v2,v3,v4,by omega,rfl⟩
  ·rw [if_neg hy]
   simp -implicitDefEqProofs (disch:=omega) only [go_sem,↓reduceIte,reduceCtorEq,rA,rq,rT,Qh,Qam,Qba,Qx,lA,lC,lN,aA,cA,nA,tZ,and_true,Nd.cells,zeroNd]
   exact ⟨by omega,rfl,_,v2,v3,v4,by omega,rfl⟩
def QEX (f:Nat) (L:List Nd) (x:Int):Option GR:=if inG L x then QqW f (Qdo L 0).2 16 x (Qdo L 0).1 else some (-1,L)
theorem Qmk (hok:okN L) (h:QqW f L op x y=some r):L.length≤r.2.length∧okN r.2∧L <+: r.2:=by
 unfold QqW at h
 split at h
 ·rename_i h1
  have k:=(QnL f _ _ _ _ _ hok h1.1 h1.2.1 h1.2.2 h).1
  exact ⟨QfU k.pre,k.ok,k.pre⟩
 ·cases h; exact ⟨lR _,hok,List.prefix_rfl⟩
theorem QSn (hT:Qf P tab) (F:Fmt P G) (hP:Bits P G) (f:Nat) {ex:List (Option Ob)} (hok:okN L) (hr:r.2.length≤1000000) (h:QEX f L x=some r) :
 C P G 0 QoZ [.ptr 1 v0 0,.int .i64 x] ⟨t,kG F.fmt v0 v1 v2 v3 v4 L++ex⟩ (Qc1 F.fmt r v0 v1 ex t):=by
 refine Qi (5+ex.length) (zL _) (Qk hT QgK (by simp [Qiz]) (Qg 1000 ?_))
 have i0:i64 0:=by unfold i64; omega
 unfold QEX at h
 refine ya ?_
 refine call hT QF (Qgn hT) 1000 fun v σ hv=>?_
 obtain ⟨rfl,t1,ht1,rfl⟩:=hv
 by_cases hx:inG L x
 ·have hx':0≤x∧x<L.length:=hx
  have e:L.getD x.toNat zeroNd=nd L x:=rfl
  rw [if_pos hx',e]
  rw [if_pos hx] at h
  generalize nd L x=d at *
  obtain ⟨h1,h2⟩:=Qbk (S:=[]) (C:=[]) hok i0
  have l1:=QfU h1.pre
  have l2:=(Qmk h1.ok h).1
  simp -implicitDefEqProofs (disch:=omega) only [go_sem,↓reduceIte,reduceCtorEq,rA,rq,rT,Qh,XI,QcS,lA,lC,lN,aA,cA,nA,tZ,and_true,Nd.cells]
  refine call hT Qah (Qnk hT F i0 (by omega)) 1000 fun v σ hv=>?_
  obtain ⟨rfl,t2,w2,w3,w4,ht2,rfl⟩:=hv
  refine ya ?_
  refine call hT Qcn (QCz hT F hP f h1.ok (by omega) hr h) 1000 fun v σ hv=>?_
  obtain ⟨rfl,t3,z2,z3,z4,ht3,rfl⟩:=hv
  simp -implicitDefEqProofs (disch:=omega) only [go_sem,↓reduceIte,reduceCtorEq,rq,Qh,Qx,lA,lC,lN]
  exact ⟨by omega,rfl,t3,z2,z3,z4,by omega,rfl⟩
 ·have hx':¬ (0≤x∧x<L.length):=hx
  rw [if_neg hx] at h
  cases h
  rw [if_neg hx']
  simp -implicitDefEqProofs (disch:=omega) only [go_sem,↓reduceIte,reduceCtorEq,rA,rq,rT,Qh,XI,QcS,Qx,lA,lC,lN,aA,cA,nA,tZ,and_true,Nd.cells,zeroNd]
  exact ⟨by omega,rfl,_,v2,v3,v4,by omega,rfl⟩
end
section
attribute [local go_sem] lR zA Qiy zqm_0 zqm_1
def symN (L:List Nd) (k:Int):GR:=addN L ⟨2,k,0,0,0,0⟩
variable {t:Nat}
theorem k_Sym (hT:Qf P tab) (F:Fmt P G) {v0 v1 v2 v3 v4:Nat} {L:List Nd} {ex:List (Option Ob)} {n:Int} (hn:i64 n) (hL:L.length≤1000000) :
 C P G 0 QjG [.ptr 1 v0 0,.int .i64 n] ⟨t,kG F.fmt v0 v1 v2 v3 v4 L++ex⟩ (Qc1 F.fmt (symN L n) v0 v1 ex t):=by
 refine Qk hT QoM (by simp [Qiy]) (Qg 1000 ?_)
 refine yl ?_
 refine call hT Qz (QjO hT F ⟨2,n,0,0,0,0⟩ hL hn (show i64 0 by unfold i64; omega)) 1000 fun v σ hv=>?_
 obtain ⟨rfl,t',v2',v3',v4',ht,rfl⟩:=hv
 refine ya ?_
 exact ⟨rfl,t',v2',v3',v4',ht,rfl⟩
theorem k_New (hT:Qf P tab) (fmt:Int→List UInt8) :
 C P G 0 QjB [] ⟨t,[]⟩ fun v σ=>∃ v0 v1 v2 v3 v4 t',t≤t'∧v=.ptr 1 v0 0∧σ=⟨t',kG fmt v0 v1 v2 v3 v4 []++[]⟩:=by
 refine (c_New hT (zL _)).conseq fun v σ hv=>?_
 obtain ⟨v0,v1,v2,v3,v4,t1,i1,i2,i3,i4,ht1,rfl,rfl,rfl,rfl,rfl,rfl⟩:=hv
 exact ⟨v0,v1,v2,v3,v4,t1,ht1,rfl,rfl⟩
end
section
attribute [local go_sem] nF nT lA aZ Nat.mul_one Nat.succ_ne_zero zA beq_self_eq_true decide_false decide_true Qu Xc QNM QNL QAl QAk QAj QNK QNJ QNI QNH QNG QNF QNE QND Xj QK6 QK5 QK4 QK3 QK2 QK1 QK0 QKZ
def ints (c:List Int):List V:=c.map (V.int .i64)
theorem XA (c:List Int):(ints c).length=c.length:=by simp [ints]
variable {n:Int} {i k base t w:Nat} {c:List Int}
theorem QFn (h:c[i]?=some n):(ints c)[i]?=some (.int .i64 n):=by simp [ints,h]
theorem QCI (h:c[i]?=some n):(ints c).getD i V.any=.int .i64 n:=by simp [ints,List.getD_eq_getElem?_getD,h]
theorem Qir:∀ c:List Int,Qb (ints c)=true
 | []=>rfl
 | n::c=>by have:=Qir c; simpa [ints,Qb,Qd] using this
theorem Qe9 {n:Nat} (h:i<n) (hn:n≤9223372036854775807):IntKind.i64.wrap ((i:Int)+1)=((i+1:Nat):Int):=by
 rw [Qas]
 ·omega
 ·simp [IntKind.min,IntKind.signed,IntKind.bits]; omega
 ·simp [IntKind.max,IntKind.signed,IntKind.bits]; omega
def Tells (P:Program) (G:Nat→Option V) (base:Nat) (f:V) (o:List (Option Ob)) (p:Int→Bool) (c:List Int):Prop :=
 ∀ t n,n∈c→CV P G base f [.int .i64 n] ⟨t,o⟩ fun v σ=>v=.bool (p n)∧∃ t',t≤t'∧σ=⟨t',o⟩
def QiS (p:Int→Bool):List Int→Nat→Int
 | [],_=>-1
 | n::c,i=>if p n then i else QiS p c (i+1)
theorem QjR {p:Int→Bool}:∀ {c:List Int} {i:Nat},(∀ n∈c,p n=false)→QiS p c i=-1
 | [],_,_=>rfl
 | n::c,i,h=>by rw [QiS,h n (by simp),if_neg (by simp),QjR fun m hm=>h m (by simp [hm])]
theorem Qnn {p:Int→Bool}:∀ {c:List Int} {i k:Nat} {n:Int},(∀ m∈c.take k,p m=false)→c[k]?=some n→p n=true→QiS p c i=((i+k:Nat):Int)
 | [],_,_,_,_,h,_=>by simp at h
 | m::c,i,0,n,_,h,hp=>by simp at h; subst h; simp [QiS,hp]
 | m::c,i,k+1,n,h,hk,hp=>by
   rw [QiS,h m (by simp),if_neg (by simp),Qnn (k:=k) (fun m hm=>h m (by simp [hm])) (by simpa using hk) hp]
   congr 1; omega
theorem QdT {α:Type} {l:List α} {x:α} (h:l[k]?=some x):l.take (k+1)=l.take k++[x]:=by rw [List.take_add_one,h]; rfl
theorem QxB (cs:List V) (h:c[i]?=some n):(ints c++cs).getD i V.any=.int .i64 n:=by
 have hl:=(List.getElem?_eq_some_iff.1 h).1
 rw [List.getD_eq_getElem?_getD,List.getElem?_append_left (by rw [XA]; exact hl),QFn h]; rfl
variable {cs:List V} {p:Int→Bool} {o:List (Option Ob)}
theorem Qtl (hT:Qf P tab) {f:V} (hp:Tells P G base f o p c) (hl:c.length≤9223372036854775807) {T:Nat} {lim:Option Nat} (ho:o[k]?=some (some (.arr w T (ints c++cs)))) :
 C P G base ZE [.sl k w 0 1 c.length lim,f] ⟨t,o⟩ fun v σ=>v=.int .i64 (QiS p c 0)∧∃ t',t≤t'∧σ=⟨t',o⟩:=by
 refine Qk hT ZB (by simp [Xj]) (Qg 1000 ?_)
 refine ya ?_
 refine Qdm (fun m fr σ=>∃ i t',i≤c.length∧m=c.length - i∧(∀ n∈c.take i,p n=false)∧t≤t'∧Ql fr 0=.sl k w 0 1 c.length lim∧Ql fr 1=f∧Ql fr 7=.int .i64 c.length∧Ql fr 8=.int .i64 i∧σ=⟨t',o⟩)
  (fun e fr σ=>∃ t',t≤t'∧σ=⟨t',o⟩∧((e=.ret∧Ql fr 4=.int .i64 (QiS p c 0))∨(e=.ex 0∧QiS p c 0=-1)))
  (m0:=c.length) ⟨0,t,by omega,rfl,by simp,by omega,?_⟩ (fun m fr σ hJ=>?_) (fun e fr σ hE=>?_)
 ·refine ya ?_
  simp
 ·obtain ⟨i,t',hi,rfl,hno,ht,f0,f1,f7,f8,rfl⟩:=hJ
  refine Qg 1000 ?_
  rcases Nat.lt_or_ge i c.length with hlt | hge
  ·obtain ⟨n,hni⟩:∃ n,c[i]?=some n:=⟨_,List.getElem?_eq_getElem hlt⟩
   have hD:=QxB cs hni
   have e2:=Qe9 hlt hl
   simp -implicitDefEqProofs (disch:=omega) only [go_sem,↓reduceIte,reduceCtorEq,rq,XA,ho,f0,f1,f7,f8,hlt,hD]
   refine CV.use 1000 (hp t' n (List.mem_of_getElem? hni)) fun v σ hv=>?_
   obtain ⟨rfl,t2,ht2,rfl⟩:=hv
   cases hpn:p n with
   | true =>
     refine ya ?_
     rw [Qnn hno hni hpn]
     exact ⟨t2,by omega,rfl,by simp⟩
   | false =>
     refine yx ?_
     refine ⟨c.length - (i+1),_,_,by omega,Shift.refl _ _ _ _,i+1,t2,by omega,rfl,fun m hm=>?_,by omega,?_⟩
     ·rw [QdT hni] at hm
      simp at hm
      rcases hm with hm | rfl
      ·exact hno m hm
      ·exact hpn
     ·simp -implicitDefEqProofs (disch:=omega) only [go_sem,↓reduceIte,reduceCtorEq,rq,f0,f1,f7,e2]
  ·have hi:i=c.length:=by omega
   subst hi
   simp -implicitDefEqProofs (disch:=omega) only [go_sem,↓reduceIte,reduceCtorEq,rq,f7,f8,Nat.lt_irrefl]
   rw [List.take_length] at hno
   exact ⟨t',ht,rfl,QjR hno⟩
 ·obtain ⟨t',ht,rfl,hE⟩:=hE
  rcases hE with ⟨rfl,f4⟩ | ⟨rfl,hh⟩
  ·refine Qa 1000 ?_
   refine yv ?_
   exact ⟨t',ht,rfl⟩
  ·refine Qa 1000 ?_
   simp -implicitDefEqProofs (disch:=omega) only [go_sem,↓reduceIte,hh]
   exact ⟨t',ht,rfl⟩
theorem XP:∀ {a b:List V},Qb (a++b)=(Qb a&&Qb b)
 | [],b=>by simp [Qb]
 | x::a,b=>by simp [Qb,XP (a:=a) (b:=b),Bool.and_assoc]
theorem Qwd {α:Type} (o:List α) (x y:α):(o++[x]).set o.length y=o++[y]:=by simp
theorem QwO {p:Int→Bool}:∀ {c:List Int},¬ (∀ n∈c,p n=false)→∃ k n,c[k]?=some n∧p n=true∧∀ m∈c.take k,p m=false
 | [],h=>absurd (by simp) h
 | a::c,h=>by
   cases ha:p a with
   | true=>exact ⟨0,a,rfl,ha,by simp⟩
   | false =>
     obtain ⟨k,n,h1,h2,h3⟩:=QwO (c:=c) fun hh=>h fun n hn=>by
      simp only [List.mem_cons] at hn
      rcases hn with rfl | hn
      ·exact ha
      ·exact hh n hn
     exact ⟨k+1,n,by simpa using h1,h2,fun m hm=>by
      simp only [tSq,List.mem_cons] at hm
      rcases hm with rfl | hm
      ·exact ha
      ·exact h3 m hm⟩
theorem filter_all (h:∀ m∈c,p m=false):c.filter (fun n=>!p n)=c:=List.filter_eq_self.2 fun n hn=>by simp [h n hn]
theorem Qtm (hT:Qf P tab) {g:Nat} {cap:List V} (hcs:Qb cs=true) (hb:base≤o.length) (hp:∀ w' cells,Tells P G base (.fn (.func g) [] cap) (o++[some (.arr w' 3 cells)]) p c) (hl:c.length≤1000000) :
 C P G base Zk [.sl o.length w 0 1 c.length none,.fn (.func g) [] cap] ⟨t,o++[some (.arr w 3 (ints c++cs))]⟩ fun v σ=>∃ t' cells,t≤t'∧Qb cells=true∧v=.sl o.length w 0 1 (c.filter fun n=>!p n).length none∧σ=⟨t',o++[some (.arr w 3 (ints (c.filter fun n=>!p n)++cells))]⟩:=by
 refine Qk hT Zf (by simp [Xc]) (Qg 1000 ?_)
 refine ya ?_
 refine call hT ZB (Qtl hT (hp _ _) (by omega) (k:=o.length) (w:=w) (T:=3) (cs:=cs) (by simp)) 1000 fun v σ hv=>?_
 obtain ⟨rfl,t1,ht1,rfl⟩:=hv
 by_cases hn:∀ n∈c,p n=false
 ·rw [QjR hn]
  have hf:c.filter (fun n=>!p n)=c:=List.filter_eq_self.2 fun n h=>by simp [hn n h]
  rw [hf]
  refine ya ?_
  exact ⟨t1,cs,ht1,hcs,rfl,by simp⟩
 ·obtain ⟨k,n,hk,hpn,hno⟩:∃ k n,c[k]?=some n∧p n=true∧∀ m∈c.take k,p m=false:=QwO hn
  have hkl:=(List.getElem?_eq_some_iff.1 hk).1
  rw [Qnn hno hk hpn,zA]
  have e1:=Qe9 hkl (by omega)
  have hk1:((k:Int)==-1)=false:=by rw [beq_eq_false_iff_ne]; omega
  simp -implicitDefEqProofs (disch:=omega) only [go_sem,↓reduceIte,reduceCtorEq,rq,hk1,e1]
  refine Qdm (fun m fr σ=>∃ j t' L q,q=(c.take j).filter (fun n=>!p n)∧j≤c.length∧m=c.length - j∧q.length<j∧L.length=c.length∧L.take q.length=ints q∧L.drop j=ints (c.drop j)∧t≤t'∧Ql fr 0=.sl o.length w 0 1 c.length none∧Ql fr 1=.fn (.func g) [] cap∧Ql fr 5=.int .i64 q.length∧Ql fr 6=.int .i64 j∧σ=⟨t',o++[some (.arr w 3 (L++cs))]⟩)
   (fun e fr σ=>∃ t' L q,q=c.filter (fun n=>!p n)∧t≤t'∧e=.ex 0∧q.length<c.length∧L.length=c.length∧L.take q.length=ints q∧Ql fr 0=.sl o.length w 0 1 c.length none∧Ql fr 1=.fn (.func g) [] cap∧Ql fr 5=.int .i64 q.length∧σ=⟨t',o++[some (.arr w 3 (L++cs))]⟩)
   (m0:=c.length - (k+1)) ⟨k+1,t1,ints c,c.take k,?_,by omega,rfl,?_,XA c,?_,?_,ht1,?_⟩ (fun m fr σ hJ=>?_) (fun e fr σ hE=>?_)
  ·rw [QdT hk,List.filter_append,filter_all hno]
   simp [hpn]
  ·simp; omega
  ·rw [List.length_take,Nat.min_eq_left (by omega)]; simp [ints,List.map_take]
  ·simp [ints,List.map_drop]
  ·simp -implicitDefEqProofs (disch:=omega) only [go_sem,↓reduceIte,reduceCtorEq,rq,List.length_take,Nat.min_eq_left (Nat.le_of_lt hkl)]
   try simp
  ·obtain ⟨j,t',L,q,hq,hj,rfl,hij,hL,hL1,hL2,ht,f0,f1,f5,f6,rfl⟩:=hJ
   refine Qg 1000 ?_
   rcases Nat.lt_or_ge j c.length with hlt | hge
   ·obtain ⟨n,hnj⟩:∃ n,c[j]?=some n:=⟨_,List.getElem?_eq_getElem hlt⟩
    have hD:(L++cs).getD j V.any=.int .i64 n:=by
     rw [List.getD_eq_getElem?_getD,List.getElem?_append_left (by omega),← List.getD_eq_getElem?_getD]
     have:=congrArg (fun l=>l[0]?) hL2
     simp only [List.getElem?_drop,aZ,ints,List.map_drop,List.getElem?_map,hnj] at this
     rw [List.getD_eq_getElem?_getD,this]; rfl
    have hdn:L.drop (j+1)=ints (c.drop (j+1)):=by
     rw [← List.drop_drop,hL2]; simp only [ints,List.map_drop,List.drop_drop]
    have e2:=Qe9 hlt (by omega)
    have e3:=Qe9 (i:=q.length) (n:=c.length) (by omega) (by omega)
    simp -implicitDefEqProofs (disch:=omega) only [go_sem,↓reduceIte,reduceCtorEq,rq,List.getElem?_concat_length,f0,f1,f6,hlt,hD,hL]
    refine CV.use 1000 (hp w (L++cs) t' n (List.mem_of_getElem? hnj)) fun v σ hv=>?_
    obtain ⟨rfl,t2,ht2,rfl⟩:=hv
    cases hpn:p n with
    | true =>
      simp -implicitDefEqProofs (disch:=omega) only [go_sem,↓reduceIte,rq,f6,e2]
      refine ⟨c.length - (j+1),_,_,by omega,Shift.refl _ _ _ _,j+1,t2,L,q,?_,by omega,rfl,by omega,hL,hL1,hdn,by omega,?_⟩
      ·rw [QdT hnj,List.filter_append,← hq]; simp [hpn]
      ·simp -implicitDefEqProofs (disch:=omega) only [go_sem,↓reduceIte,reduceCtorEq,rq,f0,f1,f5]
    | false =>
      simp -implicitDefEqProofs (disch:=omega) only [go_sem,↓reduceIte,reduceCtorEq,rq,List.getElem?_concat_length,Qwd,f0,f5,f6,hL]
      have hql:q.length<L.length:=by omega
      have hset:(L++cs).take q.length++[V.int .i64 n]++(L++cs).drop (q.length+1)=L.set q.length (.int .i64 n)++cs:=by
       rw [← List.set_append_left _ _ hql,List.set_eq_take_append_cons_drop,if_pos (by rw [lA]; omega)]; simp
      refine ⟨c.length - (j+1),_,_,by omega,Shift.refl _ _ _ _,j+1,t2,L.set q.length (.int .i64 n),q++[n],?_,by omega,rfl,?_,?_,?_,?_,by omega,?_⟩
      ·rw [QdT hnj,List.filter_append,← hq]; simp [hpn]
      ·simp; omega
      ·simpa using hL
      ·rw [lA,List.length_singleton,QdT (x:=V.int .i64 n) (by simp [hql]),List.take_set_of_le (lR _),hL1]; simp [ints]
      ·rw [List.drop_set_of_lt (by omega)]; exact hdn
      ·simp -implicitDefEqProofs (disch:=omega) only [go_sem,↓reduceIte,reduceCtorEq,rq,f0,f1,e2,e3,List.length_singleton,hset]
   ·have hi:j=c.length:=by omega
    subst hi
    simp -implicitDefEqProofs (disch:=omega) only [go_sem,↓reduceIte,reduceCtorEq,rq,f0,f1,f5,f6,Nat.lt_irrefl]
    rw [List.take_length] at hq
    exact ⟨t',L,q,hq,ht,hij,hL,hL1,rfl,rfl,rfl⟩
  ·obtain ⟨t',L,q,hq,ht,rfl,hlt,hL,hL1,f0,f1,f5,rfl⟩:=hE
   refine Qa 1000 ?_
   simp -implicitDefEqProofs (disch:=omega) only [go_sem,↓reduceIte,rq,f0,f5]
   simp only [evW]
   simp -implicitDefEqProofs (disch:=omega) only [go_sem,↓reduceIte,reduceCtorEq,rq,List.getElem?_concat_length,Qwd,f0,f5,hL]
   have hrep:(List.replicate (c.length - q.length) [V.int .i64 0]).flatten=ints (List.replicate (c.length - q.length) 0):=by
    generalize c.length - q.length=k
    induction k with
    | zero=>rfl
    | succ k ih=>rw [List.replicate_succ,List.flatten_cons,ih,List.replicate_succ]; rfl
   have hdr:(L++cs).drop (q.length+(ints (List.replicate (c.length - q.length) 0)).length)=cs:=by
    rw [XA,List.length_replicate,show q.length+(c.length - q.length)=L.length by omega,List.drop_left]
   have htk:(L++cs).take q.length=ints q:=by rw [List.take_append_of_le_length (by omega),hL1]
   exact ⟨t',ints (List.replicate (c.length - q.length) 0)++cs,ht,by rw [XP,Qir,hcs]; rfl,by rw [← hq]; rfl,rfl,by rw [htk,← hq,hrep,hdr,aA]⟩
end
end Go.Proofs.YtbdhjeojcpgblaaGreatDoor
namespace Go.Rg
open Go Go.Am Go.Rv
set_option maxRecDepth 100000
set_option maxHeartbeats 2000000
def nth (c:List In) (i:Int):Option In:=if i<0 then none else c[i.toNat]?
def isI (c:List In) (i:Int) (x:In):Bool:=decide (nth c i=some x)
def QoC (rd rs n:Int):In:=⟨22,rd,rs,0,n⟩
def jr:In:=⟨4,0,1,0,0⟩
def QwT:In:=⟨64,0,0,0,0⟩
def Qbj (c:List In) (F i:Int):Bool:=decide (0<F)&&(isI c i (QoC 2 2 F)&&isI c (i+1) jr)
def ret (c:List In) (F i:Int):Bool:=isI c i jr&&(decide (F=0) || Qbj c F (i - 1))
def Z6 (x:In):Bool:=decide (5≤x.op)&&decide (x.op≤10)
def Qbw (x:In):Bool:=Z6 x || (decide (x.op=3)&&decide (x.rd=0))
def tgt (x:In) (i:Int):Int:=i+x.imm.tdiv 4
def QPY (i:Int):Nat→List In→Bool
 | _,[]=>false
 | k,x::l=>(Qbw x&&decide (tgt x k=i)) || QPY i (k+1) l
def asksI (c:List In) (i:Int):Bool:=(isI c (i - 1) (QoC 17 0 3) || isI c (i - 1) (QoC 17 0 4))&&isI c i QwT
def ends (c:List In) (i:Int):Bool:=asksI c i&&!QPY i 0 c
def two (a b:Int):List Int:=if a<b then [a,b] else if b<a then [b,a] else [a]
def ways (x:In) (i:Int):List Int:=if Z6 x then two (tgt x i) (i+1) else if Qbw x then [tgt x i] else [i+1]
def next (c:List In) (F i:Int):List Int :=
 match nth c i with
 | none=>[]
 | some x=>if ret c F i || ends c i then [] else (ways x i).filter fun k=>!(decide (k<0) || decide (c.length≤k))
variable {c:List In}
theorem QpO {k:Nat}:nth c (k:Int)=c[k]?:=by
 unfold nth; rw [if_neg (by omega)]; rfl
variable {i F k:Int}
theorem Qwo {x:In} (h:nth c i=some x):∃ k:Nat,i=k∧c[k]?=some x:=by
 unfold nth at h
 split at h
 ·cases h
 ·exact ⟨i.toNat,by omega,h⟩
theorem QBu (a b:Int):(two a b).Nodup:=by
 unfold two; split
 ·simp; omega
 ·split
  ·simp; omega
  ·simp
theorem Qxa (x:In) (i:Int):(ways x i).Nodup:=by
 unfold ways; split
 ·exact QBu _ _
 ·split <;> simp
theorem QoU (c:List In) (F i:Int):(next c F i).Nodup:=by
 unfold next; split
 ·simp
 ·split
  ·simp
  ·exact (Qxa _ _).filter _
theorem QCd (h:k∈next c F i):0≤k∧k<c.length:=by
 unfold next at h; split at h
 ·simp at h
 ·split at h
  ·simp at h
  ·have:=(List.mem_filter.1 h).2
   simp at this; omega
theorem QR9 {a b:Int}:k∈two a b↔k=a∨k=b:=by
 unfold two; split
 ·simp
 ·split
  ·simp; omega
  ·simp; omega
theorem QrO (h:k∈next c F i):∃ x,nth c i=some x∧((Qbw x=true∧k=tgt x i)∨k=i+1):=by
 unfold next at h; split at h
 ·simp at h
 ·rename_i x hx
  refine ⟨x,hx,?_⟩
  split at h
  ·simp at h
  ·have:=(List.mem_filter.1 h).1
   unfold ways at this
   split at this
   ·rename_i hb
    rcases QR9.1 this with h | h
    ·exact .inl ⟨by simp [Qbw,hb],h⟩
    ·exact .inr h
   ·split at this
    ·rename_i hj; simp at this; exact .inl ⟨hj,this⟩
    ·simp at this; exact .inr this
def Qat (c:List In) (F:Int) (n:Nat) (k:Int):Nat:=(List.range n).countP fun i:Nat=>decide (k∈next c F (i:Int))
def cuts (c:List In) (F:Int):List Int:=((List.range c.length).filter fun k:Nat=>decide (1<Qat c F c.length (k:Int))).map fun k:Nat=>(k:Int)
theorem Qwt:k∈cuts c F↔0≤k∧k<c.length∧1<Qat c F c.length k:=by
 unfold cuts
 simp only [List.mem_map,List.mem_filter,List.mem_range,decide_eq_true_eq]
 constructor
 ·rintro ⟨a,⟨h1,h2⟩,rfl⟩; omega
 ·rintro ⟨h1,h2,h3⟩
  refine ⟨k.toNat,⟨by omega,?_⟩,by omega⟩
  rw [show ((k.toNat:Nat):Int)=k by omega]; exact h3
theorem Qph {n:Nat} {p:Nat→Bool} {a b:Nat} (ha:a<n) (hb:b<n) (hab:a<b) (pa:p a=true) (pb:p b=true):1<(List.range n).countP p:=by
 have h1:List.range n=List.range (a+1)++(List.range (n - (a+1))).map (a+1+·):=by
  rw [← List.range_add]; congr 1; omega
 rw [h1,List.countP_append]
 have h2:0<(List.range (a+1)).countP p:=List.countP_pos_iff.2 ⟨a,by simp,pa⟩
 have h3:0<((List.range (n - (a+1))).map (a+1+·)).countP p:=List.countP_pos_iff.2 ⟨b,by simp; exact ⟨b - (a+1),by omega,by omega⟩,pb⟩
 omega
theorem QCc (h:k∈next c F i):0≤i∧i<c.length:=by
 obtain ⟨x,hx,_⟩:=QrO h
 obtain ⟨j,rfl,hj⟩:=Qwo hx
 have:=(List.getElem?_eq_some_iff.1 hj).1
 omega
theorem QRP {j:Int} (h:k ∉ cuts c F) (hi:k∈next c F i) (hj:k∈next c F j):i=j:=by
 have b1:=QCc hi
 have b2:=QCc hj
 have bk:=QCd hi
 by_cases hij:i=j
 ·exact hij
 exfalso
 apply h
 refine Qwt.2 ⟨bk.1,bk.2,?_⟩
 have ei:((i.toNat:Nat):Int)=i:=by omega
 have ej:((j.toNat:Nat):Int)=j:=by omega
 rcases Int.lt_or_gt_of_ne hij with hl | hl <;> unfold Qat
 ·exact Qph (a:=i.toNat) (b:=j.toNat) (by omega) (by omega) (by omega) (by rw [decide_eq_true_eq,ei]; exact hi) (by rw [decide_eq_true_eq,ej]; exact hj)
 ·exact Qph (a:=j.toNat) (b:=i.toNat) (by omega) (by omega) (by omega) (by rw [decide_eq_true_eq,ej]; exact hj) (by rw [decide_eq_true_eq,ei]; exact hi)
def Way (c:List In) (F:Int):List Int→Prop
 | []=>False
 | [_]=>True
 | b::a::l=>b∈next c F a∧Way c F (a::l)
theorem QEo (h0:∀ i,(0:Int) ∉ next c F i):∀ (l:List Int) (s:Int),Way c F (l++[s])→(∀ x∈l,x ∉ cuts c F)→(s=0∨s∈cuts c F)→(l++[s]).Nodup:=by
 intro l s
 induction l with
 | nil=>intro _ _ _; simp
 | cons b l ih =>
   intro hw hn hs
   have hw':Way c F (l++[s]):=by
    cases l with
    | nil=>trivial
    | cons a l=>exact hw.2
   have ih':=ih hw' (fun x hx=>hn x (List.mem_cons_of_mem _ hx)) hs
   rw [cA,List.nodup_cons]
   refine ⟨fun hb=>?_,ih'⟩
   -- b stands again behind
   have key:∀ (m:List Int) (b:Int),Way c F (b::(m++[s]))→b ∉ cuts c F→(∀ x∈m,x ∉ cuts c F)→(m++[s]).Nodup→b∈m++[s]→False:=by
    intro m b hw hbn hmn hnd hbm
    -- b's way in: from the head of m ++ [s]
    obtain ⟨a,r,har⟩:∃ a r,m++[s]=a::r:=by cases m <;> simp
    have hba:b∈next c F a:=by rw [har] at hw; exact hw.1
    -- where b stands in m ++ [s], what stands behind it there
    obtain ⟨u,v,huv⟩:=List.append_of_mem hbm
    have hwt:∀ (u:List Int) {x:Int} {v:List Int},Way c F (u++x::v)→Way c F (x::v):=by
     intro u
     induction u with
     | nil=>intro x v h; exact h
     | cons y u ih =>
       intro x v h
       cases u with
       | nil=>exact h.2
       | cons z u=>exact ih h.2
    have hw2:Way c F (m++[s]):=by rw [har] at hw ⊢; exact hw.2
    rw [huv] at hw2
    have hw3:=hwt u hw2
    cases v with
    | nil =>
      -- b is the start
      have hbs:b=s:=by
       have:=congrArg List.getLast? huv
       simpa using this.symm
      subst hbs
      rcases hs with rfl | hs
      ·exact h0 _ hba
      ·exact hbn hs
    | cons a' v =>
      have ha':b∈next c F a':=hw3.1
      have:a=a':=QRP hbn hba ha'
      subst this
      -- a stands at the head, and behind b as well: not once
      rw [har] at huv
      have hnd':(a::r).Nodup:=har▸hnd
      cases u with
      | nil =>
        injection huv with e1 e2
        subst e1 e2
        simp at hnd'
      | cons z u =>
        injection huv with e1 e2
        subst e1
        rw [List.nodup_cons] at hnd'
        exact hnd'.1 (by rw [e2]; simp)
   exact key l b hw (hn b (by simp)) (fun x hx=>hn x (List.mem_cons_of_mem _ hx)) ih' hb
end Go.Rg
namespace Go.Rv
open Go Go.Am
set_option maxHeartbeats 2000000
def rro (op:Int):RR:=if 1≤op∧op≤65 then T.getD (op.toNat - 1) ⟨0,[],0,0,0⟩ else ⟨0,[],0,0,0⟩
def wrs (x:In):Int × Bool:=if (enc T x).2=0∧Zt (rro x.op).form=true∧x.rd≠0 then (x.rd,true) else (0,false)
def Qhi (a b:Int):List Int:=(if 0<min a b then [min a b] else [])++(if min a b<max a b then [max a b] else [])
def rds (x:In):List Int:=if (enc T x).2=0 then Qhi x.rs1 x.rs2 else []
end Go.Rv
namespace Go.Rg
open Go Go.Am Go.Rv
set_option maxRecDepth 100000
set_option maxHeartbeats 2000000
def Qpr:In:=⟨0,0,0,0,0⟩
def QBY (x:In):Bool:=(decide (1≤x.op)&&decide (x.op≤10)) || ((decide (22≤x.op)&&decide (x.op≤49)) || ((decide (54≤x.op)&&decide (x.op≤62)) || decide (x.op∈[(14:Int),21,50,64])))
def Qdy (c:List In) (F:Int) (i:Nat) (x:In):Bool :=
 (decide (i=0)&&decide (0<F)) || Qbj c F i || (!decide (wrs x=(2,true))&&(!decide ((2:Int)∈rds x) || (if x.op=14 then true else if x.op=21∨x.op=10 then decide (x.rs2≠2) else false)))
def Zp (ats:List Int) (pl:Int) (c:List In) (F:Int) (i:Nat) (x:In):Bool :=
 if Qbw x then decide (x.imm.tmod 4=0)&&(decide (0<tgt x i)&&(decide (tgt x i<c.length)&&!(decide (0<F)&&ret c F (tgt x i))))
 else if x.op=3 then decide (x.rd=1)&&decide (pl+4 * i+x.imm∈ats) else true
def Qk0 (c:List In) (F:Int) (i:Nat) (x:In):Bool:=decide (x.op≠4) || ret c F i
def YG (ats:List Int) (pl:Int) (c:List In) (F:Int) (i:Nat) (x:In):Int :=
 if QBY x=false then 220 else if Qdy c F i x=false then 221 else if Zp ats pl c F i x=false then 222 else if Qk0 c F i x=false then 223 else 0
def QjS (x:In):Int:=if x.op=22∧x.rd=2∧x.rs1=2∧8≤-x.imm∧-x.imm≤1984∧(-x.imm).tmod 8=0 then -x.imm else 0
structure Good (ats:List Int) (pl:Int) (c:List In) (F:Int):Prop where
 frame:F=QjS (c.getD 0 Qpr)
 may:∀ (i:Nat) (x:In),c[i]?=some x→YG ats pl c F i x=0
variable {c:List In} {pl F:Int}
theorem Qsf {ats:List Int} {i:Nat} {x:In}:YG ats pl c F i x=0↔QBY x=true∧Qdy c F i x=true∧Zp ats pl c F i x=true∧Qk0 c F i x=true:=by
 unfold YG
 cases QBY x <;> cases Qdy c F i x <;> cases Zp ats pl c F i x <;> cases Qk0 c F i x <;> simp
theorem Good.first {ats:List Int} (h:Good ats pl c F):∀ i,(0:Int) ∉ next c F i:=fun i hi=>by
 obtain ⟨x,hx,hk⟩:=QrO hi
 obtain ⟨k,rfl,hk'⟩:=Qwo hx
 rcases hk with ⟨hj,ht⟩ | ht
 ·have:=(Qsf.1 (h.may k x hk')).2.2.1
  unfold Zp at this
  rw [if_pos hj] at this
  simp only [Bool.and_eq_true,decide_eq_true_eq] at this
  omega
 ·omega
structure Im where
 data:Int
 syms:List (List UInt8 × Int)
 code:List Int
structure Fn where
 name:List UInt8
 pl:Int
 code:List In
 frame:Int
 cuts:List Int
def Qes (code:Nat) (names:List (List UInt8)) (last:Int) (s:List UInt8 × Int):Bool :=
 decide (1≤s.1.length)&&(decide (s.1.length≤64)&&(!decide (s.1∈names)&&(decide (last<s.2)&&(decide (s.2.tmod 4=0)&&decide (s.2<4 * code)))))
def QdX (code:Nat):List (List UInt8)→Int→List (List UInt8 × Int)→Bool
 | _,_,[]=>true
 | names,last,s::l=>Qes code names last s&&QdX code (names++[s.1]) s.2 l
def right (m:Im):Bool :=
 (decide (0≤m.data)&&(decide (m.data≤524288)&&decide (m.data.tmod 8=0)))&&((decide (1≤m.code.length)&&decide (m.code.length≤262144)) &&
  ((decide (1≤m.syms.length)&&(decide (m.syms.length≤65)&&decide ((m.syms.map (·.2)).head?=some 0)))&&QdX m.code.length [] (-1) m.syms))
def ats (m:Im):List Int:=m.syms.map (·.2)
def from_ (m:Im) (n:Nat):Int:=(ats m).getD n 0
def to_ (m:Im) (n:Nat):Int:=if n+1<m.syms.length then (ats m).getD (n+1) 0 else 4 * m.code.length
def words (m:Im) (n:Nat):List Int:=(m.code.drop ((from_ m n).tdiv 4).toNat).take (((to_ m n).tdiv 4).toNat - ((from_ m n).tdiv 4).toNat)
def dec (w:Int):Option In:=first w 0 T
def codeOf (ws:List Int):List In:=ws.map fun w=>(dec w).getD Qpr
def YY (ats:List Int) (pl:Int) (c:List In) (F:Int):Nat→List Int→Option (Nat × Int)
 | _,[]=>none
 | i,w::l=>match dec w with
   | none=>some (i,220)
   | some x=>if YG ats pl c F i x≠0 then some (i,YG ats pl c F i x) else YY ats pl c F (i+1) l
def frameC (c:List In):Int:=QjS (c.getD 0 Qpr)
def QyG (name:List UInt8) (pl:Int) (ws:List Int):Fn:=⟨name,pl,codeOf ws,frameC (codeOf ws),cuts (codeOf ws) (frameC (codeOf ws))⟩
def Qis (ats:List Int) (name:List UInt8) (pl:Int) (ws:List Int):Fn ⊕ (Nat × Int) :=
 match YY ats pl (codeOf ws) (frameC (codeOf ws)) 0 ws with
 | none=>.inl (QyG name pl ws)
 | some e=>.inr e
def readAll (m:Im):Nat→List (List UInt8 × Int)→List Fn ⊕ (Nat × Nat × Int)
 | _,[]=>.inl []
 | n,s::l=>match Qis (ats m) s.1 s.2 (words m n) with
   | .inr (i,e)=>.inr (n,i,e)
   | .inl f=>match readAll m (n+1) l with
     | .inl r=>.inl (f::r)
     | .inr e=>.inr e
def ofS (m:Im):List Fn ⊕ (Nat × Nat × Int):=if right m then readAll m 0 m.syms else .inr (0,0,2)
theorem QkU {ats:List Int} {pl:Int} {c:List In} {F:Int}:∀ {i:Nat} {ws:List Int},YY ats pl c F i ws=none→∀ (k:Nat) (w:Int),ws[k]?=some w→∃ x,dec w=some x∧YG ats pl c F (i+k) x=0
 | i,[],_,k,w,hk=>by simp at hk
 | i,w0::l,h,k,w,hk=>by
   unfold YY at h
   split at h
   ·cases h
   ·rename_i x hx
    split at h
    ·cases h
    ·rename_i hz
     cases k with
     | zero=>simp at hk; subst hk; exact ⟨x,hx,by simpa using hz⟩
     | succ k =>
       obtain ⟨y,h1,h2⟩:=QkU h k w (by simpa using hk)
       exact ⟨y,h1,by rw [show i+(k+1)=i+1+k by omega]; exact h2⟩
theorem QoS {ats:List Int} {name:List UInt8} {ws:List Int} {f:Fn} (h:Qis ats name pl ws=.inl f):f=QyG name pl ws∧Good ats pl f.code f.frame:=by
 unfold Qis at h
 split at h
 ·rename_i hn
  injection h with h
  subst h
  refine ⟨rfl,rfl,fun i x hx=>?_⟩
  simp only [QyG,codeOf,List.getElem?_map,Option.map_eq_some_iff] at hx
  obtain ⟨w,hw,rfl⟩:=hx
  obtain ⟨x,h1,h2⟩:=QkU hn i w hw
  rw [zA] at h2
  rw [h1]; exact h2
 ·cases h
theorem QkG {m:Im}:∀ {l:List (List UInt8 × Int)} {n:Nat} {r:List Fn},readAll m n l=.inl r→r.length=l.length∧∀ (k:Nat) (s:List UInt8 × Int),l[k]?=some s→∃ f,r[k]?=some f∧f=QyG s.1 s.2 (words m (n+k))∧Good (ats m) s.2 f.code f.frame
 | [],n,r,h=>by
   unfold readAll at h; injection h with h; subst h
   exact ⟨rfl,fun k s hk=>by simp at hk⟩
 | s0::l,n,r,h=>by
   unfold readAll at h
   split at h
   ·cases h
   ·rename_i f hf
    split at h
    ·rename_i r' hr
     injection h with h; subst h
     obtain ⟨h1,h2⟩:=QkG hr
     refine ⟨by simp [h1],fun k s hk=>?_⟩
     cases k with
     | zero =>
       simp at hk; subst hk
       obtain ⟨g1,g2⟩:=QoS hf
       exact ⟨f,rfl,g1,g2⟩
     | succ k =>
       obtain ⟨f',g1,g2,g3⟩:=h2 k s (by simpa using hk)
       exact ⟨f',by simpa using g1,by rw [show n+(k+1)=n+1+k by omega]; exact g2,g3⟩
    ·cases h
theorem QmE {code:Nat}:∀ {l:List (List UInt8 × Int)} {names:List (List UInt8)} {last:Int},QdX code names last l=true→∀ (k:Nat) (s:List UInt8 × Int),l[k]?=some s →
 last<s.2∧s.2.tmod 4=0∧s.2<4 * code∧∀ (s':List UInt8 × Int),l[k+1]?=some s'→s.2<s'.2
 | [],_,_,_,k,s,hk=>by simp at hk
 | s0::l,names,last,h,k,s,hk=>by
   unfold QdX at h
   rw [Bool.and_eq_true] at h
   have h0:=h.1
   unfold Qes at h0
   simp only [Bool.and_eq_true,decide_eq_true_eq] at h0
   cases k with
   | zero =>
     simp at hk; subst hk
     refine ⟨h0.2.2.2.1,h0.2.2.2.2.1,h0.2.2.2.2.2,fun s' hs'=>?_⟩
     exact (QmE h.2 0 s' (by simpa using hs')).1
   | succ k =>
     obtain ⟨g1,g2,g3,g4⟩:=QmE h.2 k s (by simpa using hk)
     exact ⟨by omega,g2,g3,fun s' hs'=>g4 s' (by simpa using hs')⟩
structure Rt (m:Im):Prop where
 code:1≤m.code.length∧m.code.length≤262144
 syms:1≤m.syms.length∧m.syms.length≤65
 zero:(ats m).head?=some 0
 at_:∀ (n:Nat) (s:List UInt8 × Int),m.syms[n]?=some s→0≤s.2∧s.2.tmod 4=0∧s.2<4 * m.code.length∧∀ (s':List UInt8 × Int),m.syms[n+1]?=some s'→s.2<s'.2
variable {m:Im}
theorem Qwi (h:right m=true):Rt m:=by
 unfold right at h
 simp only [Bool.and_eq_true,decide_eq_true_eq] at h
 obtain ⟨_,⟨h1,h2⟩,⟨h3,h4,h5⟩,h6⟩:=h
 refine ⟨⟨h1,h2⟩,⟨h3,h4⟩,h5,fun n s hs=>?_⟩
 obtain ⟨g1,g2,g3,g4⟩:=QmE h6 n s hs
 exact ⟨by omega,g2,g3,g4⟩
theorem Rt.bounds (h:Rt m) {n:Nat} {s:List UInt8 × Int} (hs:m.syms[n]?=some s):∃ a b:Nat,from_ m n=4 * a∧to_ m n=4 * b∧a<b∧b≤m.code.length∧s.2=4 * a∧words m n=(m.code.drop a).take (b - a):=by
 obtain ⟨g1,g2,g3,g4⟩:=h.at_ n s hs
 have hf:from_ m n=s.2:=by
  unfold from_ ats; rw [List.getD_eq_getElem?_getD,List.getElem?_map,hs]; rfl
 have e1:s.2=4 * (s.2.toNat / 4:Nat):=by
  rw [Int.tmod_eq_emod_of_nonneg g1] at g2; omega
 have key:∃ b:Nat,to_ m n=4 * b∧s.2<4 * b∧b≤m.code.length:=by
  unfold to_
  by_cases hn:n+1<m.syms.length
  ·rw [if_pos hn]
   obtain ⟨s',hs'⟩:∃ s',m.syms[n+1]?=some s':=⟨_,List.getElem?_eq_getElem hn⟩
   obtain ⟨k1,k2,k3,_⟩:=h.at_ (n+1) s' hs'
   have:=g4 s' hs'
   refine ⟨s'.2.toNat / 4,?_,?_,?_⟩
   ·unfold ats; rw [List.getD_eq_getElem?_getD,List.getElem?_map,hs']
    rw [Int.tmod_eq_emod_of_nonneg k1] at k2
    show s'.2=_
    omega
   ·rw [Int.tmod_eq_emod_of_nonneg k1] at k2; omega
   ·omega
  ·rw [if_neg hn]; exact ⟨m.code.length,rfl,g3,lR _⟩
 obtain ⟨b,hb1,hb2,hb3⟩:=key
 refine ⟨s.2.toNat / 4,b,by omega,hb1,by omega,hb3,e1,?_⟩
 unfold words
 have e2:((from_ m n).tdiv 4).toNat=s.2.toNat / 4:=by
  rw [hf,Int.tdiv_eq_ediv_of_nonneg g1]; omega
 have e3:((to_ m n).tdiv 4).toNat=b:=by
  rw [hb1,Int.tdiv_eq_ediv_of_nonneg (by omega)]; omega
 rw [e2,e3]
theorem Qwn {r:List Fn} (h:ofS m=.inl r):right m=true∧r.length=m.syms.length∧∀ (n:Nat) (f:Fn),r[n]?=some f→∃ s,m.syms[n]?=some s∧f=QyG s.1 s.2 (words m n)∧Good (ats m) s.2 f.code f.frame∧0<f.code.length:=by
 unfold ofS at h
 split at h
 ·rename_i hr
  obtain ⟨h1,h2⟩:=QkG h
  refine ⟨hr,h1,fun n f hf=>?_⟩
  have hn:n<m.syms.length:=by rw [← h1]; exact (List.getElem?_eq_some_iff.1 hf).1
  obtain ⟨s,hs⟩:∃ s,m.syms[n]?=some s:=⟨_,List.getElem?_eq_getElem hn⟩
  obtain ⟨f',g1,g2,g3⟩:=h2 n s hs
  rw [hf] at g1; injection g1 with g1; subst g1
  rw [zA] at g2
  refine ⟨s,hs,g2,g3,?_⟩
  obtain ⟨a,b,_,_,hab,hbl,_,hw⟩:=(Qwi hr).bounds hs
  rw [g2]
  simp only [QyG,codeOf,lM,hw,List.length_take,List.length_drop]
  omega
 ·cases h
end Go.Rg
namespace Go.Proofs.YtbdhjeojcpgblaaGreatDoor
open Go Go.Am Go.Rv Go.Rg
set_option maxRecDepth 100000
variable {P:Program} {G:Nat→Option V}
set_option maxHeartbeats 2000000
section
attribute [local go_sem] lM aZ lR zA zL V.cells and_true decide_false decide_true ge_iff_le Z1 QOX QOW Z0 QOV QOU ZZ QOT QOS Qu not_false_eq_true true_and true_implies
theorem Yz {n:Int} (h:-9223372036854775808≤n∧n≤9223372036854775807):IntKind.i64.wrap n=n:=by
 rw [Qas]
 ·simp [IntKind.min,IntKind.signed,IntKind.bits]; omega
 ·simp [IntKind.max,IntKind.signed,IntKind.bits]; omega
theorem ibeq (a b:Int):(a==b)=decide (a=b):=by rw [Bool.eq_iff_iff]; simp
def Qn8 (s:List UInt8 × Int):V:=.agg [.str s.1,.int .i64 s.2]
def Xe (l:List (List UInt8 × Int)):V:=.lst 2 (l.map Qn8) false
def Xs (l:List Int):V:=.lst 1 (l.map (V.int .u32)) false
def QbF (m:Im):List V:=[.int .i64 m.data,Xe m.syms,Xs m.code]
def QhI (m:Im):V:=.agg (QbF m)
def Qh7 (m:Im):V:=.ref (.agg (QbF m)) 0
structure ImB (m:Im):Prop where
 s:m.syms.length≤1000
 c:m.code.length≤1000000
 n:∀ s∈m.syms,s.1.length≤9223372036854775807
variable {o:List (Option Ob)} {base t:Nat}
theorem c_S2 (hT:Qf P tab) (m:Im):C P G base QbR [Qh7 m] ⟨t,o⟩ fun v σ=>v=.bool (decide (0≤m.data)&&(decide (m.data≤524288)&&decide (m.data.tmod 8=0)))∧σ=⟨t,o⟩:=by
 refine Qk hT QbK (by simp [Z1]) (Qg 12 ?_)
 by_cases h1:0≤m.data
 ·have h1':decide (0≤m.data)=true:=decide_eq_true h1
  by_cases h2:m.data≤524288
  ·have h2':decide (m.data≤524288)=true:=decide_eq_true h2
   simp -implicitDefEqProofs (disch:=omega) only [go_sem,↓reduceIte,reduceCtorEq,rA,rq,rL,Qh7,QbF,Xe,Xs,h1,h2]
   iterate 9 (try (refine Qa 2 ?_; simp -implicitDefEqProofs (disch:=omega) only [go_sem,↓reduceIte,reduceCtorEq,rA,rq,rL,Int.reduceEq,h2]))
   try simp []
   exact ibeq _ _
  ·have h2':decide (m.data≤524288)=false:=decide_eq_false h2
   simp -implicitDefEqProofs (disch:=omega) only [go_sem,↓reduceIte,reduceCtorEq,rA,rq,rL,Qh7,QbF,Xe,Xs,h1,h2]
   iterate 9 (try (refine Qa 2 ?_; simp -implicitDefEqProofs (disch:=omega) only [go_sem,↓reduceIte,reduceCtorEq,rA,rq,h2]))
   try simp [h1,h2]
 ·have h1':decide (0≤m.data)=false:=decide_eq_false h1
  simp -implicitDefEqProofs (disch:=omega) only [go_sem,↓reduceIte,reduceCtorEq,rA,rq,rL,Qh7,QbF,Xe,Xs,h1]
  iterate 9 (try (refine Qa 2 ?_; simp -implicitDefEqProofs (disch:=omega) only [go_sem,↓reduceIte,reduceCtorEq,rq]))
  try simp [h1]
theorem c_S3 (hT:Qf P tab) (m:Im):C P G base QbQ [Qh7 m] ⟨t,o⟩ fun v σ=>v=.bool (decide (1≤m.code.length)&&decide (m.code.length≤262144))∧σ=⟨t,o⟩:=by
 refine Qk hT QbJ (by simp [Z0]) (Qg 12 ?_)
 by_cases h1:1≤m.code.length
 ·have h1':decide ((1:Int)≤(m.code.length:Int))=true:=decide_eq_true (by omega)
  by_cases h2:m.code.length≤262144
  ·have h2':decide ((m.code.length:Int)≤262144)=true:=decide_eq_true (by omega)
   simp -implicitDefEqProofs (disch:=omega) only [go_sem,↓reduceIte,reduceCtorEq,rA,rq,Qh7,QbF,Xe,Xs,h1']
   iterate 9 (try (refine Qa 2 ?_; simp -implicitDefEqProofs (disch:=omega) only [go_sem,↓reduceIte,reduceCtorEq,rA,rq,h2']))
   try simp [h1,h2]
  ·have h2':decide ((m.code.length:Int)≤262144)=false:=decide_eq_false (by omega)
   simp -implicitDefEqProofs (disch:=omega) only [go_sem,↓reduceIte,reduceCtorEq,rA,rq,Qh7,QbF,Xe,Xs,h1']
   iterate 9 (try (refine Qa 2 ?_; simp -implicitDefEqProofs (disch:=omega) only [go_sem,↓reduceIte,reduceCtorEq,rA,rq,h2']))
   try simp [h1,h2]
 ·have h1':decide ((1:Int)≤(m.code.length:Int))=false:=decide_eq_false (by omega)
  simp -implicitDefEqProofs (disch:=omega) only [go_sem,↓reduceIte,reduceCtorEq,rA,rq,Qh7,QbF,Xe,Xs,h1']
  iterate 9 (try (refine Qa 2 ?_; simp -implicitDefEqProofs (disch:=omega) only [go_sem,↓reduceIte,reduceCtorEq,rq]))
  try simp [h1]
theorem c_S4 (hT:Qf P tab) (m:Im):C P G base QbP [Qh7 m] ⟨t,o⟩ fun v σ=>v=.bool (decide (1≤m.syms.length)&&(decide (m.syms.length≤65)&&decide ((m.syms.map (·.2)).head?=some 0)))∧σ=⟨t,o⟩:=by
 refine Qk hT QbI (by simp [ZZ]) (Qg 12 ?_)
 cases hs:m.syms with
 | nil =>
   have h1':decide ((1:Int)≤((0:Nat):Int))=false:=by decide
   simp -implicitDefEqProofs (disch:=omega) only [go_sem,↓reduceIte,reduceCtorEq,rA,rq,rL,Qh7,QbF,Xe,Xs,hs,h1',lN]
   iterate 9 (try (refine Qa 2 ?_; simp -implicitDefEqProofs (disch:=omega) only [go_sem,↓reduceIte,reduceCtorEq,rq]))
   try simp
 | cons s l =>
   have h1':decide ((1:Int)≤((l.length+1:Nat):Int))=true:=decide_eq_true (by omega)
   by_cases h2:l.length+1≤65
   ·have h2':decide (((l.length+1:Nat):Int)≤65)=true:=decide_eq_true (by omega)
    simp -implicitDefEqProofs (disch:=omega) only [go_sem,↓reduceIte,reduceCtorEq,rA,rq,rL,Qh7,QbF,Xe,Xs,hs,h1',Qn8]
    iterate 12 (try (refine Qa 2 ?_; simp -implicitDefEqProofs (disch:=omega) only [go_sem,↓reduceIte,reduceCtorEq,rA,rq,rL,Int.reduceToNat,Int.reduceLE,h2']))
    try simp [show l.length≤64 by omega]
    exact ibeq _ _
   ·have h2':decide (((l.length+1:Nat):Int)≤65)=false:=decide_eq_false (by omega)
    simp -implicitDefEqProofs (disch:=omega) only [go_sem,↓reduceIte,reduceCtorEq,rA,rq,rL,Qh7,QbF,Xe,Xs,hs,h1',Qn8]
    iterate 12 (try (refine Qa 2 ?_; simp -implicitDefEqProofs (disch:=omega) only [go_sem,↓reduceIte,reduceCtorEq,rA,rq,rL,h2']))
    try simp [show ¬ l.length≤64 by omega]
end
end Go.Proofs.YtbdhjeojcpgblaaGreatDoor
namespace Go.Am
open Go
variable {α:Type} [DecidableEq α]
set_option maxHeartbeats 2000000
def km (key:α→V) (f:α→V) (S:List α):List (V × V):=S.map fun a=>(key a,f a)
def Qxy (f:α→V) (a:α) (v:V):α→V:=fun b=>if b=a then v else f b
def QwC (S:List α) (a:α):List α:=if a∈S then S else S++[a]
omit [DecidableEq α] in
theorem Qnf (key:α→V) (f:α→V) (S:List α):(km key f S).length=S.length:=by simp [km]
theorem QjL {ks:List Kd} {key:α→V} (hk:∀ a b,QbT ks (key a) (key b)=decide (a=b)) (f:α→V) (a:α):∀ S:List α,Qn6 ks (key a) (km key f S)=if a∈S then some (f a) else none
 | []=>rfl
 | b::S=>by
   have ih:=QjL hk f a S
   unfold Qn6 km at ih ⊢
   simp only [List.map_cons,List.find?_cons,hk]
   by_cases h:a=b
   ·subst h; simp
   ·simp only [h,decide_false]
    rw [ih]
    simp [h]
theorem Qm8 {ks:List Kd} {key:α→V} (hk:∀ a b,QbT ks (key a) (key b)=decide (a=b)) (f:α→V) (a:α) (v:V):∀ S:List α,S.Nodup→Qr0 ks (key a) v (km key f S)=km key (Qxy f a v) (QwC S a)
 | [],_=>by simp [Qr0,km,Qxy,QwC]
 | b::S,hn=>by
   have ih:=Qm8 hk f a v S (List.nodup_cons.1 hn).2
   have hb:=(List.nodup_cons.1 hn).1
   simp only [km,List.map_cons,Qr0,hk]
   by_cases h:a=b
   ·subst h
    simp only [decide_true,if_true,QwC,List.mem_cons,true_or,if_true,List.map_cons,Qxy]
    congr 1
    refine List.map_congr_left fun c hc=>?_
    have:c≠a:=fun e=>hb (e▸hc)
    simp [this]
   ·have h':b≠a:=fun e=>h e.symm
    simp only [h,decide_false,Bool.false_eq_true,if_false]
    unfold km at ih
    rw [ih]
    unfold QwC
    by_cases hm:a∈S
    ·simp [hm,Qxy,h']
    ·simp [hm,h,Qxy,h']
theorem Qxz {S:List α} {a:α} (h:S.Nodup):(QwC S a).Nodup:=by
 unfold QwC
 split
 ·exact h
 ·rename_i hm
  rw [List.nodup_append]
  exact ⟨h,by simp,fun x hx y hy=>by simp at hy; subst hy; exact fun e=>hm (e▸hx)⟩
theorem Qws {S:List α} {a x:α}:x∈QwC S a↔x∈S∨x=a:=by
 unfold QwC
 split
 ·rename_i hm
  exact ⟨.inl,fun h=>h.elim id fun e=>e▸hm⟩
 ·simp
def kI (a:Int):V:=.int .i64 a
theorem QFj (a b:Int):QbT [.i] (kI a) (kI b)=decide (a=b):=by
 simp [QbT,kI,V.cells,Qb1,QqX]
 rw [Bool.eq_iff_iff]; simp
def kS (a:List UInt8):V:=.str a
theorem QCA (a b:List UInt8):QbT [.s] (kS a) (kS b)=decide (a=b):=by
 simp [QbT,kS,V.cells,Qb1,QqX]
 rw [Bool.eq_iff_iff]; simp
theorem Qp4 (a:Int) (f:Int→V) (S:List Int):Qan false [.i] (kI a) (km kI f S):=by
 refine ⟨⟨rfl,rfl⟩,fun p hp=>?_⟩
 simp only [km,List.mem_map] at hp
 obtain ⟨b,_,rfl⟩:=hp
 exact ⟨rfl,rfl⟩
theorem QFc (a:List UInt8) (f:List UInt8→V) (S:List (List UInt8)):Qan false [.s] (kS a) (km kS f S):=by
 refine ⟨⟨rfl,rfl⟩,fun p hp=>?_⟩
 simp only [km,List.mem_map] at hp
 obtain ⟨b,_,rfl⟩:=hp
 exact ⟨rfl,rfl⟩
variable {base:Nat}
theorem QpF {P:Program} {G:Nat→Option V} {n:Nat} {c:AC} {s:List KI} {Q:AE→Fr→H→Prop} {fr:Fr} {σ:H} (J:Fr→H→Prop) (h1:W P G n base c fr σ fun e fr σ=>e=.nrm∧J fr σ) (h2:∀ fr σ,J fr σ→sem P G n base Q s .nrm fr σ):sem P G n base Q (.ac c::s) .nrm fr σ :=
 h1.conseq fun e fr σ ⟨he,hJ⟩=>by subst he; exact h2 fr σ hJ
theorem C_pad {P:Program} {G:Nat→Option V} {f t:Nat} {args:List V} {o o':List (Option Ob)} {Q:V→H→Prop} (hs:∀ (n:Nat) (ob:Ob),o'[n]?=some (some ob)→o[n]?=some (some ob)) (hb:base≤o'.length) (h:C P G base f args ⟨t,o'⟩ Q):C P G base f args ⟨t,o⟩ Q:=fun I ρ w xs R _ hc=>by
 obtain ⟨R1,S1⟩:=R.drop (base:=base) (lR _) hs
 exact (h I ρ w xs R1 hb hc).mono fun e w' ⟨v,x,I',ρ',σ',h1,h2,h3,h4,h5,h6⟩=>⟨v,x,I',ρ',σ',h1,h2,h3,S1.trans h4,h5,h6⟩
end Go.Am
