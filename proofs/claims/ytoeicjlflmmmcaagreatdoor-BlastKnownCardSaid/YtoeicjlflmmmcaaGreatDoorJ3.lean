/- What symbols are known to be. -/
import Derived.Test.YtoeicjlflmmmcaaGreatDoorJ2
open Nat renaming reduceEqDiff → rq, reduceAdd → rA, reduceLeDiff → rL, reduceLT → rT, zero_add → zA, le_refl → lR, zero_le → zL, add_zero → aZ
open List renaming length_cons → lC, length_nil → lN, take_succ_cons → tSq, length_append → lA, nil_append → nA, cons_append → cA, append_assoc → aA, take_nil → tN, take_zero → tZ, length_map → lM
open Bool renaming not_false → nFq, not_true → nT
namespace Go.Proofs.YtoeicjlflmmmcaaGreatDoor
open Go Go.Am
set_option maxRecDepth 100000
variable {P:Program} {G:Nat→Option V}
set_option maxHeartbeats 1000000
section
attribute [local go_sem] lC lN nA aZ lR zA zL and_true decide_false decide_true ge_iff_le Q3 Qi true_implies QaE QE5 QE4 QE3 QE2
structure Cl where
 arr:Int
 ver:Int
 at':Int
 n:Int
def Cl.v (c:Cl):V:=.agg [.int .i64 c.arr,.int .i64 c.ver,.int .i64 c.at',.int .i64 c.n]
def QiX (S:List Int) (tS:Bool) (zC:Nat) (C:List Cl) (tC:Bool):V:=.agg [.lst 1 (Qb S) tS,.lst zC (C.map Cl.v) tC]
def QuL (S:List Int) (k:Int):Int:=if k<0∨(S.length:Int)≤k then 0 else S.getD k.toNat 0
theorem c_Sym (hT:Qe P tab) (S:List Int) (tS:Bool) (zC:Nat) (C:List Cl) (tC:Bool) (k:Int):Pure P G Qe5 [QiX S tS zC C tC,.int .i64 k] fun v=>v=.int .i64 (QuL S k):=by
 intro t
 refine Qj 0 (zL _) (Qo hT QeM (by simp [QaE]) (Qm 14 ?_))
 by_cases h1:k<0
 ·have h1':decide (k<0)=true:=by simpa using h1
  simp -implicitDefEqProofs (disch:=omega) only [go_sem,↓reduceIte,reduceCtorEq,rq,QiX,QuL,h1,true_or]
  iterate 9 (try (refine Qg 4 ?_; simp -implicitDefEqProofs (disch:=omega) only [go_sem,↓reduceIte,reduceCtorEq,rq]))
 ·have h1':decide (k<0)=false:=by simpa using h1
  by_cases h2:(S.length:Int)≤k
  ·have h2':decide ((S.length:Int)≤k)=true:=by simpa using h2
   simp -implicitDefEqProofs (disch:=omega) only [go_sem,↓reduceIte,reduceCtorEq,rA,rq,rL,QiX,QuL,h1,h2,or_true]
   iterate 9 (try (refine Qg 4 ?_; simp -implicitDefEqProofs (disch:=omega) only [go_sem,↓reduceIte,reduceCtorEq,rA,rq,h2]))
  ·have h2':decide ((S.length:Int)≤k)=false:=by simpa using h2
   obtain ⟨x,hx⟩:∃ x,S[k.toNat]?=some x:=⟨_,List.getElem?_eq_getElem (by omega)⟩
   have hg:=Qb9 hx
   have hg2:S.getD k.toNat 0=x:=by simp [List.getD_eq_getElem?_getD,hx]
   simp -implicitDefEqProofs (disch:=omega) only [go_sem,↓reduceIte,reduceCtorEq,rA,rq,rL,QiX,QuL,h1,h2,hg2,or_self]
   iterate 9 (try (refine Qg 4 ?_; simp -implicitDefEqProofs (disch:=omega) only [go_sem,↓reduceIte,reduceCtorEq,rA,rq,rL,h2,hg]))
end
section
attribute [local go_sem] aZ lR Nat.succ_ne_zero zA beq_self_eq_true decide_false decide_true Q3 QD QCQ QCP QCO QCN QCM QCL QCK QCJ Y0 QCI QCH
def TellsC (P:Program) (G:Nat→Option V) (base:Nat) (f:V) (o:List (Option Ob)) (p:Cl→Bool):Prop :=
 ∀ t n,CV P G base f [n.v] ⟨t,o⟩ fun v σ=>v=.bool (p n)∧∃ t',t≤t'∧σ=⟨t',o⟩
def QqJ (p:Cl→Bool):List Cl→Nat→Int
 | [],_=>-1
 | n::c,i=>if p n then i else QqJ p c (i+1)
theorem Qtp {p:Cl→Bool}:∀ {c:List Cl} {i:Nat},(∀ n∈c,p n=false)→QqJ p c i=-1
 | [],_,_=>rfl
 | n::c,i,h=>by rw [QqJ,h n (by simp),if_neg (by simp),Qtp fun m hm=>h m (by simp [hm])]
theorem Qrt {p:Cl→Bool}:∀ {c:List Cl} {i k:Nat} {n:Cl},(∀ m∈c.take k,p m=false)→c[k]?=some n→p n=true→QqJ p c i=((i+k:Nat):Int)
 | [],_,_,_,_,h,_=>by simp at h
 | m::c,i,0,n,_,h,hp=>by simp at h; subst h; simp [QqJ,hp]
 | m::c,i,k+1,n,h,hk,hp=>by
   rw [QqJ,h m (by simp),if_neg (by simp),Qrt (k:=k) (fun m hm=>h m (by simp [hm])) (by simpa using hk) hp]
   congr 1; omega
theorem Qdj {l:List Cl} {i:Nat} {x:Cl} (h:l[i]?=some x):(l.map Cl.v).getD i .any=x.v:=by simp [List.getD_eq_getElem?_getD,h]
variable {t:Nat}
theorem QAU (hT:Qe P tab) {base:Nat} {o:List (Option Ob)} {f:V} {p:Cl→Bool} {c:List Cl} {z:Bool} (hp:TellsC P G base f o p) (hl:c.length≤1000000) :
 C P G base X3 [.lst 4 (c.map Cl.v) z,f] ⟨t,o⟩ fun v σ=>v=.int .i64 (QqJ p c 0)∧∃ t',t≤t'∧σ=⟨t',o⟩:=by
 refine Qo hT X2 (by simp [QD]) (Qm 1000 ?_)
 simp -implicitDefEqProofs (disch:=omega) only [go_sem,↓reduceIte,reduceCtorEq,rq,lM]
 refine Zv (fun m fr σ=>∃ i t',i≤c.length∧m=c.length - i∧(∀ n∈c.take i,p n=false)∧t≤t'∧Qd fr 0=.lst 4 (c.map Cl.v) z∧Qd fr 1=f∧Qd fr 7=.int .i64 c.length∧Qd fr 8=.int .i64 i∧σ=⟨t',o⟩)
  (fun e fr σ=>∃ t',t≤t'∧σ=⟨t',o⟩∧((e=.ret∧Qd fr 4=.int .i64 (QqJ p c 0))∨(e=.ex 0∧QqJ p c 0=-1)))
  (m0:=c.length) ⟨0,t,by omega,rfl,by simp,by omega,?_⟩ (fun m fr σ hJ=>?_) (fun e fr σ hE=>?_)
 ·simp -implicitDefEqProofs (disch:=omega) only [go_sem,↓reduceIte,reduceCtorEq,rq]
  simp
 ·obtain ⟨i,t',hi,rfl,hno,ht,f0,f1,f7,f8,rfl⟩:=hJ
  refine Qm 1000 ?_
  rcases Nat.lt_or_ge i c.length with hlt | hge
  ·obtain ⟨n,hni⟩:∃ n,c[i]?=some n:=⟨_,List.getElem?_eq_getElem hlt⟩
   have hD:=Qdj hni
   have e2:=w_nx hlt (by omega)
   simp -implicitDefEqProofs (disch:=omega) only [go_sem,↓reduceIte,reduceCtorEq,rA,rq,lM,f0,f1,f7,f8,hlt,hD,Cl.v,lC,lN,tSq,tZ]
   refine CV.use 1000 (hp t' n) fun v σ hv=>?_
   obtain ⟨rfl,t2,ht2,rfl⟩:=hv
   cases hpn:p n with
   | true =>
     simp -implicitDefEqProofs (disch:=omega) only [go_sem,↓reduceIte,reduceCtorEq,rq]
     rw [Qrt hno hni hpn]
     exact ⟨t2,by omega,rfl,by simp⟩
   | false =>
     simp -implicitDefEqProofs (disch:=omega) only [go_sem,↓reduceIte,rq,f8]
     refine ⟨c.length - (i+1),_,_,by omega,Shift.refl _ _ _ _,i+1,t2,by omega,rfl,fun m hm=>?_,by omega,?_⟩
     ·rw [QbS hni] at hm
      simp at hm
      rcases hm with hm | rfl
      ·exact hno m hm
      ·exact hpn
     ·simp -implicitDefEqProofs (disch:=omega) only [go_sem,↓reduceIte,reduceCtorEq,rq,f0,f1,f7,e2]
  ·have hi:i=c.length:=by omega
   subst hi
   simp -implicitDefEqProofs (disch:=omega) only [go_sem,↓reduceIte,reduceCtorEq,rq,f7,f8,Nat.lt_irrefl]
   rw [List.take_length] at hno
   exact ⟨t',ht,rfl,Qtp hno⟩
 ·obtain ⟨t',ht,rfl,hE⟩:=hE
  rcases hE with ⟨rfl,f4⟩ | ⟨rfl,hh⟩
  ·refine Qg 1000 ?_
   simp -implicitDefEqProofs (disch:=omega) only [go_sem,f4]
   exact ⟨t',ht,rfl⟩
  ·refine Qg 1000 ?_
   simp -implicitDefEqProofs (disch:=omega) only [go_sem,↓reduceIte,hh]
   exact ⟨t',ht,rfl⟩
def isC (a w x:Int) (c:Cl):Bool:=decide (c.arr=a∧c.ver=w∧c.at'=x)
def eH (v0 v1 v2 v3:Nat) (e:List V) (a w x:Int):List (Option Ob):=[some (.arr v0 26 e),some (.arr v1 3 [.int .i64 a]),some (.arr v2 2 [.int .i64 w]),some (.arr v3 2 [.int .i64 x])]
theorem QAX (hT:Qe P tab) {v0 v1 v2 v3:Nat} {e:List V} {a w x:Int} (c:Cl) :
 C P G 0 Qca [c.v,.ptr 1 v1 0,.ptr 2 v2 0,.ptr 3 v3 0] ⟨t,eH v0 v1 v2 v3 e a w x⟩ fun v σ=>v=.bool (isC a w x c)∧∃ t',t≤t'∧σ=⟨t',eH v0 v1 v2 v3 e a w x⟩:=by
 refine Qj 4 (zL _) (Qo hT Qb0 (by simp [Y0]) (Qm 14 ?_))
 by_cases h1:c.arr=a
 ·have h1':decide (c.arr=a)=true:=by simpa using h1
  by_cases h2:c.ver=w
  ·have h2':decide (c.ver=w)=true:=by simpa using h2
   simp -implicitDefEqProofs (disch:=omega) only [go_sem,↓reduceIte,reduceCtorEq,rA,rq,rL,eH,Cl.v,isC,lN,lC,nA,cA,true_implies,true_and,and_self,h1,h2]
   iterate 9 (try (refine Qg 4 ?_; simp -implicitDefEqProofs (disch:=omega) only [go_sem,↓reduceIte,reduceCtorEq,rA,rq,rL,lN,lC,true_implies,true_and,and_true,and_self]))
   exact ⟨rfl,t+1,by omega,rfl⟩
  ·have h2':decide (c.ver=w)=false:=by simpa using h2
   simp -implicitDefEqProofs (disch:=omega) only [go_sem,↓reduceIte,reduceCtorEq,rA,rq,rL,eH,Cl.v,isC,lN,lC,nA,cA,true_implies,false_and,and_false,and_self,h1,h2]
   iterate 9 (try (refine Qg 4 ?_; simp -implicitDefEqProofs (disch:=omega) only [go_sem,↓reduceIte,reduceCtorEq,rA,rq,rL,lN,lC,not_false_eq_true,false_implies,true_implies,true_and,and_true,and_self,h2]))
   exact ⟨t+1,by omega,rfl⟩
 ·have h1':decide (c.arr=a)=false:=by simpa using h1
  simp -implicitDefEqProofs (disch:=omega) only [go_sem,↓reduceIte,reduceCtorEq,rA,rq,rL,eH,Cl.v,isC,lN,lC,nA,cA,not_false_eq_true,false_implies,true_implies,true_and,false_and,and_self,h1]
  iterate 9 (try (refine Qg 4 ?_; simp -implicitDefEqProofs (disch:=omega) only [go_sem,↓reduceIte,reduceCtorEq,rA,rq,rL,lN,lC,true_and,and_true]))
  exact ⟨t+1,by omega,rfl⟩
end
section
attribute [local go_sem] cA lC lM lN nA lR zA zL and_true decide_true eH QiX Q3 true_and true_implies Qah QE1 QE0 QEZ QEY QEX
theorem QxT {p:Cl→Bool}:∀ {c:List Cl} {i:Nat},QqJ p c i=-1∨∃ k n,c[k]?=some n∧QqJ p c i=((i+k:Nat):Int)
 | [],_=>.inl rfl
 | n::c,i=>by
   unfold QqJ
   split
   ·exact .inr ⟨0,n,rfl,rfl⟩
   ·rcases QxT (p:=p) (c:=c) (i:=i+1) with h | ⟨k,m,h1,h2⟩
    ·exact .inl h
    ·exact .inr ⟨k+1,m,by simpa using h1,by rw [h2]; congr 1; omega⟩
def Qij (C:List Cl) (a w x:Int):Int:=if QqJ (isC a w x) C 0<0 then 0 else ((C[(QqJ (isC a w x) C 0).toNat]?).map Cl.n).getD 0
theorem c_Cell (hT:Qe P tab) (S:List Int) (tS:Bool) (C':List Cl) (hC:C'.length≤1000000) (tC:Bool) (a w x:Int):Pure P G Qec [QiX S tS 4 C' tC,.int .i64 a,.int .i64 w,.int .i64 x] fun v=>v=.int .i64 (Qij C' a w x):=by
 intro t
 refine Qj 0 (zL _) (Qo hT Qd7 (by simp [Qah]) (Qm 1000 ?_))
 simp -implicitDefEqProofs (disch:=omega) only [go_sem,↓reduceIte,reduceCtorEq,rA,rq]
 refine call hT X2 (QAU (p:=isC a w x) (o:=eH t (t+1) (t+1+1) (t+1+1+1) [.lst 1 (Qb S) tS,.lst 4 (C'.map Cl.v) tC] a w x) hT (fun t' n=>CV.of hT Qb0 (QAX hT n)) hC) 1000 fun v σ hv=>?_
 obtain ⟨rfl,t2,ht2,rfl⟩:=hv
 rcases QxT (p:=isC a w x) (c:=C') (i:=0) with h | ⟨k,n,h1,h2⟩
 ·have e:Qij C' a w x=0:=by rw [Qij,h]; rfl
  rw [h,e]
  simp -implicitDefEqProofs (disch:=omega) only [go_sem,↓reduceIte,reduceCtorEq,rA,rq,Int.reduceLT]
 ·have e:Qij C' a w x=n.n:=by rw [Qij,h2,if_neg (by omega)]; simp [h1]
  have hD:=Qdj h1
  have hlt:=(List.getElem?_eq_some_iff.1 h1).1
  rw [h2,e]
  rw [zA]
  simp -implicitDefEqProofs (disch:=omega) only [go_sem,↓reduceIte,reduceCtorEq,rA,rq,hD,hlt,Cl.v]
  intro hk
  omega
end
def kEs (K:List (Int × Int)):List (V × V):=K.map fun p=>(.int .i64 p.1,.int .i64 p.2)
def kAt (K:List (Int × Int)) (x:Int):Option Int:=(K.find? fun p=>decide (x=p.1)).map (·.2)
theorem Qh6 (x y:Int):Qdc [.i] (.int .i64 x) (.int .i64 y)=decide (x=y):=by
 by_cases h:x=y
 ·subst h
  simp [Qdc,Qbo,V.cells,QnM]
 ·simp [Qdc,Qbo,V.cells,QnM,h]
theorem Qh1 (K:List (Int × Int)) (x:Int):Qku [.i] (.int .i64 x) (kEs K)=(kAt K x).map (V.int .i64):=by
 induction K with
 | nil=>rfl
 | cons p K ih =>
   simp only [Qku,kEs,kAt,List.map_cons,List.find?_cons,Qh6] at ih ⊢
   by_cases h:x=p.1
   ·simp [h]
   ·simp only [h,decide_false]
    exact ih
theorem Qpq (x:Int):Qxz false [.i] (.int .i64 x):=⟨rfl,by simp [Qbo,V.cells,QnM]⟩
theorem QbV (K:List (Int × Int)) (x:Int):Qcd false [.i] (.int .i64 x) (kEs K):=by
 refine ⟨Qpq x,fun p hp=>?_⟩
 obtain ⟨q,_,rfl⟩:=List.mem_map.1 hp
 exact ⟨rfl,by simp [Qbo,V.cells,QnM]⟩
theorem XO {c:Prop} [Decidable c] {x y:Int} (h1:i64 x) (h2:i64 y):i64 (if c then x else y):=by split <;> assumption
theorem Qyc {op a b:Int} (ha:i64 a) (hb:i64 b):i64 (doW op a b):=by
 have one (c:Prop) [Decidable c]:i64 (if c then 1 else 0):=by unfold i64; split <;> omega
 have hr:i64 (QKM a b):=by
  unfold QKM
  split
  ·exact ha
  ·split
   ·unfold i64; omega
   ·have h1:=Int.natAbs_tmod a b
    have h2:(a.tmod b).natAbs≤a.natAbs:=by rw [h1]; exact Nat.mod_le _ _
    unfold i64 at *
    by_cases h:0≤a
    ·have:=Int.tmod_nonneg b h
     omega
    ·have:=Int.tmod_nonneg b (a:=-a) (by omega)
     rw [Int.neg_tmod] at this
     omega
 have hs:i64 (a.fdiv (2 ^ min (QkC .i64 b 63).toNat 64)):=by
  have hp:(0:Int)<2 ^ min (QkC .i64 b 63).toNat 64:=Int.pow_pos (by omega)
  generalize (2:Int) ^ min (QkC .i64 b 63).toNat 64=m at hp
  rw [Int.fdiv_eq_ediv_of_nonneg _ (by omega)]
  unfold i64 at *
  have h1:=Int.ediv_le_ediv hp (a:=a) (b:=9223372036854775807) (by omega)
  have h2:=Int.ediv_le_ediv hp (a:=-9223372036854775808) (b:=a) (by omega)
  have h3:(9223372036854775807:Int) / m≤9223372036854775807:=Int.ediv_le_self _ (by omega)
  have h4:-9223372036854775808≤(-9223372036854775808:Int) / m:=by
   rw [Int.le_ediv_iff_mul_le hp]
   omega
  omega
 have hdiv:i64 (QMT a b):=XO (by unfold i64; omega) (XO (Qbq _) (Qbq _))
 have hdn:i64 (divN a b):=XO (by unfold i64; omega) (Qbq _)
 have hrn:i64 (remN a b):=XO ha (Qbq _)
 have hand:i64 (QkC .i64 a b):=Qbq _
 have hor:i64 (orI .i64 a b):=Qbq _
 have hxor:i64 (QHP .i64 a b):=Qbq _
 exact XO (Qbq _) (XO (Qbq _) (XO (Qbq _) (XO hdiv (XO hr (XO hdn (XO hrn (XO hand (XO hor (XO hxor (XO (Qbq _) (XO (Qbq _) (XO hs (XO (one _) (XO (one _) (XO (one _) (by unfold i64; omega))))))))))))))))
section
attribute [local go_sem] cA lC lN nA aZ lR zA Nd.cells and_true beq_self_eq_true false_implies kG_5 kG_6 kG_7 kG_9 Qmu Qh7 QbV Qh1 true_and true_implies Qbf QFe QFd QFc QFb QFa QE9 QE8 QE7 QE6
def QiC (S:List Int) (C:List Cl) (K:List (Int × Int)) (d:Nd):Int :=
 if d.kind=1 then d.n else if d.kind=2 then QuL S d.n else if d.kind=3 then Qij C d.a d.n ((kAt K d.y).getD 0) else doW d.op ((kAt K d.x).getD 0) ((kAt K d.y).getD 0)
def Qjr (ve vm vk:Nat) (S:List Int) (tS:Bool) (C:List Cl) (tC:Bool) (K:List (Int × Int)):List (Option Ob) :=
 [some (.arr ve 26 [.lst 1 (Qb S) tS,.lst 4 (C.map Cl.v) tC]),some (.map vm (kEs K)),some (.arr vk 123 [.mp 6 vm])]
variable {L:List Nd} {v0 v1 v2 v3 v4:Nat} {fmt:Int→List UInt8}
theorem QAi {ex:List (Option Ob)} {x0 x1 x2 x3:Option Ob}:(kG fmt v0 v1 v2 v3 v4 L++x0::x1::x2::x3::ex).take 9=kG fmt v0 v1 v2 v3 v4 L++[x0,x1,x2,x3]:=rfl
theorem getD_map (o:Option Int):(o.map (V.int .i64)).getD (.int .i64 0)=.int .i64 (o.getD 0):=by cases o <;> rfl
theorem Qni {K:List (Int × Int)} (hK:∀ p∈K,i64 p.2) (x:Int):i64 ((kAt K x).getD 0):=by
 unfold kAt
 cases h:K.find? fun p=>decide (x=p.1) with
 | none=>simp [i64]
 | some p=>simpa using hK p (List.mem_of_find?_eq_some h)
theorem c_One {b:Nat} (hb:b≤9) (hT:Qe P tab) {ve vm vk t:Nat} {y8:Option Ob} (S:List Int) (tS:Bool) (C':List Cl) (hC:C'.length≤1000000) (tC:Bool) (K:List (Int × Int)) (hK:∀ p∈K,i64 p.2) (d:Nd) (hk:d.kind=1∨d.kind=2∨d.kind=3∨d.kind=4) (ho:0≤d.op∧d.op≤255) :
 C P G b Qbc [.agg d.cells,.ptr 5 ve 0,.ptr 7 vk 0] ⟨t,kG fmt v0 v1 v2 v3 v4 L++(Qjr ve vm vk S tS C' tC K++[y8])⟩ fun v σ=>v=.int .i64 (QiC S C' K d)∧∃ t',t≤t'∧σ=⟨t',kG fmt v0 v1 v2 v3 v4 L++(Qjr ve vm vk S tS C' tC K++[y8])⟩:=by
 refine Qj 9 hb (Qo hT QgH (by simp [Qbf]) (Qm 1000 ?_))
 rcases hk with k | k | k | k
 ·have e:QiC S C' K d=d.n:=by rw [QiC,if_pos k]
  rw [e]
  simp -implicitDefEqProofs (disch:=omega) only [go_sem,↓reduceIte,reduceCtorEq,rA,rq,rL,QAi,Qjr,k]
  exact ⟨t+1,by omega,rfl⟩
 ·have e:QiC S C' K d=QuL S d.n:=by rw [QiC,if_neg (by omega),if_pos k]
  rw [e]
  simp -implicitDefEqProofs (disch:=omega) only [go_sem,↓reduceIte,reduceCtorEq,rA,rq,rL,Qjr,k,Int.reduceBEq]
  refine Qy hT QeM (c_Sym hT S tS 4 C' tC d.n) (by simp [Qc,Qf]) 1000 ?_
  simp -implicitDefEqProofs (disch:=omega) only [go_sem,↓reduceIte,reduceCtorEq,rA,rq,rL,QAi]
  exact ⟨t+1,by omega,rfl⟩
 ·have e:QiC S C' K d=Qij C' d.a d.n ((kAt K d.y).getD 0):=by rw [QiC,if_neg (by omega),if_neg (by omega),if_pos k]
  rw [e]
  simp -implicitDefEqProofs (disch:=omega) only [go_sem,↓reduceIte,reduceCtorEq,rA,rq,rL,Qjr,getD_map,k,Int.reduceBEq]
  refine Qy hT Qd7 (c_Cell hT S tS C' hC tC d.a d.n _) (by simp [Qc,Qf]) 1000 ?_
  simp -implicitDefEqProofs (disch:=omega) only [go_sem,↓reduceIte,reduceCtorEq,rA,rq,rL,QAi]
  exact ⟨t+1,by omega,rfl⟩
 ·have e:QiC S C' K d=doW d.op ((kAt K d.x).getD 0) ((kAt K d.y).getD 0):=by rw [QiC,if_neg (by omega),if_neg (by omega),if_neg (by omega)]
  rw [e]
  simp -implicitDefEqProofs (disch:=omega) only [go_sem,↓reduceIte,reduceCtorEq,rA,rq,rL,Qjr,getD_map,k,Int.reduceBEq]
  refine Qy hT QkP (c_Do hT ho.1 ho.2 (Qni hK _) (Qni hK _)) rfl 1000 ?_
  simp -implicitDefEqProofs (disch:=omega) only [go_sem,↓reduceIte,reduceCtorEq,rA,rq,rL,QAi]
  exact ⟨t+1,by omega,rfl⟩
end
def knows (S:List Int) (C:List Cl) (L:List Nd) (U:List Int):List (Int × Int):=U.foldl (fun K x=>K++[(x,QiC S C K (nd L x))]) []
variable {x:Int} {S:List Int}
theorem Qms {C:List Cl} {L:List Nd} {U:List Int}:knows S C L (U++[x])=knows S C L U++[(x,QiC S C (knows S C L U) (nd L x))]:=by simp [knows]
theorem Qmw (S:List Int) (C:List Cl) (L:List Nd):∀ (U:List Int) (K:List (Int × Int)),(U.foldl (fun K x=>K++[(x,QiC S C K (nd L x))]) K).map (·.1)=K.map (·.1)++U
 | [],K=>by simp
 | x::U,K=>by rw [List.foldl_cons,Qmw S C L U]; simp
theorem Qt9 (S:List Int) (C:List Cl) (L:List Nd) (U:List Int):(knows S C L U).map (·.1)=U:=by
 rw [knows,Qmw]; simp
variable {K:List (Int × Int)}
theorem Qs5 {v:Int} (h:x ∉ K.map (·.1)):Qna [.i] (.int .i64 x) (.int .i64 v) (kEs K)=kEs (K++[(x,v)]):=by
 induction K with
 | nil=>rfl
 | cons p K ih =>
   simp only [List.map_cons,List.mem_cons,not_or] at h
   simp only [kEs,List.map_cons,cA,Qna,Qh6] at ih ⊢
   rw [decide_eq_false h.1]
   simp only [Bool.false_eq_true,if_false]
   rw [ih h.2]
theorem QzG {C:List Cl} {d:Nd} (hS:∀ x∈S,i64 x) (hC:∀ c∈C,i64 c.n) (hK:∀ p∈K,i64 p.2) (hd:i64 d.n):i64 (QiC S C K d):=by
 refine XO hd (XO ?_ (XO ?_ (Qyc (Qni hK _) (Qni hK _))))
 ·unfold QuL
  refine XO (by unfold i64; omega) ?_
  rw [List.getD_eq_getElem?_getD]
  cases h:S[d.n.toNat]? with
  | none=>simp [i64]
  | some x=>exact hS x (List.mem_of_getElem? h)
 ·unfold Qij
  refine XO (by unfold i64; omega) ?_
  cases h:C[(QqJ (isC d.a d.n ((kAt K d.y).getD 0)) C 0).toNat]? with
  | none=>simp [i64]
  | some c=>exact hC c (List.mem_of_getElem? h)
theorem Qpo {S:List Int} {C:List Cl} {L:List Nd} (hS:∀ x∈S,i64 x) (hC:∀ c∈C,i64 c.n) (hL:∀ x,i64 (nd L x).n):∀ (U:List Int) (K:List (Int × Int)),(∀ p∈K,i64 p.2)→∀ p∈U.foldl (fun K x=>K++[(x,QiC S C K (nd L x))]) K,i64 p.2
 | [],K,hK=>hK
 | x::U,K,hK=>by
   rw [List.foldl_cons]
   refine Qpo hS hC hL U _ fun p hp=>?_
   rcases List.mem_append.1 hp with h | h
   ·exact hK p h
   ·rw [List.mem_singleton.1 h]
    exact QzG hS hC hK (hL x)
section
attribute [local go_sem] nFq lR zA decide_true Q3 QsG QsF QsE QsD QsC
abbrev alJ (fmt:Int→List UInt8) (v0 v1 v2 v3 v4 ve vm vk t0 z:Nat) (L:List Nd) (S:List Int) (tS:Bool) (C':List Cl) (tC:Bool) (ids:List Int) (tr:Bool) (U:List Int):Nat→Fr→H→Prop:=fun i fr σ=>∃ t',t0≤t'∧Qd fr 0=.ptr 1 v0 0∧Qd fr 2=.lst z (Qb ids) tr∧Qd fr 8=.ptr 7 vk 0∧Qd fr 9=.fn (.func Qbc) [] [.ptr 5 ve 0,.ptr 7 vk 0]∧Qd fr 23=.lst 1 (Qb U) false∧Qd fr 24=.int .i64 U.length∧Qd fr 25=.int .i64 ((i:Nat):Int)∧σ=⟨t',kG fmt v0 v1 v2 v3 v4 L++Qjr ve vm vk S tS C' tC (knows S C' L (U.take i))⟩
abbrev alE (fmt:Int→List UInt8) (v0 v1 v2 v3 v4 ve vm vk t0 z:Nat) (L:List Nd) (S:List Int) (tS:Bool) (C':List Cl) (tC:Bool) (ids:List Int) (tr:Bool) (U:List Int):AE→Fr→H→Prop:=fun e fr σ=>e=.ex 0∧∃ t',t0≤t'∧Qd fr 2=.lst z (Qb ids) tr∧Qd fr 8=.ptr 7 vk 0∧σ=⟨t',kG fmt v0 v1 v2 v3 v4 L++Qjr ve vm vk S tS C' tC (knows S C' L U)⟩
def fit (L:List Nd):Prop:=∀ x:Int,0≤x→x<L.length→((nd L x).kind=1∨(nd L x).kind=2∨(nd L x).kind=3∨(nd L x).kind=4)∧(0≤(nd L x).op∧(nd L x).op≤255)
theorem QyH (hT:Qe P tab) {fmt:Int→List UInt8} {v0 v1 v2 v3 v4 ve vm vk t0 i z:Nat} {L:List Nd} (hfit:fit L) (hLn:∀ x,i64 (nd L x).n) {S:List Int} {tS tC tr:Bool} {C':List Cl} (hS:∀ x∈S,i64 x) (hC:C'.length≤1000000) (hCn:∀ c∈C',i64 c.n) {ids U:List Int} (hU:∀ x∈U,0≤x∧x<L.length) (hUn:U.Nodup) (hUl:U.length≤1000000) {x:Int} (hx:U[i]?=some x) {fr:Fr} {σ:H} (hJ:alJ fmt v0 v1 v2 v3 v4 ve vm vk t0 z L S tS C' tC ids tr U i fr σ) :
 W P G 65 5 (zg QsG [] (.seq (zw 26 .skip (.exit 0)) (.seq (.block 1 (zg QsF [27,28] (zg QsE [30,31,32,29,33,34,13] (.reg QsD [35,36,37,38,39])))) (.reg QsC [40])))) fr σ (Qbb (fun fr σ=>∃ fr' σ',Shift G 65 5 fr σ fr' σ'∧alJ fmt v0 v1 v2 v3 v4 ve vm vk t0 z L S tS C' tC ids tr U (i+1) fr' σ') (alE fmt v0 v1 v2 v3 v4 ve vm vk t0 z L S tS C' tC ids tr U)):=by
 obtain ⟨t',ht,f0,f2,f8,f9,f23,f24,f25,rfl⟩:=hJ
 have hlt:=(List.getElem?_eq_some_iff.1 hx).1
 have hD:=Qb9 hx
 have e2:=w_nx hlt (by omega)
 obtain ⟨h0,h1⟩:=hU x (List.mem_of_getElem? hx)
 have hN:=fun t ex=>QIj (P:=P) (G:=G) hT (base:=5) (fmt:=fmt) (v0:=v0) (v1:=v1) (v2:=v2) (v3:=v3) (v4:=v4) (t:=t) (L:=L) (ex:=ex) (id:=x)
 have hts:=QbS hx
 have s1:knows S C' L (U.take (i+1))=knows S C' L (U.take i)++[(x,QiC S C' (knows S C' L (U.take i)) (nd L x))]:=by rw [hts,Qms]
 have hK:∀ p∈knows S C' L (U.take i),i64 p.2:=Qpo hS hCn hLn _ [] (by simp)
 have hnot:x ∉ (knows S C' L (U.take i)).map (·.1):=by
  rw [Qt9]
  have h2:=hUn.sublist (List.take_sublist (i+1) U)
  rw [hts] at h2
  intro hm
  exact (List.nodup_append.1 h2).2.2 x hm x (by simp) rfl
 have hone:=fun t y=>c_One (P:=P) (G:=G) (lR 9) hT (fmt:=fmt) (v0:=v0) (v1:=v1) (v2:=v2) (v3:=v3) (v4:=v4) (ve:=ve) (vm:=vm) (vk:=vk) (t:=t) (L:=L) (y8:=y) S tS C' hC tC (knows S C' L (U.take i)) hK (nd L x) (hfit x h0 h1).1 (hfit x h0 h1).2
 have hadd:=Qs5 (v:=QiC S C' (knows S C' L (U.take i)) (nd L x)) hnot
 generalize hs2:knows S C' L (U.take (i+1))=K2 at *
 generalize knows S C' L (U.take i)=K at *
 simp only [if_pos (show 0≤x∧x<L.length from ⟨h0,h1⟩)] at hN
 simp only [show L.getD x.toNat zeroNd=nd L x from rfl] at hN
 generalize QiC S C' K (nd L x)=r at *
 generalize nd L x=d at *
 simp only [Nd.cells] at hN hone
 refine Qh [(0,.ptr 1 v0 0),(2,.lst z (Qb ids) tr),(8,.ptr 7 vk 0),(9,.fn (.func Qbc) [] [.ptr 5 ve 0,.ptr 7 vk 0]),(23,.lst 1 (Qb U) false),(24,.int .i64 U.length),(25,.int .i64 ((i:Nat):Int))] ⟨f0,f2,f8,f9,f23,f24,f25,trivial⟩  1000 ?_
 simp -implicitDefEqProofs (disch:=omega) only [go_sem,↓reduceIte,reduceCtorEq,rq,Qi,Qjr,lN,lC,true_implies,and_true,hlt,hD]
 refine call hT XE (hN _ _) 1000 fun u σ hu=>?_
 obtain ⟨rfl,t2,ht2,rfl⟩:=hu
 simp -implicitDefEqProofs (disch:=omega) only [go_sem,↓reduceIte,reduceCtorEq,rA,rq,rL,rT,Qh7,Qmu,kG_7,kG_8,QLv,lN,lC,nA,cA,false_implies,true_implies,and_true]
 have hsub:∀ (K:List (Int × Int)) (y:Option Ob),Zl (kG fmt v0 v1 v2 v3 v4 L++Qjr ve vm vk S tS C' tC K) (kG fmt v0 v1 v2 v3 v4 L++[some (.arr ve 26 [.lst 1 (Qb S) tS,.lst 4 (C'.map Cl.v) tC]),some (.map vm (kEs K)),some (.arr vk 123 [.mp 6 vm]),y]):=fun K y=>by
  have:=Xd 8 (kG fmt v0 v1 v2 v3 v4 L++[some (.arr ve 26 [.lst 1 (Qb S) tS,.lst 4 (C'.map Cl.v) tC]),some (.map vm (kEs K)),some (.arr vk 123 [.mp 6 vm]),y])
  exact this
 refine CV.use 1000 (CV.of hT QgH (hone _ _)) fun u σ hu=>?_
 obtain ⟨rfl,t3,ht3,rfl⟩:=hu
 simp -implicitDefEqProofs (disch:=omega) only [go_sem,↓reduceIte,reduceCtorEq,rq,rL,kG_6,kGs_6,QbV,Qjr,nA,cA,and_true,hadd,e2]
 refine ⟨_,_,Shift.drop (o':=kG fmt v0 v1 v2 v3 v4 L++Qjr ve vm vk S tS C' tC (K++[(x,r)])) (t':=t3) (hsub _ _) (lR _) (by simp [kG,Qjr]),t3,by omega,?_⟩
 simp -implicitDefEqProofs (disch:=omega) only [go_sem,↓reduceIte,reduceCtorEq,rq,hs2,s1]
end
variable {L:List Nd}
theorem Qdd (hok:okN L):fit L:=by
 intro x h0 h1
 obtain ⟨d,hd⟩:∃ d,L[x.toNat]?=some d:=⟨_,List.getElem?_eq_getElem (by omega)⟩
 have e:nd L x=d:=by simp [nd,List.getD_eq_getElem?_getD,hd]
 rw [e]
 obtain ⟨hp,h2,hk⟩:=Qpg (hok _ d hd).2.2
 exact ⟨hk,by omega,by omega⟩
theorem nd_i64 (hok:okN L) (x:Int):i64 (nd L x).n:=by
 unfold nd
 rw [List.getD_eq_getElem?_getD]
 cases h:L[x.toNat]? with
 | none=>simp [i64,zeroNd]
 | some d=>exact (hok _ d h).1
def QnJ (K:List (Int × Int)) (ids:List Int) (i n:Nat):List V:=Qb ((ids.take i).map fun x=>(kAt K x).getD 0)++List.replicate (n - i) (.int .i64 0)
variable {i n:Nat} {ids:List Int} {K:List (Int × Int)}
theorem Qrb (h:i≤n) (h2:ids.length=n):(QnJ K ids i n).length=n:=by simp [QnJ,Qb]; omega
theorem QzE {x y:Int} (hx:ids[i]?=some x) (hn:ids.length=n) (hk:kAt K x=some y):(QnJ K ids i n).set i (.int .i64 y)=QnJ K ids (i+1) n:=by
 have hlt:=(List.getElem?_eq_some_iff.1 hx).1
 have h1:(Qb ((ids.take i).map fun x=>(kAt K x).getD 0)).length=i:=by simp [Qb]; omega
 have h2:n - i=(n - (i+1))+1:=by omega
 rw [QnJ,QnJ,QbS hx,List.set_append,if_neg (by omega),h1,Nat.sub_self,h2,List.replicate_succ,List.set_cons_zero]
 simp [Qb,hk]
section
attribute [local go_sem] nFq nT cA lC lN nA lR Nat.mul_one zA Option.getD_none Option.getD_some Option.isSome_none Option.isSome_some Qjr and_true decide_true kG_6 kG_7 kG_8 QLv QbV Qh1 Q3 Qi true_and true_implies QmR QmQ QmP QmO QmN QmM QmL
abbrev ouJ (fmt:Int→List UInt8) (v0 v1 v2 v3 v4 ve vm vk vo t:Nat) (L:List Nd) (S:List Int) (tS:Bool) (C':List Cl) (tC:Bool) (K:List (Int × Int)) (ids:List Int) (tr:Bool):Nat→Fr→H→Prop:=fun i fr σ=>(∀ x∈ids.take i,(kAt K x).isSome=true)∧Qd fr 8=.ptr 7 vk 0∧Qd fr 14=.sl 8 vo 0 1 ids.length none∧Qd fr 44=.lst 1 (Qb ids) tr∧Qd fr 45=.int .i64 ids.length∧Qd fr 46=.int .i64 ((i:Nat):Int)∧σ=⟨t,kG fmt v0 v1 v2 v3 v4 L++(Qjr ve vm vk S tS C' tC K++[some (.arr vo 2 (QnJ K ids i ids.length))])⟩
abbrev ouE (fmt:Int→List UInt8) (v0 v1 v2 v3 v4 ve vm vk vo t:Nat) (L:List Nd) (S:List Int) (tS:Bool) (C':List Cl) (tC:Bool) (K:List (Int × Int)) (ids:List Int):AE→Fr→H→Prop:=fun e fr σ=>(e=.ret∧(∃ x∈ids,kAt K x=none)∧Qd fr 6=.lst 0 [] true∧Qd fr 7=.bool false∧∃ i,σ=⟨t,kG fmt v0 v1 v2 v3 v4 L++(Qjr ve vm vk S tS C' tC K++[some (.arr vo 2 (QnJ K ids i ids.length))])⟩)∨(e=.ex 2∧(∀ x∈ids,(kAt K x).isSome=true)∧Qd fr 14=.sl 8 vo 0 1 ids.length none∧σ=⟨t,kG fmt v0 v1 v2 v3 v4 L++(Qjr ve vm vk S tS C' tC K++[some (.arr vo 2 (QnJ K ids ids.length ids.length))])⟩)
theorem Qw2 {fmt:Int→List UInt8} {v0 v1 v2 v3 v4 ve vm vk vo t i:Nat} {L:List Nd} {S:List Int} {tS tC tr:Bool} {C':List Cl} {K:List (Int × Int)} {ids:List Int} (hl:ids.length≤1000000) {x:Int} (hx:ids[i]?=some x) {fr:Fr} {σ:H} (hJ:ouJ fmt v0 v1 v2 v3 v4 ve vm vk vo t L S tS C' tC K ids tr i fr σ) :
 W P G 65 5 (zg QmR [] (.seq (zw 47 .skip (.exit 2)) (.seq (.block 3 (zg QmQ [48,49,50] (zg QmP [52,53,54,51,55,56] (.seq (zg QmO [57] (zw 58 (zg QmN [] .ret) .skip)) (.reg QmM [59,60,61,62]))))) (.reg QmL [63])))) fr σ (Qbb (fun fr σ=>∃ fr' σ',Shift G 65 5 fr σ fr' σ'∧ouJ fmt v0 v1 v2 v3 v4 ve vm vk vo t L S tS C' tC K ids tr (i+1) fr' σ') (ouE fmt v0 v1 v2 v3 v4 ve vm vk vo t L S tS C' tC K ids)):=by
 obtain ⟨hall,f8,f14,f44,f45,f46,rfl⟩:=hJ
 have hlt:=(List.getElem?_eq_some_iff.1 hx).1
 have hD:=Qb9 hx
 have e2:=w_nx hlt (by omega)
 have hol:(QnJ K ids i ids.length).length=ids.length:=Qrb (by omega) rfl
 cases hk:kAt K x with
 | none =>
   refine Qh [(8,.ptr 7 vk 0),(14,.sl 8 vo 0 1 ids.length none),(44,.lst 1 (Qb ids) tr),(45,.int .i64 ids.length),(46,.int .i64 ((i:Nat):Int))] ⟨f8,f14,f44,f45,f46,trivial⟩  1000 ?_
   simp -implicitDefEqProofs (disch:=omega) only [go_sem,↓reduceIte,rA,rq,rT,hlt,hD,hk,Option.map_none]
   exact .inl ⟨rfl,⟨x,List.mem_of_getElem? hx,hk⟩,by simp -implicitDefEqProofs (disch:=omega) only [go_sem,↓reduceIte,rq],by simp -implicitDefEqProofs (disch:=omega) only [go_sem,↓reduceIte,rq],i,rfl⟩
 | some y =>
   have hs:=QzE hx rfl hk
   rw [List.set_eq_take_append_cons_drop,if_pos (by omega)] at hs
   have hs':List.take i (QnJ K ids i ids.length)++[V.int .i64 y]++List.drop (i+1) (QnJ K ids i ids.length)=QnJ K ids (i+1) ids.length:=by rw [aA]; exact hs
   refine Qh [(8,.ptr 7 vk 0),(14,.sl 8 vo 0 1 ids.length none),(44,.lst 1 (Qb ids) tr),(45,.int .i64 ids.length),(46,.int .i64 ((i:Nat):Int))] ⟨f8,f14,f44,f45,f46,trivial⟩  1000 ?_
   simp -implicitDefEqProofs (disch:=omega) only [go_sem,↓reduceIte,rA,rq,rL,rT,hlt,hD,e2,hk,Option.map_some,hol]
   refine ⟨_,_,Shift.refl _ _ _ _,fun w hw=>?_,?_⟩
   ·rw [QbS hx] at hw
    rcases List.mem_append.1 hw with h | h
    ·exact hall w h
    ·rw [List.mem_singleton.1 h,hk]; rfl
   ·simp -implicitDefEqProofs (disch:=omega) only [go_sem,↓reduceIte,rq,hs']
end
section
attribute [local go_sem] nFq lR zA decide_false Q3 QeH QHn QHm Qwl QmR QmQ QmP QmO QmN QmM QmL Qwk QHl QHk QsG QsF QsE QsD QsC QHj
def kEx (t:Nat) (o:List (Option Ob)) (σ:H):Prop:=∃ t' ex,t≤t'∧σ=⟨t',o++ex⟩
theorem QLb:(Value.map none).oneCell'=true:=rfl
theorem c_All0 (hT:Qe P tab) (SO:Q1 P) {fmt:Int→List UInt8} {v0 v1 v2 v3 v4 t:Nat} {L:List Nd} (hL:L.length≤1000000) (hok:okN L) (S:List Int) (hS:∀ x∈S,i64 x) (tS:Bool) (C':List Cl) (hC:C'.length≤1000000) (hCn:∀ c∈C',i64 c.n) (tC:Bool) (ids:List Int) (tr:Bool) (hil:ids.length≤1000000) :
 C P G 5 QdB [.ptr 1 v0 0,QiX S tS 4 C' tC,.lst 1 (Qb ids) tr] ⟨t,kG fmt v0 v1 v2 v3 v4 L⟩ fun v σ=>(v=.tup [.lst 0 [] true,.bool false]∧(∃ x∈ids,kAt (knows S C' L (XP L ids)) x=none)∧kEx t (kG fmt v0 v1 v2 v3 v4 L) σ)∨(∃ vo t' ve vm vk,t≤t'∧v=.tup [.sl 8 vo 0 1 ids.length none,.bool true]∧(∀ x∈ids,(kAt (knows S C' L (XP L ids)) x).isSome=true)∧σ=⟨t',kG fmt v0 v1 v2 v3 v4 L++(Qjr ve vm vk S tS C' tC (knows S C' L (XP L ids))++[some (.arr vo 2 (QnJ (knows S C' L (XP L ids)) ids ids.length ids.length))])⟩):=by
 refine Qo hT QkQ (by simp [QeH]) (Qm 1000 ?_)
 simp -implicitDefEqProofs (disch:=omega) only [go_sem,↓reduceIte,reduceCtorEq,rA,rq,rL,QiX,QLb,Qh7,Qmu,kG_7,kGs_7,Qjr,lN,lC,nA,cA,and_true]
 have hU:=fun t ex=>QIi (P:=P) (G:=G) hT SO (base:=5) (fmt:=fmt) (v0:=v0) (v1:=v1) (v2:=v2) (v3:=v3) (v4:=v4) (t:=t) (L:=L) (ex:=ex) hL hok.wf ids 1 tr (.inl rfl) (by omega)
 have hUb:∀ x∈XP L ids,0≤x∧x<L.length:=QaF
 have hUn:(XP L ids).Nodup:=QfK
 have hUl:(XP L ids).length≤1000000:=by have:=QeV L.length (XP L ids) QfK QaF; omega
 generalize XP L ids=U at *
 refine call hT Qa4 (hU _ _) 1000 fun v σ hv=>?_
 obtain ⟨rfl,t1,ht1,rfl⟩:=hv
 simp -implicitDefEqProofs (disch:=omega) only [go_sem,↓reduceIte,reduceCtorEq,rq,lM]
 refine Yn U (alJ fmt v0 v1 v2 v3 v4 t (t+1) (t+1+1) t1 1 L S tS C' tC ids tr U) (alE fmt v0 v1 v2 v3 v4 t (t+1) (t+1+1) t1 1 L S tS C' tC ids tr U) ⟨t1,lR _,?_⟩ (fun i x hx fr σ hJ=>QyH hT (Qdd hok) (nd_i64 hok) hS hC hCn hUb hUn hUl hx hJ) (fun i hi fr σ hJ=>?_) (fun e fr σ hE=>?_)
 ·simp -implicitDefEqProofs (disch:=omega) only [go_sem,↓reduceIte,reduceCtorEq,rq,Qjr,true_and]
  exact ⟨rfl,rfl,rfl,rfl⟩
 ·obtain ⟨t2,ht2,f0,f2,f8,f9,f23,f24,f25,rfl⟩:=hJ
  refine Qm 1000 ?_
  simp -implicitDefEqProofs (disch:=omega) only [go_sem,↓reduceIte,Qjr,f24,f25,hi,Nat.lt_irrefl,List.take_length]
  exact ⟨rfl,t2,ht2,by simp -implicitDefEqProofs (disch:=omega) only [go_sem,↓reduceIte,rq,f2],by simp -implicitDefEqProofs (disch:=omega) only [go_sem,↓reduceIte,rq,f8],rfl⟩
 ·obtain ⟨rfl,t2,ht2,f2,f8,rfl⟩:=hE
  refine XN [(2,.lst 1 (Qb ids) tr),(8,.ptr 7 (t+1+1) 0)] ⟨f2,f8,trivial⟩ 1000 ?_
  simp -implicitDefEqProofs (disch:=omega) only [go_sem,↓reduceIte,rA,rq,Qh7,Qmu,Qjr,Qi,lN,lC,nA,cA,true_and,and_true]
  refine Yn ids (ouJ fmt v0 v1 v2 v3 v4 t (t+1) (t+1+1) t2 (t2+1) L S tS C' tC (knows S C' L U) ids tr) (ouE fmt v0 v1 v2 v3 v4 t (t+1) (t+1+1) t2 (t2+1) L S tS C' tC (knows S C' L U) ids) ⟨by simp,?_⟩ (fun i x hx fr σ hJ=>Qw2 hil hx hJ) (fun i hi fr σ hJ=>?_) (fun e fr σ hE=>?_)
  ·simp -implicitDefEqProofs (disch:=omega) only [go_sem,↓reduceIte,rq,Qjr,nA,cA,true_and]
   have ho:QnJ (knows S C' L U) ids 0 ids.length=(List.replicate ids.length [V.int .i64 0]).flatten:=by
    simp only [QnJ,tZ,List.map_nil,Qb,nA,Nat.sub_zero]
    induction ids.length with
    | zero=>rfl
    | succ n ih=>rw [List.replicate_succ,List.replicate_succ,List.flatten_cons,← ih]; rfl
   rw [ho]
   exact ⟨rfl,rfl⟩
  ·obtain ⟨hall,f8,f14,f44,f45,f46,rfl⟩:=hJ
   rw [hi,List.take_length] at hall
   refine Qm 1000 ?_
   simp -implicitDefEqProofs (disch:=omega) only [go_sem,↓reduceIte,Qjr,nA,cA,f45,f46,hi,Nat.lt_irrefl]
   exact .inr ⟨rfl,hall,by simp -implicitDefEqProofs (disch:=omega) only [go_sem,↓reduceIte,rq,f14],rfl⟩
  ·rcases hE with ⟨rfl,hn,f6,f7,i,rfl⟩ | ⟨rfl,hall,f14,rfl⟩
   ·refine Qg 1000 ?_
    simp -implicitDefEqProofs (disch:=omega) only [go_sem,Qjr,nA,cA,true_and,f6,f7]
    exact .inl ⟨hn,t2+1,_,by omega,rfl⟩
   ·refine Qg 1000 ?_
    simp -implicitDefEqProofs (disch:=omega) only [go_sem,↓reduceIte,rq,Qjr,nA,cA,f14]
    exact .inr ⟨t2,t2+1,t,t+1,t+1+1,by omega,rfl,hall,rfl,rfl⟩
end
def QbO (S:List Int) (C:List Cl) (v:Int→Int) (d:Nd):Int :=
 if d.kind=1 then d.n else if d.kind=2 then QuL S d.n else if d.kind=3 then Qij C d.a d.n (v d.y) else doW d.op (v d.x) (v d.y)
variable {d:Nd} {v':Int→Int} {S l ids:List Int}
theorem QtV {S':List Int} {C C':List Cl} {v:Int→Int} (hk:d.kind=1∨d.kind=2∨d.kind=3∨d.kind=4) (h:∀ p∈d.parts,v p=v' p)
 (hs:d.kind=2→QuL S d.n=QuL S' d.n) (hc:d.kind=3→∀ y,Qij C d.a d.n y=Qij C' d.a d.n y):QbO S C v d=QbO S' C' v' d:=by
 unfold QbO
 rcases hk with k | k | k | k
 ·rw [if_pos k,if_pos k]
 ·simp [k,hs k]
 ·have:=h d.y (by simp [Nd.parts,k])
  simp [k,this,hc k]
 ·have h1:=h d.x (by simp [Nd.parts,k])
  have h2:=h d.y (by simp [Nd.parts,k])
  simp [k,h1,h2]
theorem QkX {C:List Cl} {v:Int→Int} (hk:d.kind=1∨d.kind=2∨d.kind=3∨d.kind=4) (h:∀ p∈d.parts,v p=v' p):QbO S C v d=QbO S C v' d :=
 QtV hk h (fun _=>rfl) (fun _ _=>rfl)
def QoW (S:List Int) (C:List Cl) (out:List Int) (d:Nd):List Int:=out++[QbO S C (fun p=>out.getD p.toNat 0) d]
def vals (S:List Int) (C:List Cl) (L:List Nd):List Int:=L.foldl (QoW S C) []
def val (S:List Int) (C:List Cl) (L:List Nd) (x:Int):Int:=(vals S C L).getD x.toNat 0
variable {L:List Nd}
theorem QwJ {C:List Cl}:vals S C (L++[d])=vals S C L++[QbO S C (fun p=>(vals S C L).getD p.toNat 0) d]:=by simp [vals,QoW]
theorem QoT (S:List Int) (C:List Cl):∀ (L:List Nd) (o:List Int),(L.foldl (QoW S C) o).length=o.length+L.length
 | [],o=>by simp
 | d::L,o=>by rw [List.foldl_cons,QoT S C L]; simp [QoW]; omega
theorem QsK {C:List Cl}:(vals S C L).length=L.length:=by simpa [vals] using QoT S C L []
theorem QoV (S:List Int) (C:List Cl):∀ (L:List Nd) (o:List Int),∃ r,L.foldl (QoW S C) o=o++r
 | [],o=>⟨[],by simp⟩
 | d::L,o=>by
   obtain ⟨r,hr⟩:=QoV S C L (QoW S C o d)
   exact ⟨_,by rw [List.foldl_cons,hr,QoW,aA]⟩
variable {i n:Nat}
theorem Quf {r:List Int} (h:i<l.length):(l++r).getD i 0=l.getD i 0:=by
 rw [List.getD_eq_getElem?_getD,List.getD_eq_getElem?_getD,List.getElem?_append_left h]
variable {x u p:Int}
theorem Que (h:l.length=i):(l++[x]).getD i 0=x:=by
 rw [List.getD_eq_getElem?_getD,List.getElem?_append_right (by omega),h,Nat.sub_self]; rfl
theorem QsJ {C:List Cl} (hi:i<n) (hn:n≤L.length):(vals S C (L.take n)).getD i 0=(vals S C L).getD i 0:=by
 obtain ⟨r,hr⟩:=QoV S C (L.drop n) (vals S C (L.take n))
 have e:vals S C L=vals S C (L.take n)++r:=by
  rw [← hr]
  conv=>lhs; rw [← List.take_append_drop n L]
  rw [vals,vals,List.foldl_append]
 rw [e,Quf]
 rw [QsK,List.length_take]
 omega
theorem QH9 (h0:0≤x) (h1:x<L.length):L[x.toNat]?=some (nd L x):=by
 unfold nd
 rw [List.getD_eq_getElem?_getD,List.getElem?_eq_getElem (by omega)]
 rfl
theorem QgF {C:List Cl} (hwf:gwf L) (hfit:fit L) (h0:0≤x) (h1:x<L.length):val S C L x=QbO S C (val S C L) (nd L x):=by
 have hg:=QH9 h0 h1
 have ht:=QbS hg
 have hl:(vals S C (L.take x.toNat)).length=x.toNat:=by rw [QsK,List.length_take]; omega
 have e:val S C L x=(vals S C (L.take (x.toNat+1))).getD x.toNat 0:=by rw [QsJ (by omega) (by omega)]; rfl
 rw [e,ht,QwJ,Que hl]
 refine QkX (hfit x h0 h1).1 fun p hp=>?_
 have:=hwf _ _ hg p hp
 exact QsJ (by omega) (by omega)
theorem QwP {C:List Cl} {v:Int→Int} (hS:∀ x∈S,i64 x) (hC:∀ c∈C,i64 c.n) (hv:∀ p,i64 (v p)) (hd:i64 d.n):i64 (QbO S C v d):=by
 refine XO hd (XO ?_ (XO ?_ (Qyc (hv _) (hv _))))
 ·unfold QuL
  refine XO (by unfold i64; omega) ?_
  rw [List.getD_eq_getElem?_getD]
  cases h:S[d.n.toNat]? with
  | none=>simp [i64]
  | some x=>exact hS x (List.mem_of_getElem? h)
 ·unfold Qij
  refine XO (by unfold i64; omega) ?_
  cases h:C[(QqJ (isC d.a d.n (v d.y)) C 0).toNat]? with
  | none=>simp [i64]
  | some c=>exact hC c (List.mem_of_getElem? h)
theorem Qto (h:∀ x∈l,i64 x) (n:Nat):i64 (l.getD n 0):=by
 rw [List.getD_eq_getElem?_getD]
 cases e:l[n]? with
 | none=>simp [i64]
 | some x=>exact h x (List.mem_of_getElem? e)
theorem QoU {S:List Int} {C:List Cl} (hS:∀ x∈S,i64 x) (hC:∀ c∈C,i64 c.n):∀ (L:List Nd),(∀ d∈L,i64 d.n)→∀ (o:List Int),(∀ x∈o,i64 x)→∀ x∈L.foldl (QoW S C) o,i64 x
 | [],_,o,ho=>ho
 | d::L,hL,o,ho=>by
   rw [List.foldl_cons]
   refine QoU hS hC L (fun d hd=>hL d (by simp [hd])) _ fun x hx=>?_
   rcases List.mem_append.1 hx with h | h
   ·exact ho x h
   ·rw [List.mem_singleton.1 h]
    exact QwP hS hC (fun p=>Qto ho _) (hL d (by simp))
theorem QKw {C:List Cl} (hS:∀ x∈S,i64 x) (hC:∀ c∈C,i64 c.n) (hL:∀ d∈L,i64 d.n) (x:Int):i64 (val S C L x) :=
 Qto (QoU hS hC L hL [] (by simp)) _
theorem QKW (hok:okN L):∀ d∈L,i64 d.n:=fun d hd=>by
 obtain ⟨i,hi⟩:=List.mem_iff_getElem?.1 hd
 exact (hok i d hi).1
theorem Qtk {K:List (Int × Int)} {v:Int}:kAt (K++[(u,v)]) x=(kAt K x).or (if x=u then some v else none):=by
 simp only [kAt,List.find?_append]
 cases h:K.find? fun p=>decide (x=p.1) with
 | some p=>simp
 | none=>by_cases hx:x=u <;> simp [hx]
theorem QcP {U:List Int} (hs:U.Pairwise (·<·)) (hu:U[n]?=some u) (hp:p∈U) (hlt:p<u):p∈U.take n:=by
 obtain ⟨j,hj⟩:=List.mem_iff_getElem?.1 hp
 rcases Nat.lt_or_ge j n with h | h
 ·exact List.mem_iff_getElem?.2 ⟨j,by rw [List.getElem?_take,if_pos h,hj]⟩
 ·exfalso
  rcases Nat.lt_or_eq_of_le h with h | h
  ·have h1:=(List.getElem?_eq_some_iff.1 hu)
   have h2:=(List.getElem?_eq_some_iff.1 hj)
   have:=List.pairwise_iff_getElem.1 hs n j h1.1 h2.1 h
   rw [h1.2,h2.2] at this
   omega
  ·subst h
   rw [hu] at hj
   cases hj
   omega
theorem Qpn {S:List Int} {C:List Cl} {L:List Nd} (hwf:gwf L) (hfit:fit L) {U:List Int} (hr:∀ x∈U,0≤x∧x<L.length) (hs:U.Pairwise (·<·)) (hc:∀ x∈U,∀ p∈pts L x,p∈U) :
 ∀ n,n≤U.length→∀ x,kAt (knows S C L (U.take n)) x=if x∈U.take n then some (val S C L x) else none
 | 0,_,x=>by simp [knows,kAt]
 | n+1,hn,x=>by
   obtain ⟨u,hu⟩:∃ u,U[n]?=some u:=⟨_,List.getElem?_eq_getElem (by omega)⟩
   have ih:=Qpn (S:=S) (C:=C) hwf hfit hr hs hc n (by omega)
   have hum:=List.mem_of_getElem? hu
   obtain ⟨h0,h1⟩:=hr u hum
   have hv:QiC S C (knows S C L (U.take n)) (nd L u)=val S C L u:=by
    rw [QgF hwf hfit h0 h1]
    refine QkX (v:=fun p=>(kAt (knows S C L (U.take n)) p).getD 0) (hfit u h0 h1).1 fun p hp=>?_
    have hpl:=Qk1 hwf h0 h1 p hp
    have hpm:p∈U.take n:=QcP hs hu (hc u hum p hp) hpl.2
    show (kAt (knows S C L (U.take n)) p).getD 0=_
    rw [ih p,if_pos hpm]
    rfl
   rw [QbS hu,Qms,Qtk,ih,hv]
   by_cases hx:x∈U.take n
   ·simp [hx]
   ·by_cases hxu:x=u
    ·subst hxu; simp [hx]
    ·simp [hx,hxu]
theorem QsL (hwf:gwf L):x∈XP L ids↔∃ r∈ids,(0≤r∧r<L.length)∧x∈XP L [r]:=by
 rw [Qnf,Qpf hwf ids [] (by simp)]
 simp
theorem QcB (hwf:gwf L) (hx:x∈XP L ids) (hp:p∈pts L x):p∈XP L ids:=by
 rw [QsL hwf] at hx ⊢
 obtain ⟨r,h1,h2,h3⟩:=hx
 exact ⟨r,h1,h2,QkH hwf h3 hp⟩
theorem Qt8 {C:List Cl} (hwf:gwf L) (hfit:fit L) (ids:List Int) (hx:x∈ids) :
 kAt (knows S C L (XP L ids)) x=if 0≤x∧x<L.length then some (val S C L x) else none:=by
 have h:=Qpn (S:=S) (C:=C) hwf hfit (U:=XP L ids) QaF QbZ (fun x hx p hp=>QcB hwf hx hp) _ (lR _) x
 rw [List.take_length] at h
 rw [h]
 by_cases hr:0≤x∧x<L.length
 ·rw [if_pos hr,if_pos ((QsL hwf).2 ⟨x,hx,hr,QeI hwf hr.1 hr.2⟩)]
 ·rw [if_neg hr,if_neg fun hm=>hr (QaF x hm)]
section
attribute [local go_sem] nFq nT cA lC lN nA lR zA and_true QiX kG_5 Qh7 Qrp true_and QhK zqg_0 zqg_1 zqg_2 zqg_3 zqg_4
def inL (L:List Nd) (ids:List Int):Prop:=∀ x∈ids,0≤x∧x<L.length
instance {L:List Nd} {ids:List Int}:Decidable (inL L ids):=by unfold inL; infer_instance
def QyX (S:List Int) (C:List Cl) (L:List Nd) (ids:List Int):V:=if inL L ids then .tup [.lst 1 (Qb (ids.map (val S C L))) false,.bool true] else .tup [.lst 0 [] true,.bool false]
theorem Qt5 {α β:Type} {f g:α→β}:∀ {l:List α},(∀ x∈l,f x=g x)→l.map f=l.map g:=fun h=>List.map_congr_left h
variable {L:List Nd} {v0 v1 v2 v3 v4 t base:Nat} {fmt:Int→List UInt8}
theorem c_All (hT:Qe P tab) (SO:Q1 P) (hL:L.length≤1000000) (hok:okN L) (S:List Int) (hS:∀ x∈S,i64 x) (tS:Bool) (C':List Cl) (hC:C'.length≤1000000) (hCn:∀ c∈C',i64 c.n) (tC:Bool) (ids:List Int) (tr:Bool) (hil:ids.length≤1000000) :
 C P G 5 QdB [.ptr 1 v0 0,QiX S tS 4 C' tC,.lst 1 (Qb ids) tr] ⟨t,kG fmt v0 v1 v2 v3 v4 L⟩ fun v σ=>v=QyX S C' L ids∧∃ t',t≤t'∧σ=⟨t',kG fmt v0 v1 v2 v3 v4 L⟩:=by
 have hku:=fun x hx=>Qt8 (S:=S) (C:=C') hok.wf (Qdd hok) ids (x:=x) hx
 refine Qj 5 (lR _) (QaT (c_All0 hT SO hL hok S hS tS C' hC hCn tC ids tr hil) fun v σ hv=>?_)
 rcases hv with ⟨rfl,⟨x,hx,hn⟩,t',ex,ht,rfl⟩ | ⟨vo,t',ve,vm,vk,ht,rfl,hall,rfl⟩
 ·refine .inl ⟨by rw [Qh7]; omega,?_,t',ht,by simp [kG]⟩
  rw [QyX,if_neg]
  intro hin
  rw [hku x hx,if_pos (hin x hx)] at hn
  cases hn
 ·have hin:inL L ids:=fun x hx=>by
   have h1:=hall x hx
   rw [hku x hx] at h1
   by_cases hr:0≤x∧x<L.length
   ·exact hr
   ·rw [if_neg hr] at h1; cases h1
  have ho:QnJ (knows S C' L (XP L ids)) ids ids.length ids.length=Qb (ids.map (val S C' L)):=by
   rw [QnJ,List.take_length,Nat.sub_self,List.replicate_zero,List.append_nil]
   congr 1
   refine Qt5 fun x hx=>?_
   rw [hku x hx,if_pos (hin x hx)]
   rfl
  rw [ho]
  refine .inr ⟨8,vo,2,Qb (ids.map (val S C' L)),by omega,rfl,QL _,?_,?_,t',ht,?_⟩
  ·simp [QW,kG,Qjr]
  ·have:=Qug (k:=8) (w:=vo) (ids.map (val S C' L))
   simp only [Zw,QqK,lM] at this ⊢
   rw [this,QyX,if_pos hin]
  ·simp [kG,Q6]
theorem QiA {j:Nat}:∀ (i:Nat) (L:List Nd) (a b:V),(a,b)∈QfX i L→V.under j b=true
 | _,[],_,_,h=>by cases h
 | i,d::l,a,b,h=>by
   simp only [QfX,List.mem_cons,Prod.mk.injEq] at h
   rcases h with ⟨_,rfl⟩ | h
   ·rfl
   ·exact QiA (i+1) l a b h
theorem kG_und:Qd6 5 (kG fmt v0 v1 v2 v3 v4 L)=true:=by
 have h:=QiA (j:=5) 0 L
 simp [kG,Qd6,Ob.under,QU,V.under,Ql _ (Qbi L),Ql _ (XR _)]
 exact h
theorem Qxy {f:Nat} {args:List V} {r:V} {ex:List (Option Ob)} (h:C P G 5 f (.ptr 1 v0 0::args) ⟨t,kG fmt v0 v1 v2 v3 v4 L⟩ fun v σ=>v=r∧∃ t',t≤t'∧σ=⟨t',kG fmt v0 v1 v2 v3 v4 L⟩) (ha:Qc args=true) (hr:Qf r=true) :
 C P G base f (.ptr 1 v0 0::args) ⟨t,kG fmt v0 v1 v2 v3 v4 L++ex⟩ fun v σ=>v=r∧∃ t',t≤t'∧σ=⟨t',kG fmt v0 v1 v2 v3 v4 L++ex⟩ :=
 C_read (oS:=kG fmt v0 v1 v2 v3 v4 L) h kG_und (by rw [Qrp]; simp [QU,V.under,Ql _ ha]) (under_nameless _ hr)
theorem QMz (S:List Int) (C:List Cl) (L:List Nd) (ids:List Int):Qf (QyX S C L ids)=true:=by unfold QyX; split <;> rfl
theorem k_All (hT:Qe P tab) (SO:Q1 P) {ex:List (Option Ob)} (hL:L.length≤1000000) (hok:okN L) (S:List Int) (hS:∀ x∈S,i64 x) (tS:Bool) (C':List Cl) (hC:C'.length≤1000000) (hCn:∀ c∈C',i64 c.n) (tC:Bool) (ids:List Int) (tr:Bool) (hil:ids.length≤1000000) :
 C P G base QdB [.ptr 1 v0 0,QiX S tS 4 C' tC,.lst 1 (Qb ids) tr] ⟨t,kG fmt v0 v1 v2 v3 v4 L++ex⟩ fun v σ=>v=QyX S C' L ids∧∃ t',t≤t'∧σ=⟨t',kG fmt v0 v1 v2 v3 v4 L++ex⟩ :=
 Qxy (c_All hT SO hL hok S hS tS C' hC hCn tC ids tr hil) rfl (QMz ..)
def ofV (S:List Int) (C:List Cl) (L:List Nd) (x:Int):V:=if 0≤x∧x<L.length then .tup [.int .i64 (val S C L x),.bool true] else .tup [.int .i64 0,.bool false]
theorem c_Of (hT:Qe P tab) (SO:Q1 P) (hL:L.length≤1000000) (hok:okN L) (S:List Int) (hS:∀ x∈S,i64 x) (tS:Bool) (C':List Cl) (hC:C'.length≤1000000) (hCn:∀ c∈C',i64 c.n) (tC:Bool) (x:Int) :
 C P G 5 Qc8 [.ptr 1 v0 0,QiX S tS 4 C' tC,.int .i64 x] ⟨t,kG fmt v0 v1 v2 v3 v4 L⟩ fun v σ=>v=ofV S C' L x∧∃ t',t≤t'∧σ=⟨t',kG fmt v0 v1 v2 v3 v4 L⟩:=by
 have hA:=fun t tr ex=>k_All (P:=P) (G:=G) hT SO (base:=5) (fmt:=fmt) (v0:=v0) (v1:=v1) (v2:=v2) (v3:=v3) (v4:=v4) (t:=t) (ex:=ex) hL hok S hS tS C' hC hCn tC [x] tr (by simp)
 refine Qj 5 (lR _) (Qo hT QbT (by simp [QhK]) (Qm 1000 ?_))
 simp -implicitDefEqProofs (disch:=omega) only [go_sem,↓reduceIte,reduceCtorEq,rA,rq]
 refine call hT QkQ (hA _ _ _) 1000 fun v σ hv=>?_
 obtain ⟨rfl,t2,ht2,rfl⟩:=hv
 by_cases hr:0≤x∧x<L.length
 ·have e:QyX S C' L [x]=.tup [.lst 1 [.int .i64 (val S C' L x)] false,.bool true]:=by rw [QyX,if_pos (by simpa [inL] using hr)]; rfl
  have e2:ofV S C' L x=.tup [.int .i64 (val S C' L x),.bool true]:=by rw [ofV,if_pos hr]
  rw [e,e2]
  simp -implicitDefEqProofs (disch:=omega) only [go_sem,↓reduceIte,reduceCtorEq,rA,rq,rL,rT,Int.reduceToNat,Int.reduceLE]
  exact ⟨t2,by omega,rfl,by simp [kG]⟩
 ·have e:QyX S C' L [x]=.tup [.lst 0 [] true,.bool false]:=by rw [QyX,if_neg (by simpa [inL] using hr)]
  have e2:ofV S C' L x=.tup [.int .i64 0,.bool false]:=by rw [ofV,if_neg hr]
  rw [e,e2]
  simp -implicitDefEqProofs (disch:=omega) only [go_sem,↓reduceIte,reduceCtorEq,rA,rq,rL,rT]
  exact ⟨t2,by omega,rfl,by simp [kG]⟩
theorem ofV_nl (S:List Int) (C:List Cl) (L:List Nd) (x:Int):Qf (ofV S C L x)=true:=by unfold ofV; split <;> rfl
theorem k_Of (hT:Qe P tab) (SO:Q1 P) {ex:List (Option Ob)} (hL:L.length≤1000000) (hok:okN L) (S:List Int) (hS:∀ x∈S,i64 x) (tS:Bool) (C':List Cl) (hC:C'.length≤1000000) (hCn:∀ c∈C',i64 c.n) (tC:Bool) (x:Int) :
 C P G base Qc8 [.ptr 1 v0 0,QiX S tS 4 C' tC,.int .i64 x] ⟨t,kG fmt v0 v1 v2 v3 v4 L++ex⟩ fun v σ=>v=ofV S C' L x∧∃ t',t≤t'∧σ=⟨t',kG fmt v0 v1 v2 v3 v4 L++ex⟩ :=
 Qxy (c_Of hT SO hL hok S hS tS C' hC hCn tC x) rfl (ofV_nl ..)
end
end Go.Proofs.YtoeicjlflmmmcaaGreatDoor
