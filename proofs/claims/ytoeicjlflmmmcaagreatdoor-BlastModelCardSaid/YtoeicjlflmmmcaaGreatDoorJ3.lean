/- What symbols are known to be. -/
import Derived.Test.YtoeicjlflmmmcaaGreatDoorJ2
open Nat renaming reduceEqDiff → rq, reduceAdd → rA, reduceLeDiff → rL, reduceLT → rT, zero_add → zA, le_refl → lR, zero_le → zL, add_zero → aZ
open List renaming length_cons → lC, length_nil → lN, take_succ_cons → tSq, length_append → lA, nil_append → nA, cons_append → cA, append_assoc → aA, take_nil → tN, take_zero → tZ, length_map → lM
open Bool renaming not_false → nFq, not_true → nT
namespace Go.Proofs.YtoeicjlflmmmcaaGreatDoor
open Go Go.Am
set_option maxRecDepth 100000
variable {P:Program} {G:Nat→Option V}
set_option maxHeartbeats 1000000
section
attribute [local go_sem] lC lN nA aZ lR zA zL and_true decide_false decide_true ge_iff_le Xq Qo true_implies ZQ Qy8 Qy7 Qy6 Qy5
structure Cl where
 arr:Int
 ver:Int
 at':Int
 n:Int
def Cl.v (c:Cl):V:=.agg [.int .i64 c.arr,.int .i64 c.ver,.int .i64 c.at',.int .i64 c.n]
def QhC (S:List Int) (tS:Bool) (zC:Nat) (C:List Cl) (tC:Bool):V:=.agg [.lst 1 (Qb S) tS,.lst zC (C.map Cl.v) tC]
def QqF (S:List Int) (k:Int):Int:=if k<0∨(S.length:Int)≤k then 0 else S.getD k.toNat 0
theorem c_Sym (hT:Qe P tab) (S:List Int) (tS:Bool) (zC:Nat) (C:List Cl) (tC:Bool) (k:Int):Pure P G Qdk [QhC S tS zC C tC,.int .i64 k] fun v=>v=.int .i64 (QqF S k):=by
 intro t
 refine Qh 0 (zL _) (Qq hT Qc4 (by simp [ZQ]) (Qn 14 ?_))
 by_cases h1:k<0
 ·have h1':decide (k<0)=true:=by simpa using h1
  simp -implicitDefEqProofs (disch:=omega) only [go_sem,↓reduceIte,reduceCtorEq,rq,QhC,QqF,h1,true_or]
  iterate 9 (try (refine Qs 4 ?_; simp -implicitDefEqProofs (disch:=omega) only [go_sem,↓reduceIte,reduceCtorEq,rq]))
 ·have h1':decide (k<0)=false:=by simpa using h1
  by_cases h2:(S.length:Int)≤k
  ·have h2':decide ((S.length:Int)≤k)=true:=by simpa using h2
   simp -implicitDefEqProofs (disch:=omega) only [go_sem,↓reduceIte,reduceCtorEq,rA,rq,rL,QhC,QqF,h1,h2,or_true]
   iterate 9 (try (refine Qs 4 ?_; simp -implicitDefEqProofs (disch:=omega) only [go_sem,↓reduceIte,reduceCtorEq,rA,rq,h2]))
  ·have h2':decide ((S.length:Int)≤k)=false:=by simpa using h2
   obtain ⟨x,hx⟩:∃ x,S[k.toNat]?=some x:=⟨_,List.getElem?_eq_getElem (by omega)⟩
   have hg:=Qio hx
   have hg2:S.getD k.toNat 0=x:=by simp [List.getD_eq_getElem?_getD,hx]
   simp -implicitDefEqProofs (disch:=omega) only [go_sem,↓reduceIte,reduceCtorEq,rA,rq,rL,QhC,QqF,h1,h2,hg2,or_self]
   iterate 9 (try (refine Qs 4 ?_; simp -implicitDefEqProofs (disch:=omega) only [go_sem,↓reduceIte,reduceCtorEq,rA,rq,rL,h2,hg]))
end
section
attribute [local go_sem] aZ lR Nat.succ_ne_zero zA beq_self_eq_true decide_false decide_true Xq Qv Qw3 Qw2 Qw1 Qw0 QwZ QwY QwX QwW Yq QwV QwU
def TellsC (P:Program) (G:Nat→Option V) (base:Nat) (f:V) (o:List (Option Ob)) (p:Cl→Bool):Prop :=
 ∀ t n,CV P G base f [n.v] ⟨t,o⟩ fun v σ=>v=.bool (p n)∧∃ t',t≤t'∧σ=⟨t',o⟩
def QmV (p:Cl→Bool):List Cl→Nat→Int
 | [],_=>-1
 | n::c,i=>if p n then i else QmV p c (i+1)
theorem Qpo {p:Cl→Bool}:∀ {c:List Cl} {i:Nat},(∀ n∈c,p n=false)→QmV p c i=-1
 | [],_,_=>rfl
 | n::c,i,h=>by rw [QmV,h n (by simp),if_neg (by simp),Qpo fun m hm=>h m (by simp [hm])]
theorem Qni {p:Cl→Bool}:∀ {c:List Cl} {i k:Nat} {n:Cl},(∀ m∈c.take k,p m=false)→c[k]?=some n→p n=true→QmV p c i=((i+k:Nat):Int)
 | [],_,_,_,_,h,_=>by simp at h
 | m::c,i,0,n,_,h,hp=>by simp at h; subst h; simp [QmV,hp]
 | m::c,i,k+1,n,h,hk,hp=>by
   rw [QmV,h m (by simp),if_neg (by simp),Qni (k:=k) (fun m hm=>h m (by simp [hm])) (by simpa using hk) hp]
   congr 1; omega
theorem QbO {l:List Cl} {i:Nat} {x:Cl} (h:l[i]?=some x):(l.map Cl.v).getD i .any=x.v:=by simp [List.getD_eq_getElem?_getD,h]
variable {t:Nat}
theorem Qvu (hT:Qe P tab) {base:Nat} {o:List (Option Ob)} {f:V} {p:Cl→Bool} {c:List Cl} {z:Bool} (hp:TellsC P G base f o p) (hl:c.length≤1000000) :
 C P G base Xt [.lst 4 (c.map Cl.v) z,f] ⟨t,o⟩ fun v σ=>v=.int .i64 (QmV p c 0)∧∃ t',t≤t'∧σ=⟨t',o⟩:=by
 refine Qq hT Xs (by simp [Qv]) (Qn 1000 ?_)
 simp -implicitDefEqProofs (disch:=omega) only [go_sem,↓reduceIte,reduceCtorEq,rq,lM]
 refine QdX (fun m fr σ=>∃ i t',i≤c.length∧m=c.length - i∧(∀ n∈c.take i,p n=false)∧t≤t'∧Qf fr 0=.lst 4 (c.map Cl.v) z∧Qf fr 1=f∧Qf fr 7=.int .i64 c.length∧Qf fr 8=.int .i64 i∧σ=⟨t',o⟩)
  (fun e fr σ=>∃ t',t≤t'∧σ=⟨t',o⟩∧((e=.ret∧Qf fr 4=.int .i64 (QmV p c 0))∨(e=.ex 0∧QmV p c 0=-1)))
  (m0:=c.length) ⟨0,t,by omega,rfl,by simp,by omega,?_⟩ (fun m fr σ hJ=>?_) (fun e fr σ hE=>?_)
 ·simp -implicitDefEqProofs (disch:=omega) only [go_sem,↓reduceIte,reduceCtorEq,rq]
  simp
 ·obtain ⟨i,t',hi,rfl,hno,ht,f0,f1,f7,f8,rfl⟩:=hJ
  refine Qn 1000 ?_
  rcases Nat.lt_or_ge i c.length with hlt | hge
  ·obtain ⟨n,hni⟩:∃ n,c[i]?=some n:=⟨_,List.getElem?_eq_getElem hlt⟩
   have hD:=QbO hni
   have e2:=w_nx hlt (by omega)
   simp -implicitDefEqProofs (disch:=omega) only [go_sem,↓reduceIte,reduceCtorEq,rA,rq,lM,f0,f1,f7,f8,hlt,hD,Cl.v,lC,lN,tSq,tZ]
   refine CV.use 1000 (hp t' n) fun v σ hv=>?_
   obtain ⟨rfl,t2,ht2,rfl⟩:=hv
   cases hpn:p n with
   | true =>
     simp -implicitDefEqProofs (disch:=omega) only [go_sem,↓reduceIte,reduceCtorEq,rq]
     rw [Qni hno hni hpn]
     exact ⟨t2,by omega,rfl,by simp⟩
   | false =>
     simp -implicitDefEqProofs (disch:=omega) only [go_sem,↓reduceIte,rq,f8]
     refine ⟨c.length - (i+1),_,_,by omega,Shift.refl _ _ _ _,i+1,t2,by omega,rfl,fun m hm=>?_,by omega,?_⟩
     ·rw [QaP hni] at hm
      simp at hm
      rcases hm with hm | rfl
      ·exact hno m hm
      ·exact hpn
     ·simp -implicitDefEqProofs (disch:=omega) only [go_sem,↓reduceIte,reduceCtorEq,rq,f0,f1,f7,e2]
  ·have hi:i=c.length:=by omega
   subst hi
   simp -implicitDefEqProofs (disch:=omega) only [go_sem,↓reduceIte,reduceCtorEq,rq,f7,f8,Nat.lt_irrefl]
   rw [List.take_length] at hno
   exact ⟨t',ht,rfl,Qpo hno⟩
 ·obtain ⟨t',ht,rfl,hE⟩:=hE
  rcases hE with ⟨rfl,f4⟩ | ⟨rfl,hh⟩
  ·refine Qs 1000 ?_
   simp -implicitDefEqProofs (disch:=omega) only [go_sem,f4]
   exact ⟨t',ht,rfl⟩
  ·refine Qs 1000 ?_
   simp -implicitDefEqProofs (disch:=omega) only [go_sem,↓reduceIte,hh]
   exact ⟨t',ht,rfl⟩
def isC (a w x:Int) (c:Cl):Bool:=decide (c.arr=a∧c.ver=w∧c.at'=x)
def eH (v0 v1 v2 v3:Nat) (e:List V) (a w x:Int):List (Option Ob):=[some (.arr v0 26 e),some (.arr v1 3 [.int .i64 a]),some (.arr v2 2 [.int .i64 w]),some (.arr v3 2 [.int .i64 x])]
theorem Qvx (hT:Qe P tab) {v0 v1 v2 v3:Nat} {e:List V} {a w x:Int} (c:Cl) :
 C P G 0 Qa3 [c.v,.ptr 1 v1 0,.ptr 2 v2 0,.ptr 3 v3 0] ⟨t,eH v0 v1 v2 v3 e a w x⟩ fun v σ=>v=.bool (isC a w x c)∧∃ t',t≤t'∧σ=⟨t',eH v0 v1 v2 v3 e a w x⟩:=by
 refine Qh 4 (zL _) (Qq hT QaY (by simp [Yq]) (Qn 14 ?_))
 by_cases h1:c.arr=a
 ·have h1':decide (c.arr=a)=true:=by simpa using h1
  by_cases h2:c.ver=w
  ·have h2':decide (c.ver=w)=true:=by simpa using h2
   simp -implicitDefEqProofs (disch:=omega) only [go_sem,↓reduceIte,reduceCtorEq,rA,rq,rL,eH,Cl.v,isC,lN,lC,nA,cA,true_implies,true_and,and_self,h1,h2]
   iterate 9 (try (refine Qs 4 ?_; simp -implicitDefEqProofs (disch:=omega) only [go_sem,↓reduceIte,reduceCtorEq,rA,rq,rL,lN,lC,true_implies,true_and,and_true,and_self]))
   exact ⟨rfl,t+1,by omega,rfl⟩
  ·have h2':decide (c.ver=w)=false:=by simpa using h2
   simp -implicitDefEqProofs (disch:=omega) only [go_sem,↓reduceIte,reduceCtorEq,rA,rq,rL,eH,Cl.v,isC,lN,lC,nA,cA,true_implies,false_and,and_false,and_self,h1,h2]
   iterate 9 (try (refine Qs 4 ?_; simp -implicitDefEqProofs (disch:=omega) only [go_sem,↓reduceIte,reduceCtorEq,rA,rq,rL,lN,lC,not_false_eq_true,false_implies,true_implies,true_and,and_true,and_self,h2]))
   exact ⟨t+1,by omega,rfl⟩
 ·have h1':decide (c.arr=a)=false:=by simpa using h1
  simp -implicitDefEqProofs (disch:=omega) only [go_sem,↓reduceIte,reduceCtorEq,rA,rq,rL,eH,Cl.v,isC,lN,lC,nA,cA,not_false_eq_true,false_implies,true_implies,true_and,false_and,and_self,h1]
  iterate 9 (try (refine Qs 4 ?_; simp -implicitDefEqProofs (disch:=omega) only [go_sem,↓reduceIte,reduceCtorEq,rA,rq,rL,lN,lC,true_and,and_true]))
  exact ⟨t+1,by omega,rfl⟩
end
section
attribute [local go_sem] cA lC lM lN nA lR zA zL and_true decide_true eH QhC Xq true_and true_implies Zx Qy4 Qy3 Qy2 Qy1 Qy0
theorem QsT {p:Cl→Bool}:∀ {c:List Cl} {i:Nat},QmV p c i=-1∨∃ k n,c[k]?=some n∧QmV p c i=((i+k:Nat):Int)
 | [],_=>.inl rfl
 | n::c,i=>by
   unfold QmV
   split
   ·exact .inr ⟨0,n,rfl,rfl⟩
   ·rcases QsT (p:=p) (c:=c) (i:=i+1) with h | ⟨k,m,h1,h2⟩
    ·exact .inl h
    ·exact .inr ⟨k+1,m,by simpa using h1,by rw [h2]; congr 1; omega⟩
def Qf9 (C:List Cl) (a w x:Int):Int:=if QmV (isC a w x) C 0<0 then 0 else ((C[(QmV (isC a w x) C 0).toNat]?).map Cl.n).getD 0
theorem c_Cell (hT:Qe P tab) (S:List Int) (tS:Bool) (C':List Cl) (hC:C'.length≤1000000) (tC:Bool) (a w x:Int):Pure P G Qcz [QhC S tS 4 C' tC,.int .i64 a,.int .i64 w,.int .i64 x] fun v=>v=.int .i64 (Qf9 C' a w x):=by
 intro t
 refine Qh 0 (zL _) (Qq hT Qct (by simp [Zx]) (Qn 1000 ?_))
 simp -implicitDefEqProofs (disch:=omega) only [go_sem,↓reduceIte,reduceCtorEq,rA,rq]
 refine call hT Xs (Qvu (p:=isC a w x) (o:=eH t (t+1) (t+1+1) (t+1+1+1) [.lst 1 (Qb S) tS,.lst 4 (C'.map Cl.v) tC] a w x) hT (fun t' n=>CV.of hT QaY (Qvx hT n)) hC) 1000 fun v σ hv=>?_
 obtain ⟨rfl,t2,ht2,rfl⟩:=hv
 rcases QsT (p:=isC a w x) (c:=C') (i:=0) with h | ⟨k,n,h1,h2⟩
 ·have e:Qf9 C' a w x=0:=by rw [Qf9,h]; rfl
  rw [h,e]
  simp -implicitDefEqProofs (disch:=omega) only [go_sem,↓reduceIte,reduceCtorEq,rA,rq,Int.reduceLT]
 ·have e:Qf9 C' a w x=n.n:=by rw [Qf9,h2,if_neg (by omega)]; simp [h1]
  have hD:=QbO h1
  have hlt:=(List.getElem?_eq_some_iff.1 h1).1
  rw [h2,e]
  rw [zA]
  simp -implicitDefEqProofs (disch:=omega) only [go_sem,↓reduceIte,reduceCtorEq,rA,rq,hD,hlt,Cl.v]
  intro hk
  omega
end
def kEs (K:List (Int × Int)):List (V × V):=K.map fun p=>(.int .i64 p.1,.int .i64 p.2)
def kAt (K:List (Int × Int)) (x:Int):Option Int:=(K.find? fun p=>decide (x=p.1)).map (·.2)
theorem Qf0 (x y:Int):QbJ [.i] (.int .i64 x) (.int .i64 y)=decide (x=y):=by
 by_cases h:x=y
 ·subst h
  simp [QbJ,QaO,V.cells,QkW]
 ·simp [QbJ,QaO,V.cells,QkW,h]
theorem QfX (K:List (Int × Int)) (x:Int):Qkp [.i] (.int .i64 x) (kEs K)=(kAt K x).map (V.int .i64):=by
 induction K with
 | nil=>rfl
 | cons p K ih =>
   simp only [Qkp,kEs,kAt,List.map_cons,List.find?_cons,Qf0] at ih ⊢
   by_cases h:x=p.1
   ·simp [h]
   ·simp only [h,decide_false]
    exact ih
theorem QlK (x:Int):QuK false [.i] (.int .i64 x):=⟨rfl,by simp [QaO,V.cells,QkW]⟩
theorem QaT (K:List (Int × Int)) (x:Int):Qbj false [.i] (.int .i64 x) (kEs K):=by
 refine ⟨QlK x,fun p hp=>?_⟩
 obtain ⟨q,_,rfl⟩:=List.mem_map.1 hp
 exact ⟨rfl,by simp [QaO,V.cells,QkW]⟩
theorem Xa {c:Prop} [Decidable c] {x y:Int} (h1:i64 x) (h2:i64 y):i64 (if c then x else y):=by split <;> assumption
theorem Qtf {op a b:Int} (ha:i64 a) (hb:i64 b):i64 (doW op a b):=by
 have one (c:Prop) [Decidable c]:i64 (if c then 1 else 0):=by unfold i64; split <;> omega
 have hr:i64 (QCK a b):=by
  unfold QCK
  split
  ·exact ha
  ·split
   ·unfold i64; omega
   ·have h1:=Int.natAbs_tmod a b
    have h2:(a.tmod b).natAbs≤a.natAbs:=by rw [h1]; exact Nat.mod_le _ _
    unfold i64 at *
    by_cases h:0≤a
    ·have:=Int.tmod_nonneg b h
     omega
    ·have:=Int.tmod_nonneg b (a:=-a) (by omega)
     rw [Int.neg_tmod] at this
     omega
 have hs:i64 (a.fdiv (2 ^ min (Qh5 .i64 b 63).toNat 64)):=by
  have hp:(0:Int)<2 ^ min (Qh5 .i64 b 63).toNat 64:=Int.pow_pos (by omega)
  generalize (2:Int) ^ min (Qh5 .i64 b 63).toNat 64=m at hp
  rw [Int.fdiv_eq_ediv_of_nonneg _ (by omega)]
  unfold i64 at *
  have h1:=Int.ediv_le_ediv hp (a:=a) (b:=9223372036854775807) (by omega)
  have h2:=Int.ediv_le_ediv hp (a:=-9223372036854775808) (b:=a) (by omega)
  have h3:(9223372036854775807:Int) / m≤9223372036854775807:=Int.ediv_le_self _ (by omega)
  have h4:-9223372036854775808≤(-9223372036854775808:Int) / m:=by
   rw [Int.le_ediv_iff_mul_le hp]
   omega
  omega
 have hdiv:i64 (QEx a b):=Xa (by unfold i64; omega) (Xa (Qar _) (Qar _))
 have hdn:i64 (divN a b):=Xa (by unfold i64; omega) (Qar _)
 have hrn:i64 (remN a b):=Xa ha (Qar _)
 have hand:i64 (Qh5 .i64 a b):=Qar _
 have hor:i64 (orI .i64 a b):=Qar _
 have hxor:i64 (QBk .i64 a b):=Qar _
 exact Xa (Qar _) (Xa (Qar _) (Xa (Qar _) (Xa hdiv (Xa hr (Xa hdn (Xa hrn (Xa hand (Xa hor (Xa hxor (Xa (Qar _) (Xa (Qar _) (Xa hs (Xa (one _) (Xa (one _) (Xa (one _) (by unfold i64; omega))))))))))))))))
section
attribute [local go_sem] cA lC lN nA aZ lR zA Nd.cells and_true beq_self_eq_true false_implies kG_5 kG_6 kG_7 kG_9 QjH Qf1 QaT QfX true_and true_implies Qag Qzh Qzg Qzf Qze Qzd Qzc Qzb Qza Qy9
def Qgq (S:List Int) (C:List Cl) (K:List (Int × Int)) (d:Nd):Int :=
 if d.kind=1 then d.n else if d.kind=2 then QqF S d.n else if d.kind=3 then Qf9 C d.a d.n ((kAt K d.y).getD 0) else doW d.op ((kAt K d.x).getD 0) ((kAt K d.y).getD 0)
def Qg2 (ve vm vk:Nat) (S:List Int) (tS:Bool) (C:List Cl) (tC:Bool) (K:List (Int × Int)):List (Option Ob) :=
 [some (.arr ve 26 [.lst 1 (Qb S) tS,.lst 4 (C.map Cl.v) tC]),some (.map vm (kEs K)),some (.arr vk 123 [.mp 6 vm])]
variable {L:List Nd} {v0 v1 v2 v3 v4:Nat} {fmt:Int→List UInt8}
theorem QuX {ex:List (Option Ob)} {x0 x1 x2 x3:Option Ob}:(kG fmt v0 v1 v2 v3 v4 L++x0::x1::x2::x3::ex).take 9=kG fmt v0 v1 v2 v3 v4 L++[x0,x1,x2,x3]:=rfl
theorem getD_map (o:Option Int):(o.map (V.int .i64)).getD (.int .i64 0)=.int .i64 (o.getD 0):=by cases o <;> rfl
theorem Qkt {K:List (Int × Int)} (hK:∀ p∈K,i64 p.2) (x:Int):i64 ((kAt K x).getD 0):=by
 unfold kAt
 cases h:K.find? fun p=>decide (x=p.1) with
 | none=>simp [i64]
 | some p=>simpa using hK p (List.mem_of_find?_eq_some h)
theorem c_One {b:Nat} (hb:b≤9) (hT:Qe P tab) {ve vm vk t:Nat} {y8:Option Ob} (S:List Int) (tS:Bool) (C':List Cl) (hC:C'.length≤1000000) (tC:Bool) (K:List (Int × Int)) (hK:∀ p∈K,i64 p.2) (d:Nd) (hk:d.kind=1∨d.kind=2∨d.kind=3∨d.kind=4) (ho:0≤d.op∧d.op≤255) :
 C P G b Qae [.agg d.cells,.ptr 5 ve 0,.ptr 7 vk 0] ⟨t,kG fmt v0 v1 v2 v3 v4 L++(Qg2 ve vm vk S tS C' tC K++[y8])⟩ fun v σ=>v=.int .i64 (Qgq S C' K d)∧∃ t',t≤t'∧σ=⟨t',kG fmt v0 v1 v2 v3 v4 L++(Qg2 ve vm vk S tS C' tC K++[y8])⟩:=by
 refine Qh 9 hb (Qq hT QeF (by simp [Qag]) (Qn 1000 ?_))
 rcases hk with k | k | k | k
 ·have e:Qgq S C' K d=d.n:=by rw [Qgq,if_pos k]
  rw [e]
  simp -implicitDefEqProofs (disch:=omega) only [go_sem,↓reduceIte,reduceCtorEq,rA,rq,rL,QuX,Qg2,k]
  exact ⟨t+1,by omega,rfl⟩
 ·have e:Qgq S C' K d=QqF S d.n:=by rw [Qgq,if_neg (by omega),if_pos k]
  rw [e]
  simp -implicitDefEqProofs (disch:=omega) only [go_sem,↓reduceIte,reduceCtorEq,rA,rq,rL,Qg2,k,Int.reduceBEq]
  refine QY hT Qc4 (c_Sym hT S tS 4 C' tC d.n) (by simp [Qc,Qd]) 1000 ?_
  simp -implicitDefEqProofs (disch:=omega) only [go_sem,↓reduceIte,reduceCtorEq,rA,rq,rL,QuX]
  exact ⟨t+1,by omega,rfl⟩
 ·have e:Qgq S C' K d=Qf9 C' d.a d.n ((kAt K d.y).getD 0):=by rw [Qgq,if_neg (by omega),if_neg (by omega),if_pos k]
  rw [e]
  simp -implicitDefEqProofs (disch:=omega) only [go_sem,↓reduceIte,reduceCtorEq,rA,rq,rL,Qg2,getD_map,k,Int.reduceBEq]
  refine QY hT Qct (c_Cell hT S tS C' hC tC d.a d.n _) (by simp [Qc,Qd]) 1000 ?_
  simp -implicitDefEqProofs (disch:=omega) only [go_sem,↓reduceIte,reduceCtorEq,rA,rq,rL,QuX]
  exact ⟨t+1,by omega,rfl⟩
 ·have e:Qgq S C' K d=doW d.op ((kAt K d.x).getD 0) ((kAt K d.y).getD 0):=by rw [Qgq,if_neg (by omega),if_neg (by omega),if_neg (by omega)]
  rw [e]
  simp -implicitDefEqProofs (disch:=omega) only [go_sem,↓reduceIte,reduceCtorEq,rA,rq,rL,Qg2,getD_map,k,Int.reduceBEq]
  refine QY hT Qie (c_Do hT ho.1 ho.2 (Qkt hK _) (Qkt hK _)) rfl 1000 ?_
  simp -implicitDefEqProofs (disch:=omega) only [go_sem,↓reduceIte,reduceCtorEq,rA,rq,rL,QuX]
  exact ⟨t+1,by omega,rfl⟩
end
def knows (S:List Int) (C:List Cl) (L:List Nd) (U:List Int):List (Int × Int):=U.foldl (fun K x=>K++[(x,Qgq S C K (nd L x))]) []
variable {x:Int} {S:List Int}
theorem QjG {C:List Cl} {L:List Nd} {U:List Int}:knows S C L (U++[x])=knows S C L U++[(x,Qgq S C (knows S C L U) (nd L x))]:=by simp [knows]
theorem QjK (S:List Int) (C:List Cl) (L:List Nd):∀ (U:List Int) (K:List (Int × Int)),(U.foldl (fun K x=>K++[(x,Qgq S C K (nd L x))]) K).map (·.1)=K.map (·.1)++U
 | [],K=>by simp
 | x::U,K=>by rw [List.foldl_cons,QjK S C L U]; simp
theorem Qp2 (S:List Int) (C:List Cl) (L:List Nd) (U:List Int):(knows S C L U).map (·.1)=U:=by
 rw [knows,QjK]; simp
variable {K:List (Int × Int)}
theorem Qo3 {v:Int} (h:x ∉ K.map (·.1)):QkU [.i] (.int .i64 x) (.int .i64 v) (kEs K)=kEs (K++[(x,v)]):=by
 induction K with
 | nil=>rfl
 | cons p K ih =>
   simp only [List.map_cons,List.mem_cons,not_or] at h
   simp only [kEs,List.map_cons,cA,QkU,Qf0] at ih ⊢
   rw [decide_eq_false h.1]
   simp only [Bool.false_eq_true,if_false]
   rw [ih h.2]
theorem Qun {C:List Cl} {d:Nd} (hS:∀ x∈S,i64 x) (hC:∀ c∈C,i64 c.n) (hK:∀ p∈K,i64 p.2) (hd:i64 d.n):i64 (Qgq S C K d):=by
 refine Xa hd (Xa ?_ (Xa ?_ (Qtf (Qkt hK _) (Qkt hK _))))
 ·unfold QqF
  refine Xa (by unfold i64; omega) ?_
  rw [List.getD_eq_getElem?_getD]
  cases h:S[d.n.toNat]? with
  | none=>simp [i64]
  | some x=>exact hS x (List.mem_of_getElem? h)
 ·unfold Qf9
  refine Xa (by unfold i64; omega) ?_
  cases h:C[(QmV (isC d.a d.n ((kAt K d.y).getD 0)) C 0).toNat]? with
  | none=>simp [i64]
  | some c=>exact hC c (List.mem_of_getElem? h)
theorem QlI {S:List Int} {C:List Cl} {L:List Nd} (hS:∀ x∈S,i64 x) (hC:∀ c∈C,i64 c.n) (hL:∀ x,i64 (nd L x).n):∀ (U:List Int) (K:List (Int × Int)),(∀ p∈K,i64 p.2)→∀ p∈U.foldl (fun K x=>K++[(x,Qgq S C K (nd L x))]) K,i64 p.2
 | [],K,hK=>hK
 | x::U,K,hK=>by
   rw [List.foldl_cons]
   refine QlI hS hC hL U _ fun p hp=>?_
   rcases List.mem_append.1 hp with h | h
   ·exact hK p h
   ·rw [List.mem_singleton.1 h]
    exact Qun hS hC hK (hL x)
section
attribute [local go_sem] nFq lR zA decide_true Xq QoG QoF QoE QoD QoC
abbrev alJ (fmt:Int→List UInt8) (v0 v1 v2 v3 v4 ve vm vk t0 z:Nat) (L:List Nd) (S:List Int) (tS:Bool) (C':List Cl) (tC:Bool) (ids:List Int) (tr:Bool) (U:List Int):Nat→Fr→H→Prop:=fun i fr σ=>∃ t',t0≤t'∧Qf fr 0=.ptr 1 v0 0∧Qf fr 2=.lst z (Qb ids) tr∧Qf fr 8=.ptr 7 vk 0∧Qf fr 9=.fn (.func Qae) [] [.ptr 5 ve 0,.ptr 7 vk 0]∧Qf fr 23=.lst 1 (Qb U) false∧Qf fr 24=.int .i64 U.length∧Qf fr 25=.int .i64 ((i:Nat):Int)∧σ=⟨t',kG fmt v0 v1 v2 v3 v4 L++Qg2 ve vm vk S tS C' tC (knows S C' L (U.take i))⟩
abbrev alE (fmt:Int→List UInt8) (v0 v1 v2 v3 v4 ve vm vk t0 z:Nat) (L:List Nd) (S:List Int) (tS:Bool) (C':List Cl) (tC:Bool) (ids:List Int) (tr:Bool) (U:List Int):AE→Fr→H→Prop:=fun e fr σ=>e=.ex 0∧∃ t',t0≤t'∧Qf fr 2=.lst z (Qb ids) tr∧Qf fr 8=.ptr 7 vk 0∧σ=⟨t',kG fmt v0 v1 v2 v3 v4 L++Qg2 ve vm vk S tS C' tC (knows S C' L U)⟩
def fit (L:List Nd):Prop:=∀ x:Int,0≤x→x<L.length→((nd L x).kind=1∨(nd L x).kind=2∨(nd L x).kind=3∨(nd L x).kind=4)∧(0≤(nd L x).op∧(nd L x).op≤255)
theorem QtK (hT:Qe P tab) {fmt:Int→List UInt8} {v0 v1 v2 v3 v4 ve vm vk t0 i z:Nat} {L:List Nd} (hfit:fit L) (hLn:∀ x,i64 (nd L x).n) {S:List Int} {tS tC tr:Bool} {C':List Cl} (hS:∀ x∈S,i64 x) (hC:C'.length≤1000000) (hCn:∀ c∈C',i64 c.n) {ids U:List Int} (hU:∀ x∈U,0≤x∧x<L.length) (hUn:U.Nodup) (hUl:U.length≤1000000) {x:Int} (hx:U[i]?=some x) {fr:Fr} {σ:H} (hJ:alJ fmt v0 v1 v2 v3 v4 ve vm vk t0 z L S tS C' tC ids tr U i fr σ) :
 W P G 65 5 (zg QoG [] (.seq (zw 26 .skip (.exit 0)) (.seq (.block 1 (zg QoF [27,28] (zg QoE [30,31,32,29,33,34,13] (.reg QoD [35,36,37,38,39])))) (.reg QoC [40])))) fr σ (QdW (fun fr σ=>∃ fr' σ',Shift G 65 5 fr σ fr' σ'∧alJ fmt v0 v1 v2 v3 v4 ve vm vk t0 z L S tS C' tC ids tr U (i+1) fr' σ') (alE fmt v0 v1 v2 v3 v4 ve vm vk t0 z L S tS C' tC ids tr U)):=by
 obtain ⟨t',ht,f0,f2,f8,f9,f23,f24,f25,rfl⟩:=hJ
 have hlt:=(List.getElem?_eq_some_iff.1 hx).1
 have hD:=Qio hx
 have e2:=w_nx hlt (by omega)
 obtain ⟨h0,h1⟩:=hU x (List.mem_of_getElem? hx)
 have hN:=fun t ex=>QBJ (P:=P) (G:=G) hT (base:=5) (fmt:=fmt) (v0:=v0) (v1:=v1) (v2:=v2) (v3:=v3) (v4:=v4) (t:=t) (L:=L) (ex:=ex) (id:=x)
 have hts:=QaP hx
 have s1:knows S C' L (U.take (i+1))=knows S C' L (U.take i)++[(x,Qgq S C' (knows S C' L (U.take i)) (nd L x))]:=by rw [hts,QjG]
 have hK:∀ p∈knows S C' L (U.take i),i64 p.2:=QlI hS hCn hLn _ [] (by simp)
 have hnot:x ∉ (knows S C' L (U.take i)).map (·.1):=by
  rw [Qp2]
  have h2:=hUn.sublist (List.take_sublist (i+1) U)
  rw [hts] at h2
  intro hm
  exact (List.nodup_append.1 h2).2.2 x hm x (by simp) rfl
 have hone:=fun t y=>c_One (P:=P) (G:=G) (lR 9) hT (fmt:=fmt) (v0:=v0) (v1:=v1) (v2:=v2) (v3:=v3) (v4:=v4) (ve:=ve) (vm:=vm) (vk:=vk) (t:=t) (L:=L) (y8:=y) S tS C' hC tC (knows S C' L (U.take i)) hK (nd L x) (hfit x h0 h1).1 (hfit x h0 h1).2
 have hadd:=Qo3 (v:=Qgq S C' (knows S C' L (U.take i)) (nd L x)) hnot
 generalize hs2:knows S C' L (U.take (i+1))=K2 at *
 generalize knows S C' L (U.take i)=K at *
 simp only [if_pos (show 0≤x∧x<L.length from ⟨h0,h1⟩)] at hN
 simp only [show L.getD x.toNat zeroNd=nd L x from rfl] at hN
 generalize Qgq S C' K (nd L x)=r at *
 generalize nd L x=d at *
 simp only [Nd.cells] at hN hone
 refine Qm [(0,.ptr 1 v0 0),(2,.lst z (Qb ids) tr),(8,.ptr 7 vk 0),(9,.fn (.func Qae) [] [.ptr 5 ve 0,.ptr 7 vk 0]),(23,.lst 1 (Qb U) false),(24,.int .i64 U.length),(25,.int .i64 ((i:Nat):Int))] ⟨f0,f2,f8,f9,f23,f24,f25,trivial⟩  1000 ?_
 simp -implicitDefEqProofs (disch:=omega) only [go_sem,↓reduceIte,reduceCtorEq,rq,Qo,Qg2,lN,lC,true_implies,and_true,hlt,hD]
 refine call hT Xp (hN _ _) 1000 fun u σ hu=>?_
 obtain ⟨rfl,t2,ht2,rfl⟩:=hu
 simp -implicitDefEqProofs (disch:=omega) only [go_sem,↓reduceIte,reduceCtorEq,rA,rq,rL,rT,Qf1,QjH,kG_7,kG_8,QDr,lN,lC,nA,cA,false_implies,true_implies,and_true]
 have hsub:∀ (K:List (Int × Int)) (y:Option Ob),Qbg (kG fmt v0 v1 v2 v3 v4 L++Qg2 ve vm vk S tS C' tC K) (kG fmt v0 v1 v2 v3 v4 L++[some (.arr ve 26 [.lst 1 (Qb S) tS,.lst 4 (C'.map Cl.v) tC]),some (.map vm (kEs K)),some (.arr vk 123 [.mp 6 vm]),y]):=fun K y=>by
  have:=Xc 8 (kG fmt v0 v1 v2 v3 v4 L++[some (.arr ve 26 [.lst 1 (Qb S) tS,.lst 4 (C'.map Cl.v) tC]),some (.map vm (kEs K)),some (.arr vk 123 [.mp 6 vm]),y])
  exact this
 refine CV.use 1000 (CV.of hT QeF (hone _ _)) fun u σ hu=>?_
 obtain ⟨rfl,t3,ht3,rfl⟩:=hu
 simp -implicitDefEqProofs (disch:=omega) only [go_sem,↓reduceIte,reduceCtorEq,rq,rL,kG_6,kGs_6,QaT,Qg2,nA,cA,and_true,hadd,e2]
 refine ⟨_,_,Shift.drop (o':=kG fmt v0 v1 v2 v3 v4 L++Qg2 ve vm vk S tS C' tC (K++[(x,r)])) (t':=t3) (hsub _ _) (lR _) (by simp [kG,Qg2]),t3,by omega,?_⟩
 simp -implicitDefEqProofs (disch:=omega) only [go_sem,↓reduceIte,reduceCtorEq,rq,hs2,s1]
end
variable {L:List Nd}
theorem QbK (hok:okN L):fit L:=by
 intro x h0 h1
 obtain ⟨d,hd⟩:∃ d,L[x.toNat]?=some d:=⟨_,List.getElem?_eq_getElem (by omega)⟩
 have e:nd L x=d:=by simp [nd,List.getD_eq_getElem?_getD,hd]
 rw [e]
 obtain ⟨hp,h2,hk⟩:=QlA (hok _ d hd).2.2
 exact ⟨hk,by omega,by omega⟩
theorem nd_i64 (hok:okN L) (x:Int):i64 (nd L x).n:=by
 unfold nd
 rw [List.getD_eq_getElem?_getD]
 cases h:L[x.toNat]? with
 | none=>simp [i64,zeroNd]
 | some d=>exact (hok _ d h).1
def QkR (K:List (Int × Int)) (ids:List Int) (i n:Nat):List V:=Qb ((ids.take i).map fun x=>(kAt K x).getD 0)++List.replicate (n - i) (.int .i64 0)
variable {i n:Nat} {ids:List Int} {K:List (Int × Int)}
theorem Qm5 (h:i≤n) (h2:ids.length=n):(QkR K ids i n).length=n:=by simp [QkR,Qb]; omega
theorem Quk {x y:Int} (hx:ids[i]?=some x) (hn:ids.length=n) (hk:kAt K x=some y):(QkR K ids i n).set i (.int .i64 y)=QkR K ids (i+1) n:=by
 have hlt:=(List.getElem?_eq_some_iff.1 hx).1
 have h1:(Qb ((ids.take i).map fun x=>(kAt K x).getD 0)).length=i:=by simp [Qb]; omega
 have h2:n - i=(n - (i+1))+1:=by omega
 rw [QkR,QkR,QaP hx,List.set_append,if_neg (by omega),h1,Nat.sub_self,h2,List.replicate_succ,List.set_cons_zero]
 simp [Qb,hk]
section
attribute [local go_sem] nFq nT cA lC lN nA lR Nat.mul_one zA Option.getD_none Option.getD_some Option.isSome_none Option.isSome_some Qg2 and_true decide_true kG_6 kG_7 kG_8 QDr QaT QfX Xq Qo true_and true_implies Qj6 Qj5 Qj4 Qj3 Qj2 Qj1 Qj0
abbrev ouJ (fmt:Int→List UInt8) (v0 v1 v2 v3 v4 ve vm vk vo t:Nat) (L:List Nd) (S:List Int) (tS:Bool) (C':List Cl) (tC:Bool) (K:List (Int × Int)) (ids:List Int) (tr:Bool):Nat→Fr→H→Prop:=fun i fr σ=>(∀ x∈ids.take i,(kAt K x).isSome=true)∧Qf fr 8=.ptr 7 vk 0∧Qf fr 14=.sl 8 vo 0 1 ids.length none∧Qf fr 44=.lst 1 (Qb ids) tr∧Qf fr 45=.int .i64 ids.length∧Qf fr 46=.int .i64 ((i:Nat):Int)∧σ=⟨t,kG fmt v0 v1 v2 v3 v4 L++(Qg2 ve vm vk S tS C' tC K++[some (.arr vo 2 (QkR K ids i ids.length))])⟩
abbrev ouE (fmt:Int→List UInt8) (v0 v1 v2 v3 v4 ve vm vk vo t:Nat) (L:List Nd) (S:List Int) (tS:Bool) (C':List Cl) (tC:Bool) (K:List (Int × Int)) (ids:List Int):AE→Fr→H→Prop:=fun e fr σ=>(e=.ret∧(∃ x∈ids,kAt K x=none)∧Qf fr 6=.lst 0 [] true∧Qf fr 7=.bool false∧∃ i,σ=⟨t,kG fmt v0 v1 v2 v3 v4 L++(Qg2 ve vm vk S tS C' tC K++[some (.arr vo 2 (QkR K ids i ids.length))])⟩)∨(e=.ex 2∧(∀ x∈ids,(kAt K x).isSome=true)∧Qf fr 14=.sl 8 vo 0 1 ids.length none∧σ=⟨t,kG fmt v0 v1 v2 v3 v4 L++(Qg2 ve vm vk S tS C' tC K++[some (.arr vo 2 (QkR K ids ids.length ids.length))])⟩)
theorem Qsa {fmt:Int→List UInt8} {v0 v1 v2 v3 v4 ve vm vk vo t i:Nat} {L:List Nd} {S:List Int} {tS tC tr:Bool} {C':List Cl} {K:List (Int × Int)} {ids:List Int} (hl:ids.length≤1000000) {x:Int} (hx:ids[i]?=some x) {fr:Fr} {σ:H} (hJ:ouJ fmt v0 v1 v2 v3 v4 ve vm vk vo t L S tS C' tC K ids tr i fr σ) :
 W P G 65 5 (zg Qj6 [] (.seq (zw 47 .skip (.exit 2)) (.seq (.block 3 (zg Qj5 [48,49,50] (zg Qj4 [52,53,54,51,55,56] (.seq (zg Qj3 [57] (zw 58 (zg Qj2 [] .ret) .skip)) (.reg Qj1 [59,60,61,62]))))) (.reg Qj0 [63])))) fr σ (QdW (fun fr σ=>∃ fr' σ',Shift G 65 5 fr σ fr' σ'∧ouJ fmt v0 v1 v2 v3 v4 ve vm vk vo t L S tS C' tC K ids tr (i+1) fr' σ') (ouE fmt v0 v1 v2 v3 v4 ve vm vk vo t L S tS C' tC K ids)):=by
 obtain ⟨hall,f8,f14,f44,f45,f46,rfl⟩:=hJ
 have hlt:=(List.getElem?_eq_some_iff.1 hx).1
 have hD:=Qio hx
 have e2:=w_nx hlt (by omega)
 have hol:(QkR K ids i ids.length).length=ids.length:=Qm5 (by omega) rfl
 cases hk:kAt K x with
 | none =>
   refine Qm [(8,.ptr 7 vk 0),(14,.sl 8 vo 0 1 ids.length none),(44,.lst 1 (Qb ids) tr),(45,.int .i64 ids.length),(46,.int .i64 ((i:Nat):Int))] ⟨f8,f14,f44,f45,f46,trivial⟩  1000 ?_
   simp -implicitDefEqProofs (disch:=omega) only [go_sem,↓reduceIte,rA,rq,rT,hlt,hD,hk,Option.map_none]
   exact .inl ⟨rfl,⟨x,List.mem_of_getElem? hx,hk⟩,by simp -implicitDefEqProofs (disch:=omega) only [go_sem,↓reduceIte,rq],by simp -implicitDefEqProofs (disch:=omega) only [go_sem,↓reduceIte,rq],i,rfl⟩
 | some y =>
   have hs:=Quk hx rfl hk
   rw [List.set_eq_take_append_cons_drop,if_pos (by omega)] at hs
   have hs':List.take i (QkR K ids i ids.length)++[V.int .i64 y]++List.drop (i+1) (QkR K ids i ids.length)=QkR K ids (i+1) ids.length:=by rw [aA]; exact hs
   refine Qm [(8,.ptr 7 vk 0),(14,.sl 8 vo 0 1 ids.length none),(44,.lst 1 (Qb ids) tr),(45,.int .i64 ids.length),(46,.int .i64 ((i:Nat):Int))] ⟨f8,f14,f44,f45,f46,trivial⟩  1000 ?_
   simp -implicitDefEqProofs (disch:=omega) only [go_sem,↓reduceIte,rA,rq,rL,rT,hlt,hD,e2,hk,Option.map_some,hol]
   refine ⟨_,_,Shift.refl _ _ _ _,fun w hw=>?_,?_⟩
   ·rw [QaP hx] at hw
    rcases List.mem_append.1 hw with h | h
    ·exact hall w h
    ·rw [List.mem_singleton.1 h,hk]; rfl
   ·simp -implicitDefEqProofs (disch:=omega) only [go_sem,↓reduceIte,rq,hs']
end
section
attribute [local go_sem] nFq lR zA decide_false Xq Qc1 QAQ QAP QrG Qj6 Qj5 Qj4 Qj3 Qj2 Qj1 Qj0 QrF QAO QAN QoG QoF QoE QoD QoC QAM
def kEx (t:Nat) (o:List (Option Ob)) (σ:H):Prop:=∃ t' ex,t≤t'∧σ=⟨t',o++ex⟩
theorem QC8:(Value.map none).oneCell'=true:=rfl
theorem c_All0 (hT:Qe P tab) (SO:Xb P) {fmt:Int→List UInt8} {v0 v1 v2 v3 v4 t:Nat} {L:List Nd} (hL:L.length≤1000000) (hok:okN L) (S:List Int) (hS:∀ x∈S,i64 x) (tS:Bool) (C':List Cl) (hC:C'.length≤1000000) (hCn:∀ c∈C',i64 c.n) (tC:Bool) (ids:List Int) (tr:Bool) (hil:ids.length≤1000000) :
 C P G 5 Qb8 [.ptr 1 v0 0,QhC S tS 4 C' tC,.lst 1 (Qb ids) tr] ⟨t,kG fmt v0 v1 v2 v3 v4 L⟩ fun v σ=>(v=.tup [.lst 0 [] true,.bool false]∧(∃ x∈ids,kAt (knows S C' L (Xj L ids)) x=none)∧kEx t (kG fmt v0 v1 v2 v3 v4 L) σ)∨(∃ vo t' ve vm vk,t≤t'∧v=.tup [.sl 8 vo 0 1 ids.length none,.bool true]∧(∀ x∈ids,(kAt (knows S C' L (Xj L ids)) x).isSome=true)∧σ=⟨t',kG fmt v0 v1 v2 v3 v4 L++(Qg2 ve vm vk S tS C' tC (knows S C' L (Xj L ids))++[some (.arr vo 2 (QkR (knows S C' L (Xj L ids)) ids ids.length ids.length))])⟩):=by
 refine Qq hT Qif (by simp [Qc1]) (Qn 1000 ?_)
 simp -implicitDefEqProofs (disch:=omega) only [go_sem,↓reduceIte,reduceCtorEq,rA,rq,rL,QhC,QC8,Qf1,QjH,kG_7,kGs_7,Qg2,lN,lC,nA,cA,and_true]
 have hU:=fun t ex=>QBI (P:=P) (G:=G) hT SO (base:=5) (fmt:=fmt) (v0:=v0) (v1:=v1) (v2:=v2) (v3:=v3) (v4:=v4) (t:=t) (L:=L) (ex:=ex) hL hok.wf ids 1 tr (.inl rfl) (by omega)
 have hUb:∀ x∈Xj L ids,0≤x∧x<L.length:=Qas
 have hUn:(Xj L ids).Nodup:=QdS
 have hUl:(Xj L ids).length≤1000000:=by have:=Qda L.length (Xj L ids) QdS Qas; omega
 generalize Xj L ids=U at *
 refine call hT Qaa (hU _ _) 1000 fun v σ hv=>?_
 obtain ⟨rfl,t1,ht1,rfl⟩:=hv
 simp -implicitDefEqProofs (disch:=omega) only [go_sem,↓reduceIte,reduceCtorEq,rq,lM]
 refine ZF U (alJ fmt v0 v1 v2 v3 v4 t (t+1) (t+1+1) t1 1 L S tS C' tC ids tr U) (alE fmt v0 v1 v2 v3 v4 t (t+1) (t+1+1) t1 1 L S tS C' tC ids tr U) ⟨t1,lR _,?_⟩ (fun i x hx fr σ hJ=>QtK hT (QbK hok) (nd_i64 hok) hS hC hCn hUb hUn hUl hx hJ) (fun i hi fr σ hJ=>?_) (fun e fr σ hE=>?_)
 ·simp -implicitDefEqProofs (disch:=omega) only [go_sem,↓reduceIte,reduceCtorEq,rq,Qg2,true_and]
  exact ⟨rfl,rfl,rfl,rfl⟩
 ·obtain ⟨t2,ht2,f0,f2,f8,f9,f23,f24,f25,rfl⟩:=hJ
  refine Qn 1000 ?_
  simp -implicitDefEqProofs (disch:=omega) only [go_sem,↓reduceIte,Qg2,f24,f25,hi,Nat.lt_irrefl,List.take_length]
  exact ⟨rfl,t2,ht2,by simp -implicitDefEqProofs (disch:=omega) only [go_sem,↓reduceIte,rq,f2],by simp -implicitDefEqProofs (disch:=omega) only [go_sem,↓reduceIte,rq,f8],rfl⟩
 ·obtain ⟨rfl,t2,ht2,f2,f8,rfl⟩:=hE
  refine YT [(2,.lst 1 (Qb ids) tr),(8,.ptr 7 (t+1+1) 0)] ⟨f2,f8,trivial⟩ 1000 ?_
  simp -implicitDefEqProofs (disch:=omega) only [go_sem,↓reduceIte,rA,rq,Qf1,QjH,Qg2,Qo,lN,lC,nA,cA,true_and,and_true]
  refine ZF ids (ouJ fmt v0 v1 v2 v3 v4 t (t+1) (t+1+1) t2 (t2+1) L S tS C' tC (knows S C' L U) ids tr) (ouE fmt v0 v1 v2 v3 v4 t (t+1) (t+1+1) t2 (t2+1) L S tS C' tC (knows S C' L U) ids) ⟨by simp,?_⟩ (fun i x hx fr σ hJ=>Qsa hil hx hJ) (fun i hi fr σ hJ=>?_) (fun e fr σ hE=>?_)
  ·simp -implicitDefEqProofs (disch:=omega) only [go_sem,↓reduceIte,rq,Qg2,nA,cA,true_and]
   have ho:QkR (knows S C' L U) ids 0 ids.length=(List.replicate ids.length [V.int .i64 0]).flatten:=by
    simp only [QkR,tZ,List.map_nil,Qb,nA,Nat.sub_zero]
    induction ids.length with
    | zero=>rfl
    | succ n ih=>rw [List.replicate_succ,List.replicate_succ,List.flatten_cons,← ih]; rfl
   rw [ho]
   exact ⟨rfl,rfl⟩
  ·obtain ⟨hall,f8,f14,f44,f45,f46,rfl⟩:=hJ
   rw [hi,List.take_length] at hall
   refine Qn 1000 ?_
   simp -implicitDefEqProofs (disch:=omega) only [go_sem,↓reduceIte,Qg2,nA,cA,f45,f46,hi,Nat.lt_irrefl]
   exact .inr ⟨rfl,hall,by simp -implicitDefEqProofs (disch:=omega) only [go_sem,↓reduceIte,rq,f14],rfl⟩
  ·rcases hE with ⟨rfl,hn,f6,f7,i,rfl⟩ | ⟨rfl,hall,f14,rfl⟩
   ·refine Qs 1000 ?_
    simp -implicitDefEqProofs (disch:=omega) only [go_sem,Qg2,nA,cA,true_and,f6,f7]
    exact .inl ⟨hn,t2+1,_,by omega,rfl⟩
   ·refine Qs 1000 ?_
    simp -implicitDefEqProofs (disch:=omega) only [go_sem,↓reduceIte,rq,Qg2,nA,cA,f14]
    exact .inr ⟨t2,t2+1,t,t+1,t+1+1,by omega,rfl,hall,rfl,rfl⟩
end
def QaM (S:List Int) (C:List Cl) (v:Int→Int) (d:Nd):Int :=
 if d.kind=1 then d.n else if d.kind=2 then QqF S d.n else if d.kind=3 then Qf9 C d.a d.n (v d.y) else doW d.op (v d.x) (v d.y)
variable {d:Nd} {v':Int→Int} {S l ids:List Int}
theorem QpM {S':List Int} {C C':List Cl} {v:Int→Int} (hk:d.kind=1∨d.kind=2∨d.kind=3∨d.kind=4) (h:∀ p∈d.parts,v p=v' p)
 (hs:d.kind=2→QqF S d.n=QqF S' d.n) (hc:d.kind=3→∀ y,Qf9 C d.a d.n y=Qf9 C' d.a d.n y):QaM S C v d=QaM S' C' v' d:=by
 unfold QaM
 rcases hk with k | k | k | k
 ·rw [if_pos k,if_pos k]
 ·simp [k,hs k]
 ·have:=h d.y (by simp [Nd.parts,k])
  simp [k,this,hc k]
 ·have h1:=h d.x (by simp [Nd.parts,k])
  have h2:=h d.y (by simp [Nd.parts,k])
  simp [k,h1,h2]
theorem Qik {C:List Cl} {v:Int→Int} (hk:d.kind=1∨d.kind=2∨d.kind=3∨d.kind=4) (h:∀ p∈d.parts,v p=v' p):QaM S C v d=QaM S C v' d :=
 QpM hk h (fun _=>rfl) (fun _ _=>rfl)
def Qlh (S:List Int) (C:List Cl) (out:List Int) (d:Nd):List Int:=out++[QaM S C (fun p=>out.getD p.toNat 0) d]
def vals (S:List Int) (C:List Cl) (L:List Nd):List Int:=L.foldl (Qlh S C) []
def val (S:List Int) (C:List Cl) (L:List Nd) (x:Int):Int:=(vals S C L).getD x.toNat 0
variable {L:List Nd}
theorem QrR {C:List Cl}:vals S C (L++[d])=vals S C L++[QaM S C (fun p=>(vals S C L).getD p.toNat 0) d]:=by simp [vals,Qlh]
theorem Qle (S:List Int) (C:List Cl):∀ (L:List Nd) (o:List Int),(L.foldl (Qlh S C) o).length=o.length+L.length
 | [],o=>by simp
 | d::L,o=>by rw [List.foldl_cons,Qle S C L]; simp [Qlh]; omega
theorem QoK {C:List Cl}:(vals S C L).length=L.length:=by simpa [vals] using Qle S C L []
theorem Qlg (S:List Int) (C:List Cl):∀ (L:List Nd) (o:List Int),∃ r,L.foldl (Qlh S C) o=o++r
 | [],o=>⟨[],by simp⟩
 | d::L,o=>by
   obtain ⟨r,hr⟩:=Qlg S C L (Qlh S C o d)
   exact ⟨_,by rw [List.foldl_cons,hr,Qlh,aA]⟩
variable {i n:Nat}
theorem Qp8 {r:List Int} (h:i<l.length):(l++r).getD i 0=l.getD i 0:=by
 rw [List.getD_eq_getElem?_getD,List.getD_eq_getElem?_getD,List.getElem?_append_left h]
variable {x u p:Int}
theorem Qp7 (h:l.length=i):(l++[x]).getD i 0=x:=by
 rw [List.getD_eq_getElem?_getD,List.getElem?_append_right (by omega),h,Nat.sub_self]; rfl
theorem QoJ {C:List Cl} (hi:i<n) (hn:n≤L.length):(vals S C (L.take n)).getD i 0=(vals S C L).getD i 0:=by
 obtain ⟨r,hr⟩:=Qlg S C (L.drop n) (vals S C (L.take n))
 have e:vals S C L=vals S C (L.take n)++r:=by
  rw [← hr]
  conv=>lhs; rw [← List.take_append_drop n L]
  rw [vals,vals,List.foldl_append]
 rw [e,Qp8]
 rw [QoK,List.length_take]
 omega
theorem QBz (h0:0≤x) (h1:x<L.length):L[x.toNat]?=some (nd L x):=by
 unfold nd
 rw [List.getD_eq_getElem?_getD,List.getElem?_eq_getElem (by omega)]
 rfl
theorem QeE {C:List Cl} (hwf:gwf L) (hfit:fit L) (h0:0≤x) (h1:x<L.length):val S C L x=QaM S C (val S C L) (nd L x):=by
 have hg:=QBz h0 h1
 have ht:=QaP hg
 have hl:(vals S C (L.take x.toNat)).length=x.toNat:=by rw [QoK,List.length_take]; omega
 have e:val S C L x=(vals S C (L.take (x.toNat+1))).getD x.toNat 0:=by rw [QoJ (by omega) (by omega)]; rfl
 rw [e,ht,QrR,Qp7 hl]
 refine Qik (hfit x h0 h1).1 fun p hp=>?_
 have:=hwf _ _ hg p hp
 exact QoJ (by omega) (by omega)
theorem QrW {C:List Cl} {v:Int→Int} (hS:∀ x∈S,i64 x) (hC:∀ c∈C,i64 c.n) (hv:∀ p,i64 (v p)) (hd:i64 d.n):i64 (QaM S C v d):=by
 refine Xa hd (Xa ?_ (Xa ?_ (Qtf (hv _) (hv _))))
 ·unfold QqF
  refine Xa (by unfold i64; omega) ?_
  rw [List.getD_eq_getElem?_getD]
  cases h:S[d.n.toNat]? with
  | none=>simp [i64]
  | some x=>exact hS x (List.mem_of_getElem? h)
 ·unfold Qf9
  refine Xa (by unfold i64; omega) ?_
  cases h:C[(QmV (isC d.a d.n (v d.y)) C 0).toNat]? with
  | none=>simp [i64]
  | some c=>exact hC c (List.mem_of_getElem? h)
theorem Qpk (h:∀ x∈l,i64 x) (n:Nat):i64 (l.getD n 0):=by
 rw [List.getD_eq_getElem?_getD]
 cases e:l[n]? with
 | none=>simp [i64]
 | some x=>exact h x (List.mem_of_getElem? e)
theorem Qlf {S:List Int} {C:List Cl} (hS:∀ x∈S,i64 x) (hC:∀ c∈C,i64 c.n):∀ (L:List Nd),(∀ d∈L,i64 d.n)→∀ (o:List Int),(∀ x∈o,i64 x)→∀ x∈L.foldl (Qlh S C) o,i64 x
 | [],_,o,ho=>ho
 | d::L,hL,o,ho=>by
   rw [List.foldl_cons]
   refine Qlf hS hC L (fun d hd=>hL d (by simp [hd])) _ fun x hx=>?_
   rcases List.mem_append.1 hx with h | h
   ·exact ho x h
   ·rw [List.mem_singleton.1 h]
    exact QrW hS hC (fun p=>Qpk ho _) (hL d (by simp))
theorem QCC {C:List Cl} (hS:∀ x∈S,i64 x) (hC:∀ c∈C,i64 c.n) (hL:∀ d∈L,i64 d.n) (x:Int):i64 (val S C L x) :=
 Qpk (Qlf hS hC L hL [] (by simp)) _
theorem QCT (hok:okN L):∀ d∈L,i64 d.n:=fun d hd=>by
 obtain ⟨i,hi⟩:=List.mem_iff_getElem?.1 hd
 exact (hok i d hi).1
theorem Qpf {K:List (Int × Int)} {v:Int}:kAt (K++[(u,v)]) x=(kAt K x).or (if x=u then some v else none):=by
 simp only [kAt,List.find?_append]
 cases h:K.find? fun p=>decide (x=p.1) with
 | some p=>simp
 | none=>by_cases hx:x=u <;> simp [hx]
theorem Qbq {U:List Int} (hs:U.Pairwise (·<·)) (hu:U[n]?=some u) (hp:p∈U) (hlt:p<u):p∈U.take n:=by
 obtain ⟨j,hj⟩:=List.mem_iff_getElem?.1 hp
 rcases Nat.lt_or_ge j n with h | h
 ·exact List.mem_iff_getElem?.2 ⟨j,by rw [List.getElem?_take,if_pos h,hj]⟩
 ·exfalso
  rcases Nat.lt_or_eq_of_le h with h | h
  ·have h1:=(List.getElem?_eq_some_iff.1 hu)
   have h2:=(List.getElem?_eq_some_iff.1 hj)
   have:=List.pairwise_iff_getElem.1 hs n j h1.1 h2.1 h
   rw [h1.2,h2.2] at this
   omega
  ·subst h
   rw [hu] at hj
   cases hj
   omega
theorem QlH {S:List Int} {C:List Cl} {L:List Nd} (hwf:gwf L) (hfit:fit L) {U:List Int} (hr:∀ x∈U,0≤x∧x<L.length) (hs:U.Pairwise (·<·)) (hc:∀ x∈U,∀ p∈pts L x,p∈U) :
 ∀ n,n≤U.length→∀ x,kAt (knows S C L (U.take n)) x=if x∈U.take n then some (val S C L x) else none
 | 0,_,x=>by simp [knows,kAt]
 | n+1,hn,x=>by
   obtain ⟨u,hu⟩:∃ u,U[n]?=some u:=⟨_,List.getElem?_eq_getElem (by omega)⟩
   have ih:=QlH (S:=S) (C:=C) hwf hfit hr hs hc n (by omega)
   have hum:=List.mem_of_getElem? hu
   obtain ⟨h0,h1⟩:=hr u hum
   have hv:Qgq S C (knows S C L (U.take n)) (nd L u)=val S C L u:=by
    rw [QeE hwf hfit h0 h1]
    refine Qik (v:=fun p=>(kAt (knows S C L (U.take n)) p).getD 0) (hfit u h0 h1).1 fun p hp=>?_
    have hpl:=Qjy hwf h0 h1 p hp
    have hpm:p∈U.take n:=Qbq hs hu (hc u hum p hp) hpl.2
    show (kAt (knows S C L (U.take n)) p).getD 0=_
    rw [ih p,if_pos hpm]
    rfl
   rw [QaP hu,QjG,Qpf,ih,hv]
   by_cases hx:x∈U.take n
   ·simp [hx]
   ·by_cases hxu:x=u
    ·subst hxu; simp [hx]
    ·simp [hx,hxu]
theorem QoL (hwf:gwf L):x∈Xj L ids↔∃ r∈ids,(0≤r∧r<L.length)∧x∈Xj L [r]:=by
 rw [Qkq,Qlz hwf ids [] (by simp)]
 simp
theorem Qbe (hwf:gwf L) (hx:x∈Xj L ids) (hp:p∈pts L x):p∈Xj L ids:=by
 rw [QoL hwf] at hx ⊢
 obtain ⟨r,h1,h2,h3⟩:=hx
 exact ⟨r,h1,h2,Qh8 hwf h3 hp⟩
theorem Qp1 {C:List Cl} (hwf:gwf L) (hfit:fit L) (ids:List Int) (hx:x∈ids) :
 kAt (knows S C L (Xj L ids)) x=if 0≤x∧x<L.length then some (val S C L x) else none:=by
 have h:=QlH (S:=S) (C:=C) hwf hfit (U:=Xj L ids) Qas QbY (fun x hx p hp=>Qbe hwf hx hp) _ (lR _) x
 rw [List.take_length] at h
 rw [h]
 by_cases hr:0≤x∧x<L.length
 ·rw [if_pos hr,if_pos ((QoL hwf).2 ⟨x,hx,hr,QfI hwf hr.1 hr.2⟩)]
 ·rw [if_neg hr,if_neg fun hm=>hr (Qas x hm)]
section
attribute [local go_sem] nFq nT cA lC lN nA lR zA and_true QhC kG_5 Qf1 Qnf true_and QfH zqg_0 zqg_1 zqg_2 zqg_3 zqg_4
def inL (L:List Nd) (ids:List Int):Prop:=∀ x∈ids,0≤x∧x<L.length
instance {L:List Nd} {ids:List Int}:Decidable (inL L ids):=by unfold inL; infer_instance
def QtT (S:List Int) (C:List Cl) (L:List Nd) (ids:List Int):V:=if inL L ids then .tup [.lst 1 (Qb (ids.map (val S C L))) false,.bool true] else .tup [.lst 0 [] true,.bool false]
theorem QpY {α β:Type} {f g:α→β}:∀ {l:List α},(∀ x∈l,f x=g x)→l.map f=l.map g:=fun h=>List.map_congr_left h
variable {L:List Nd} {v0 v1 v2 v3 v4 t base:Nat} {fmt:Int→List UInt8}
theorem c_All (hT:Qe P tab) (SO:Xb P) (hL:L.length≤1000000) (hok:okN L) (S:List Int) (hS:∀ x∈S,i64 x) (tS:Bool) (C':List Cl) (hC:C'.length≤1000000) (hCn:∀ c∈C',i64 c.n) (tC:Bool) (ids:List Int) (tr:Bool) (hil:ids.length≤1000000) :
 C P G 5 Qb8 [.ptr 1 v0 0,QhC S tS 4 C' tC,.lst 1 (Qb ids) tr] ⟨t,kG fmt v0 v1 v2 v3 v4 L⟩ fun v σ=>v=QtT S C' L ids∧∃ t',t≤t'∧σ=⟨t',kG fmt v0 v1 v2 v3 v4 L⟩:=by
 have hku:=fun x hx=>Qp1 (S:=S) (C:=C') hok.wf (QbK hok) ids (x:=x) hx
 refine Qh 5 (lR _) (Qaq (c_All0 hT SO hL hok S hS tS C' hC hCn tC ids tr hil) fun v σ hv=>?_)
 rcases hv with ⟨rfl,⟨x,hx,hn⟩,t',ex,ht,rfl⟩ | ⟨vo,t',ve,vm,vk,ht,rfl,hall,rfl⟩
 ·refine .inl ⟨by rw [Qf1]; omega,?_,t',ht,by simp [kG]⟩
  rw [QtT,if_neg]
  intro hin
  rw [hku x hx,if_pos (hin x hx)] at hn
  cases hn
 ·have hin:inL L ids:=fun x hx=>by
   have h1:=hall x hx
   rw [hku x hx] at h1
   by_cases hr:0≤x∧x<L.length
   ·exact hr
   ·rw [if_neg hr] at h1; cases h1
  have ho:QkR (knows S C' L (Xj L ids)) ids ids.length ids.length=Qb (ids.map (val S C' L)):=by
   rw [QkR,List.take_length,Nat.sub_self,List.replicate_zero,List.append_nil]
   congr 1
   refine QpY fun x hx=>?_
   rw [hku x hx,if_pos (hin x hx)]
   rfl
  rw [ho]
  refine .inr ⟨8,vo,2,Qb (ids.map (val S C' L)),by omega,rfl,QB _,?_,?_,t',ht,?_⟩
  ·simp [QH,kG,Qg2]
  ·have:=QsV (k:=8) (w:=vo) (ids.map (val S C' L))
   simp only [Zt,QmW,lM] at this ⊢
   rw [this,QtT,if_pos hin]
  ·simp [kG,QT]
theorem Qgn {j:Nat}:∀ (i:Nat) (L:List Nd) (a b:V),(a,b)∈Qd6 i L→V.under j b=true
 | _,[],_,_,h=>by cases h
 | i,d::l,a,b,h=>by
   simp only [Qd6,List.mem_cons,Prod.mk.injEq] at h
   rcases h with ⟨_,rfl⟩ | h
   ·rfl
   ·exact Qgn (i+1) l a b h
theorem kG_und:Qht 5 (kG fmt v0 v1 v2 v3 v4 L)=true:=by
 have h:=Qgn (j:=5) 0 L
 simp [kG,Qht,Ob.under,QI,V.under,Qi _ (Qaj L),Qi _ (XN _)]
 exact h
theorem Qsz {f:Nat} {args:List V} {r:V} {ex:List (Option Ob)} (h:C P G 5 f (.ptr 1 v0 0::args) ⟨t,kG fmt v0 v1 v2 v3 v4 L⟩ fun v σ=>v=r∧∃ t',t≤t'∧σ=⟨t',kG fmt v0 v1 v2 v3 v4 L⟩) (ha:Qc args=true) (hr:Qd r=true) :
 C P G base f (.ptr 1 v0 0::args) ⟨t,kG fmt v0 v1 v2 v3 v4 L++ex⟩ fun v σ=>v=r∧∃ t',t≤t'∧σ=⟨t',kG fmt v0 v1 v2 v3 v4 L++ex⟩ :=
 C_read (oS:=kG fmt v0 v1 v2 v3 v4 L) h kG_und (by rw [Qnf]; simp [QI,V.under,Qi _ ha]) (under_nameless _ hr)
theorem QEd (S:List Int) (C:List Cl) (L:List Nd) (ids:List Int):Qd (QtT S C L ids)=true:=by unfold QtT; split <;> rfl
theorem k_All (hT:Qe P tab) (SO:Xb P) {ex:List (Option Ob)} (hL:L.length≤1000000) (hok:okN L) (S:List Int) (hS:∀ x∈S,i64 x) (tS:Bool) (C':List Cl) (hC:C'.length≤1000000) (hCn:∀ c∈C',i64 c.n) (tC:Bool) (ids:List Int) (tr:Bool) (hil:ids.length≤1000000) :
 C P G base Qb8 [.ptr 1 v0 0,QhC S tS 4 C' tC,.lst 1 (Qb ids) tr] ⟨t,kG fmt v0 v1 v2 v3 v4 L++ex⟩ fun v σ=>v=QtT S C' L ids∧∃ t',t≤t'∧σ=⟨t',kG fmt v0 v1 v2 v3 v4 L++ex⟩ :=
 Qsz (c_All hT SO hL hok S hS tS C' hC hCn tC ids tr hil) rfl (QEd ..)
def ofV (S:List Int) (C:List Cl) (L:List Nd) (x:Int):V:=if 0≤x∧x<L.length then .tup [.int .i64 (val S C L x),.bool true] else .tup [.int .i64 0,.bool false]
theorem c_Of (hT:Qe P tab) (SO:Xb P) (hL:L.length≤1000000) (hok:okN L) (S:List Int) (hS:∀ x∈S,i64 x) (tS:Bool) (C':List Cl) (hC:C'.length≤1000000) (hCn:∀ c∈C',i64 c.n) (tC:Bool) (x:Int) :
 C P G 5 QbF [.ptr 1 v0 0,QhC S tS 4 C' tC,.int .i64 x] ⟨t,kG fmt v0 v1 v2 v3 v4 L⟩ fun v σ=>v=ofV S C' L x∧∃ t',t≤t'∧σ=⟨t',kG fmt v0 v1 v2 v3 v4 L⟩:=by
 have hA:=fun t tr ex=>k_All (P:=P) (G:=G) hT SO (base:=5) (fmt:=fmt) (v0:=v0) (v1:=v1) (v2:=v2) (v3:=v3) (v4:=v4) (t:=t) (ex:=ex) hL hok S hS tS C' hC hCn tC [x] tr (by simp)
 refine Qh 5 (lR _) (Qq hT QaQ (by simp [QfH]) (Qn 1000 ?_))
 simp -implicitDefEqProofs (disch:=omega) only [go_sem,↓reduceIte,reduceCtorEq,rA,rq]
 refine call hT Qif (hA _ _ _) 1000 fun v σ hv=>?_
 obtain ⟨rfl,t2,ht2,rfl⟩:=hv
 by_cases hr:0≤x∧x<L.length
 ·have e:QtT S C' L [x]=.tup [.lst 1 [.int .i64 (val S C' L x)] false,.bool true]:=by rw [QtT,if_pos (by simpa [inL] using hr)]; rfl
  have e2:ofV S C' L x=.tup [.int .i64 (val S C' L x),.bool true]:=by rw [ofV,if_pos hr]
  rw [e,e2]
  simp -implicitDefEqProofs (disch:=omega) only [go_sem,↓reduceIte,reduceCtorEq,rA,rq,rL,rT,Int.reduceToNat,Int.reduceLE]
  exact ⟨t2,by omega,rfl,by simp [kG]⟩
 ·have e:QtT S C' L [x]=.tup [.lst 0 [] true,.bool false]:=by rw [QtT,if_neg (by simpa [inL] using hr)]
  have e2:ofV S C' L x=.tup [.int .i64 0,.bool false]:=by rw [ofV,if_neg hr]
  rw [e,e2]
  simp -implicitDefEqProofs (disch:=omega) only [go_sem,↓reduceIte,reduceCtorEq,rA,rq,rL,rT]
  exact ⟨t2,by omega,rfl,by simp [kG]⟩
theorem ofV_nl (S:List Int) (C:List Cl) (L:List Nd) (x:Int):Qd (ofV S C L x)=true:=by unfold ofV; split <;> rfl
theorem k_Of (hT:Qe P tab) (SO:Xb P) {ex:List (Option Ob)} (hL:L.length≤1000000) (hok:okN L) (S:List Int) (hS:∀ x∈S,i64 x) (tS:Bool) (C':List Cl) (hC:C'.length≤1000000) (hCn:∀ c∈C',i64 c.n) (tC:Bool) (x:Int) :
 C P G base QbF [.ptr 1 v0 0,QhC S tS 4 C' tC,.int .i64 x] ⟨t,kG fmt v0 v1 v2 v3 v4 L++ex⟩ fun v σ=>v=ofV S C' L x∧∃ t',t≤t'∧σ=⟨t',kG fmt v0 v1 v2 v3 v4 L++ex⟩ :=
 Qsz (c_Of hT SO hL hok S hS tS C' hC hCn tC x) rfl (ofV_nl ..)
end
end Go.Proofs.YtoeicjlflmmmcaaGreatDoor
