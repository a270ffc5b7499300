/- Contracts: the document's side of clauses: right formulas, models. -/
import Derived.Test.YtingdebioipemaaGreatDoorJ2
open Nat renaming reduceEqDiff → rq, reduceAdd → rA, reduceLeDiff → rL, reduceLT → rT, zero_add → zA, le_refl → lR, zero_le → zL, add_zero → aZ
open List renaming length_cons → lC, length_nil → lN, take_succ_cons → tS, length_append → lAq, nil_append → nAq, cons_append → cAq, append_assoc → aA, take_nil → tN, take_zero → tZ, length_map → lM
open Bool renaming not_false → nFq, not_true → nT
namespace Go.Proofs.YtingdebioipemaaGreatDoor
open Go Go.Am Go.Cl
set_option maxRecDepth 100000
variable {P:Program} {G:Nat→Option V}
section
attribute [local go_sem] nFq nT lM aZ lR zA zL and_true decide_false decide_true gt_iff_lt Qe Qt XC zqn_0 zqn_1 Qvk Qvj zqn_2 zqn_3 zqn_4 zqn_5 zqn_6 zqn_7 zqn_8 zqn_9 true_and true_implies
def rfH (t:Nat) (v:Int) (F:List (List Int)):List (Option Ob):=[some (.arr t 33 [.int .i64 v,.lst 1 (F.map row) false])]
theorem Qfw (hT:Qn P tab) (v:Int) (F:List (List Int)) (hF:F.length≤9223372036854775807) (hc:∀ c∈F,c.length≤9223372036854775807):Pure P G ZK [fml v F] fun u=>u=.bool (right v F):=by
 intro t
 simp only [fml,rows]
 refine Xa 0 (zL _) (QM hT QE (by simp [XC]) (Qx 12 ?_))
 by_cases h1:v<0
 ·have hr:right v F=false:=by simp [right]; omega
  simp -implicitDefEqProofs (disch:=omega) only [go_sem,↓reduceIte,reduceCtorEq,rA,rq,rL,h1]
  iterate 9 (try (refine Qc 2 ?_; simp -implicitDefEqProofs (disch:=omega) only [go_sem,↓reduceIte,reduceCtorEq,rq]))
  try refine Qc 9 ?_
  try simp -implicitDefEqProofs (disch:=omega) only [go_sem,↓reduceIte,reduceCtorEq,rq]
  rw [hr]
 by_cases h2:v > 16777216
 ·have hr:right v F=false:=by simp [right]; omega
  simp -implicitDefEqProofs (disch:=omega) only [go_sem,↓reduceIte,reduceCtorEq,rA,rq,rL,h1]
  iterate 9 (try (refine Qc 2 ?_; simp -implicitDefEqProofs (disch:=omega) only [go_sem,↓reduceIte,reduceCtorEq,rA,rq,rL,h2]))
  try refine Qc 9 ?_
  try simp -implicitDefEqProofs (disch:=omega) only [go_sem,↓reduceIte,reduceCtorEq,rq]
  rw [hr]
 by_cases h3:(F.length:Int) > 1048576
 ·have hr:right v F=false:=by simp [right]; omega
  simp -implicitDefEqProofs (disch:=omega) only [go_sem,↓reduceIte,reduceCtorEq,rA,rq,rL,h1]
  iterate 9 (try (refine Qc 2 ?_; simp -implicitDefEqProofs (disch:=omega) only [go_sem,↓reduceIte,reduceCtorEq,rA,rq,rL,h2,h3]))
  try refine Qc 9 ?_
  try simp -implicitDefEqProofs (disch:=omega) only [go_sem,↓reduceIte,reduceCtorEq,rq]
  rw [hr]
 simp -implicitDefEqProofs (disch:=omega) only [go_sem,↓reduceIte,reduceCtorEq,rA,rq,rL,h1]
 iterate 9 (try (refine Qc 2 ?_; simp -implicitDefEqProofs (disch:=omega) only [go_sem,↓reduceIte,reduceCtorEq,rA,rq,rL,h2,h3]))
 refine Qc 40 ?_
 simp -implicitDefEqProofs (disch:=omega) only [go_sem]
 have hv:0≤v∧v≤16777216:=by omega
 refine XZ F (fun i fr σ=>(∀ c∈F.take i,c.all (YN v)=true)∧Qi fr 1=.ptr 0 t 0∧Qi fr 3=.int .i64 ((i:Nat):Int)∧σ=⟨t+1,rfH t v F⟩)
  (fun e fr σ=>(e=.ret∧Qi fr 2=.bool false∧right v F=false)∨(e=.ex 0∧right v F=true)) ⟨by simp,?_⟩ (fun i c hci fr σ hJ=>?_) (fun i hi fr σ hJ=>?_) (fun e fr σ hE=>?_)
 ·simp -implicitDefEqProofs (disch:=omega) only [go_sem,↓reduceIte,reduceCtorEq,rq,rfH]
  simp
 ·obtain ⟨hok,f1,f3,rfl⟩:=hJ
  obtain ⟨hlt,hD,e2⟩:=Zz hci hF
  have hcm:=List.mem_of_getElem? hci
  have hts:=Qp hci
  refine Qh [(1,.ptr 0 t 0),(3,.int .i64 ((i:Nat):Int))] ⟨f1,f3,trivial⟩  1000 ?_
  simp -implicitDefEqProofs (disch:=omega) only [go_sem,↓reduceIte,rA,rq,rfH,hlt]
  refine XZ c (fun k fr σ=>(∀ n∈c.take k,YN v n=true)∧Qi fr 1=.ptr 0 t 0∧Qi fr 3=.int .i64 ((i:Nat):Int)∧Qi fr 4=.int .i64 ((k:Nat):Int)∧σ=⟨t+1,rfH t v F⟩)
   (fun e fr σ=>(e=.ret∧Qi fr 2=.bool false∧right v F=false)∨(e=.ex 2∧c.all (YN v)=true∧Qi fr 1=.ptr 0 t 0∧Qi fr 3=.int .i64 ((i:Nat):Int)∧σ=⟨t+1,rfH t v F⟩)) ⟨by simp,?_⟩ (fun k n hnk fr σ hJ=>?_) (fun k hk fr σ hJ=>?_) (fun e fr σ hE=>?_)
  ·simp -implicitDefEqProofs (disch:=omega) only [go_sem,↓reduceIte,rq,rfH]
   simp
  ·obtain ⟨hok2,f1,f3,f4,rfl⟩:=hJ
   obtain ⟨hlt2,hD2,e3⟩:=Qas hnk (hc c hcm)
   have hnm:=List.mem_of_getElem? hnk
   have hts2:=Qp hnk
   have hL:=c_lit (P:=P) (G:=G) hT v n hv
   refine Qh [(1,.ptr 0 t 0),(3,.int .i64 ((i:Nat):Int)),(4,.int .i64 ((k:Nat):Int))] ⟨f1,f3,f4,trivial⟩  1000 ?_
   simp -implicitDefEqProofs (disch:=omega) only [go_sem,↓reduceIte,rA,rq,rL,rfH,hlt,hD,hlt2,hD2]
   refine Qj hT Xx hL rfl 1000 ?_
   cases hl:YN v n with
   | false =>
     have hr:right v F=false:=by
      have:F.all (fun c=>c.all (YN v))=false:=by
       rw [List.all_eq_false]
       exact ⟨c,hcm,by rw [Bool.not_eq_true,List.all_eq_false]; exact ⟨n,hnm,by simp [hl]⟩⟩
      simp [right,this]
     simp -implicitDefEqProofs (disch:=omega) only [go_sem,↓reduceIte,reduceCtorEq,rq]
     exact hr
   | true =>
     simp -implicitDefEqProofs (disch:=omega) only [go_sem,↓reduceIte,rq]
     refine ⟨_,_,Shift.refl _ _ _ _,fun x hx=>?_,?_⟩
     ·rw [hts2,List.mem_append] at hx
      rcases hx with hx | hx
      ·exact hok2 x hx
      ·simp at hx; subst hx; exact hl
     ·simp -implicitDefEqProofs (disch:=omega) only [go_sem,↓reduceIte,rq,e3]
  ·obtain ⟨hok2,f1,f3,f4,rfl⟩:=hJ
   rw [hk,List.take_length] at hok2
   refine Qh [(1,.ptr 0 t 0),(3,.int .i64 ((i:Nat):Int)),(4,.int .i64 ((k:Nat):Int))] ⟨f1,f3,f4,trivial⟩  1000 ?_
   simp -implicitDefEqProofs (disch:=omega) only [go_sem,↓reduceIte,reduceCtorEq,rA,rq,rfH,hlt,hD,hk,Nat.lt_irrefl]
   exact List.all_eq_true.2 hok2
  ·rcases hE with ⟨rfl,f2,hr⟩ | ⟨rfl,hcc,f1,f3,rfl⟩
   ·refine Qc 1000 ?_
    simp -implicitDefEqProofs (disch:=omega) only [go_sem,f2,hr]
   ·refine Qc 1000 ?_
    simp -implicitDefEqProofs (disch:=omega) only [go_sem,↓reduceIte,rfH,f3]
    refine ⟨_,_,Shift.refl _ _ _ _,fun d hd=>?_,?_⟩
    ·rw [hts,List.mem_append] at hd
     rcases hd with hd | hd
     ·exact hok d hd
     ·simp at hd; subst hd; exact hcc
    ·simp -implicitDefEqProofs (disch:=omega) only [go_sem,↓reduceIte,rq,f1,e2]
 ·obtain ⟨hok,f1,f3,rfl⟩:=hJ
  rw [hi,List.take_length] at hok
  have hr:right v F=true:=by
   have:F.all (fun c=>c.all (YN v))=true:=List.all_eq_true.2 hok
   simp [right,this]
   omega
  refine Qh [(1,.ptr 0 t 0),(3,.int .i64 ((i:Nat):Int))] ⟨f1,f3,trivial⟩  1000 ?_
  simp -implicitDefEqProofs (disch:=omega) only [go_sem,↓reduceIte,reduceCtorEq,rA,rq,rfH,hi,Nat.lt_irrefl]
  exact hr
 ·rcases hE with ⟨rfl,f2,hr⟩ | ⟨rfl,hr⟩
  ·refine Qc 1000 ?_
   simp -implicitDefEqProofs (disch:=omega) only [go_sem,f2,hr]
  ·refine Qc 1000 ?_
   simp -implicitDefEqProofs (disch:=omega) only [go_sem,↓reduceIte,hr]
end
section
attribute [local go_sem] nFq nT lM lR zA zL and_true decide_false decide_true gt_iff_lt Qe Qt Xq Qyq Qyp Qyo Qyn Qym Qyl Qyk true_and true_implies
def Qcf (m:List Bool):V:=.lst 1 (m.map V.bool) false
theorem QjD {m:List Bool} {j:Nat} (h:j<m.length):(m.map V.bool).getD j V.any=.bool (m.getD j false):=by
 simp [List.getD_eq_getElem?_getD,List.getElem?_eq_getElem h]
variable {n:Int}
theorem wnat (h:0≤n∧n≤9223372036854775807):IntKind.i64.wrap n=(n.toNat:Int):=by
 rw [Ya]
 ·omega
 ·simp [IntKind.min,IntKind.signed,IntKind.bits]; omega
 ·simp [IntKind.max,IntKind.signed,IntKind.bits]; omega
theorem QcT (h:-9223372036854775808≤n∧n≤9223372036854775807):IntKind.i64.wrap n=n:=by
 rw [Ya]
 ·simp [IntKind.min,IntKind.signed,IntKind.bits]; omega
 ·simp [IntKind.max,IntKind.signed,IntKind.bits]; omega
abbrev rclJ (t:Nat) (c:List Int) (m:List Bool):Nat→Fr→H→Prop:=fun i fr σ=>(∀ n∈c.take i,QhZ m n=false)∧Qi fr 0=.lst 1 (ints c) false∧Qi fr 1=.lst 1 (m.map V.bool) false∧Qi fr 5=.int .i64 ((i:Nat):Int)∧σ=⟨t,[]⟩
abbrev rclE (c:List Int) (m:List Bool):AE→Fr→H→Prop:=fun e fr _=>(e=.ret∧Qi fr 4=.bool true∧QR m c=true)∨(e=.ex 0∧QR m c=false)
theorem QdE (hT:Qn P tab) (c:List Int) (m:List Bool) (hc:∀ n∈c,n≠0∧-(m.length:Int)≤n∧n≤m.length) (hm:m.length≤16777216) (hl:c.length≤9223372036854775807) :
 Pure P G QP [row c,Qcf m] fun u=>u=.bool (QR m c):=by
 intro t
 simp only [row,Qcf]
 refine Xa 0 (zL _) (QM hT Qq (by simp [Xq]) (Qx 1000 ?_))
 simp -implicitDefEqProofs (disch:=omega) only [go_sem,↓reduceIte,reduceCtorEq,rq]
 refine XZ c (rclJ t c m) (rclE c m) ⟨by simp,?_⟩ (fun i n ha fr σ hJ=>?_) (fun i hi fr σ hJ=>?_) (fun e fr σ hE=>?_)
 ·simp -implicitDefEqProofs (disch:=omega) only [go_sem,↓reduceIte,reduceCtorEq,rq]
  simp
 ·obtain ⟨hno,f0,f1,f5,rfl⟩:=hJ
  obtain ⟨hlt,hD,e2⟩:=Qas ha hl
  have hnm:=List.mem_of_getElem? ha
  have hts:=Qp ha
  obtain ⟨h0,h1,h2⟩:=hc n hnm
  have hyes:QhZ m n=true→QR m c=true:=fun h=>List.any_eq_true.2 ⟨n,hnm,h⟩
  have hnext:QhZ m n=false→∀ x∈c.take (i+1),QhZ m x=false:=fun h x hx=>by
   rw [hts,List.mem_append] at hx
   rcases hx with hx | hx
   ·exact hno x hx
   ·simp at hx; subst hx; exact h
  by_cases hp:0<n
  ·have hj:(n - 1).toNat<m.length:=by omega
   have e4:=wnat (n:=n - 1) (by omega)
   have hB:=QjD hj
   have hlit:QhZ m n=m.getD (n - 1).toNat false:=by
    have:¬ n<0:=by omega
    simp [QhZ,hp,this]
   rw [← hlit] at hB
   generalize (n - 1).toNat=j at *
   have hp':decide (0<n)=true:=by simpa using hp
   cases hv:QhZ m n with
   | true =>
     rw [hv] at hB
     refine Qh [(0,.lst 1 (ints c) false),(1,.lst 1 (m.map V.bool) false),(5,.int .i64 ((i:Nat):Int))] ⟨f0,f1,f5,trivial⟩  14 ?_
     simp -implicitDefEqProofs (disch:=omega) only [go_sem,↓reduceIte,reduceCtorEq,rq,hlt]
     iterate 9 (try (refine Qc 2 ?_; simp -implicitDefEqProofs (disch:=omega) only [go_sem,↓reduceIte,reduceCtorEq,rA,rq,hlt,hD,e4,hj,hB,hp]))
     iterate 9 (try (refine Qc 4 ?_; simp -implicitDefEqProofs (disch:=omega) only [go_sem,↓reduceIte,reduceCtorEq,rq]))
     exact .inl ⟨rfl,rfl,hyes hv⟩
   | false =>
     have hn':¬ n<0:=by omega
     have hn'':decide (n<0)=false:=by simpa using hn'
     rw [hv] at hB
     refine Qh [(0,.lst 1 (ints c) false),(1,.lst 1 (m.map V.bool) false),(5,.int .i64 ((i:Nat):Int))] ⟨f0,f1,f5,trivial⟩  14 ?_
     simp -implicitDefEqProofs (disch:=omega) only [go_sem,↓reduceIte,reduceCtorEq,rq,hlt]
     iterate 9 (try (refine Qc 2 ?_; simp -implicitDefEqProofs (disch:=omega) only [go_sem,↓reduceIte,reduceCtorEq,rA,rq,hlt,hD,e4,hj,hB,hp]))
     iterate 9 (try (refine Qc 4 ?_; simp -implicitDefEqProofs (disch:=omega) only [go_sem,↓reduceIte,reduceCtorEq,rA,rq,hlt,hD,hn']))
     refine ⟨_,_,Shift.refl _ _ _ _,hnext hv,?_⟩
     simp -implicitDefEqProofs (disch:=omega) only [go_sem,↓reduceIte,reduceCtorEq,rq,e2]
  ·have hn:n<0:=by omega
   have hj:(-n - 1).toNat<m.length:=by omega
   have e3:=QcT (n:=0 - n) (by omega)
   have e4:=wnat (n:=0 - n - 1) (by omega)
   rw [show 0 - n - 1=-n - 1 by omega] at e4
   rw [show 0 - n=-n by omega] at e3
   have hB:=QjD hj
   have hlit:QhZ m n = !m.getD (-n - 1).toNat false:=by simp [QhZ,hn,hp]
   have hp':decide (0<n)=false:=by simpa using hp
   have hn':decide (n<0)=true:=by simpa using hn
   have hneg:IntKind.i64.wrap (0 - n)=-n:=by rw [show 0 - n=-n by omega]; exact e3
   generalize m.getD (-n - 1).toNat false=b at *
   generalize (-n - 1).toNat=j at *
   cases b with
   | false =>
     refine Qh [(0,.lst 1 (ints c) false),(1,.lst 1 (m.map V.bool) false),(5,.int .i64 ((i:Nat):Int))] ⟨f0,f1,f5,trivial⟩  14 ?_
     simp -implicitDefEqProofs (disch:=omega) only [go_sem,↓reduceIte,reduceCtorEq,rq,hlt]
     iterate 16 (try (refine Qc 2 ?_; simp -implicitDefEqProofs (disch:=omega) only [go_sem,↓reduceIte,reduceCtorEq,rA,rq,hlt,hD,hneg,e4,hj,hB,hp,hn]))
     iterate 9 (try (refine Qc 4 ?_; simp -implicitDefEqProofs (disch:=omega) only [go_sem,↓reduceIte,reduceCtorEq,rA,rq]))
     exact .inl ⟨rfl,rfl,hyes hlit⟩
   | true =>
     refine Qh [(0,.lst 1 (ints c) false),(1,.lst 1 (m.map V.bool) false),(5,.int .i64 ((i:Nat):Int))] ⟨f0,f1,f5,trivial⟩  14 ?_
     simp -implicitDefEqProofs (disch:=omega) only [go_sem,↓reduceIte,reduceCtorEq,rq,hlt]
     iterate 16 (try (refine Qc 2 ?_; simp -implicitDefEqProofs (disch:=omega) only [go_sem,↓reduceIte,reduceCtorEq,rA,rq,hlt,hD,hneg,e4,hj,hB,hp,hn]))
     iterate 9 (try (refine Qc 4 ?_; simp -implicitDefEqProofs (disch:=omega) only [go_sem,↓reduceIte,reduceCtorEq,rA,rq]))
     refine ⟨_,_,Shift.refl _ _ _ _,hnext hlit,?_⟩
     simp -implicitDefEqProofs (disch:=omega) only [go_sem,↓reduceIte,reduceCtorEq,rq,e2]
 ·obtain ⟨hno,f0,f1,f5,rfl⟩:=hJ
  rw [hi,List.take_length] at hno
  have hr:QR m c=false:=List.any_eq_false.2 fun n h=>by rw [hno n h]; simp
  refine Qh [(0,.lst 1 (ints c) false),(1,.lst 1 (m.map V.bool) false),(5,.int .i64 ((i:Nat):Int))] ⟨f0,f1,f5,trivial⟩  1000 ?_
  simp -implicitDefEqProofs (disch:=omega) only [go_sem,↓reduceIte,reduceCtorEq,rq,hi,Nat.lt_irrefl]
  exact .inr ⟨rfl,hr⟩
 ·rcases hE with ⟨rfl,f4,hm⟩ | ⟨rfl,hm⟩
  ·refine Qc 1000 ?_
   simp -implicitDefEqProofs (disch:=omega) only [go_sem,f4,hm]
  ·refine Qc 1000 ?_
   simp -implicitDefEqProofs (disch:=omega) only [go_sem,↓reduceIte,hm]
abbrev hoJ (t:Nat) (v:Int) (F:List (List Int)) (m:List Bool):Nat→Fr→H→Prop:=fun i fr σ=>(∀ c∈F.take i,QR m c=true)∧Qi fr 1=.lst 1 (m.map V.bool) false∧Qi fr 2=.ptr 0 t 0∧Qi fr 5=.int .i64 ((i:Nat):Int)∧σ=⟨t+1,rfH t v F⟩
abbrev hoE (v:Int) (F:List (List Int)) (m:List Bool):AE→Fr→H→Prop:=fun e fr _=>(e=.ret∧Qi fr 4=.bool false∧Yn v F m=false)∨(e=.ex 0∧Yn v F m=true)
theorem Qiu (m:List Bool):Qb (m.map V.bool)=true:=by
 induction m with
 | nil=>rfl
 | cons b m ih=>simpa [Qb,Qd] using ih
end
section
attribute [local go_sem] lR zA gt_iff_lt Xp Qxa Qw9
theorem Qku {f:FuncId} {args:List V} {X:V} (h:∀ t,C P G 0 f args ⟨t,[]⟩ fun u σ=>(Qd u=true∧Wk u X)∨∃ k v' T cs,σ.o[k]?=some (some (.arr v' T cs))∧Qb cs=true∧Qd (X3 k v' cs u)=true∧Wk (X3 k v' cs u) X) (hX:Qd X=true):Pure P G f args fun u=>u=X:=by
 intro t
 refine QfG (Q:=fun u _=>Qd u=true∧Wk u X) (Y6 (h t) fun u σ hu=>?_) fun u σ hu=>⟨X,hu.2,hX,rfl⟩
 rcases hu with hu | ⟨k,v',T,cs,h1,h2,h3,h4⟩
 ·exact .inl hu
 ·exact .inr ⟨k,v',T,cs,zL _,h1,h2,h3,h4⟩
theorem QrA (tight:Bool):Wk (.lst 0 [] tight) (row []):=.lst _ _ _ _ _ .nil (.inl rfl)
variable {l Q S:List Int} {k w T:Nat}
theorem QmD {T:Nat}:X3 k w (ints l) (.sl k w 0 1 l.length none)=row l:=by
 simp [X3,Qbc,Qe,row]
 rw [← Qe l,List.take_length]
theorem Qbr (l:List Int):Qd (row l)=true:=by simp [row,Qd]
variable {n p:Int}
theorem QgY (h:-9223372036854775808≤n∧n≤9223372036854775807):IntKind.i64.wrap (0 - n)=neg n:=by
 unfold neg
 split
 ·subst n; decide
 ·rw [QcT (by omega)]; omega
theorem QAE:(if n < -n then -n else n)=av n:=by unfold av; split <;> split <;> omega
theorem Qoj (hT:Qn P tab) (a b:Int) (ha:-9223372036854775808<a∧a≤9223372036854775807) (hb:-9223372036854775808<b∧b≤9223372036854775807):Pure P G Zp [.int .i64 a,.int .i64 b] fun u=>u=.bool (decide (av a<av b)):=by
 intro t
 have h1:=QgY (n:=a) (by omega)
 have h2:=QgY (n:=b) (by omega)
 rw [neg,if_neg (by omega)] at h1 h2
 refine Xa 0 (zL _) (QM hT Xf (by simp [Xp]) (Qx 1000 ?_))
 simp -implicitDefEqProofs (disch:=omega) only [go_sem,↓reduceIte,reduceCtorEq,rq,h1,h2,QAE]
theorem QjS:(ints (Q++n::S)).take Q.length++[V.int .i64 p]++(ints (Q++n::S)).drop (Q.length+1)=ints (Q++p::S):=by
 simp [ints,List.drop_append]
theorem Qk4 {q:Int}:(ints (Q++q::n::S)).take (Q.length+1)++[V.int .i64 p]++(ints (Q++q::n::S)).drop (Q.length+1+1)=ints (Q++q::p::S):=by
 have:=QjS (Q:=Q++[q]) (S:=S) (p:=p) (n:=n)
 simpa using this
theorem Qsz:(ints (Q++n::S)).getD Q.length .any=.int .i64 n:=by simp [ints,List.getD_eq_getElem?_getD]
theorem QnX:(ints (Q++p::n::S)).getD (Q.length+1) .any=.int .i64 n:=by simp [ints,List.getD_eq_getElem?_getD]
abbrev rdnJ (t tw:Nat) (c:List Int) (i z:Nat) (n:Int) (l:List Int):Nat→Fr→H→Prop:=fun m fr σ=>∃ Q S,m=Q.length∧Q++S=l∧(∀ s∈S,av n<av s)∧Qi fr 0=.lst 1 (ints c) false∧Qi fr 4=.sl 0 tw 0 1 (z+1) none∧Qi fr 5=.int .i64 ((i:Nat):Int)∧Qi fr 6=.int .i64 ((m:Nat):Int)∧σ=⟨t,[some (.arr tw 3 (ints (Q++n::S)))]⟩
abbrev rdnE (t tw:Nat) (c:List Int) (i z:Nat) (n:Int) (l:List Int):AE→Fr→H→Prop:=fun e fr σ=>e=.ex 2∧∃ Q S,Q++S=l∧Srt (Q++n::S)∧Qi fr 0=.lst 1 (ints c) false∧Qi fr 4=.sl 0 tw 0 1 (z+1) none∧Qi fr 5=.int .i64 ((i:Nat):Int)∧σ=⟨t,[some (.arr tw 3 (ints (Q++n::S)))]⟩
theorem Qz7 {q:Nat} (h:q≤1000000):IntKind.i64.wrap (((q+1:Nat):Int) - 1)=((q:Nat):Int):=by rw [QcT (by omega)]; omega
theorem QrM (h:Srt l):l.Nodup:=List.Pairwise.imp (fun {a b} (h:av a<av b) (e:a=b)=>by rw [e] at h; omega) h
theorem seen_ints {o:List (Option Ob)} {c:List Int} (h:o[k]?=some (some (.arr w T (ints c)))):Seen o (.sl k w 0 1 c.length none) (.lst 1 (ints c) false):=by
 have:=Seen.row (o:=o) k w 0 1 none T (ints c) (ints c) h (fun j u hj=>?_) (fun _=>rfl)
 ·rwa [Qe] at this
 ·have hj':=hj
  simp only [ints,List.getElem?_map,Option.map_eq_some_iff] at hj
  obtain ⟨c,hc,rfl⟩:=hj
  refine ⟨rfl,fun i d hd=>?_⟩
  cases i with
  | zero =>
    simp [V.cells] at hd; subst hd
    refine ⟨?_,by simp [Qd]⟩
    rw [show 0+j * 1+0=j by omega]; exact hj'
  | succ i=>simp [V.cells] at hd
end
section
attribute [local go_sem] nFq nT aZ lR zA zL and_true decide_true Qe Qt Qty Qtx Qtw Qtv true_and true_implies
def raH (t t2:Nat) (v:Int) (F:List (List Int)):List (Option Ob) :=
 [some (.arr t 33 [.int .i64 v,.lst 1 (F.map row) false]),some (.arr t2 33 [.int .i64 0,.lst 0 [] true])]
abbrev ra1J (t t2:Nat) (v:Int) (F:List (List Int)) (L:List Int):Nat→Fr→H→Prop:=fun i fr σ=>(∀ n∈L.take i,YN v n=true∧neg n ∉ L)∧Qi fr 1=.lst 1 (ints L) false∧Qi fr 2=.ptr 0 t 0∧Qi fr 4=.ptr 1 t2 0∧Qi fr 5=.bool false∧Qi fr 6=.int .i64 ((i:Nat):Int)∧∃ t3,σ=⟨t3,raH t t2 v F⟩
abbrev ra1E (t t2:Nat) (v:Int) (F:List (List Int)) (L:List Int):AE→Fr→H→Prop:=fun e fr σ=>(e=.ret∧(∃ n∈L,¬ (YN v n=true∧neg n ∉ L))∧Qi fr 4=.ptr 1 t2 0∧Qi fr 5=.bool false∧∃ t3,σ=⟨t3,raH t t2 v F⟩)∨(e=.ex 0∧(∀ n∈L,YN v n=true∧neg n ∉ L)∧Qi fr 1=.lst 1 (ints L) false∧Qi fr 2=.ptr 0 t 0∧Qi fr 4=.ptr 1 t2 0∧Qi fr 5=.bool false∧∃ t3,σ=⟨t3,raH t t2 v F⟩)
theorem Qr7 (hT:Qn P tab) {t t2:Nat} {v:Int} {F:List (List Int)} {L:List Int} (hv:0≤v∧v≤16777216) (hl:L.length≤1000) (hb:∀ n∈L,-9223372036854775808≤n∧n≤9223372036854775807)
 {i:Nat} {n:Int} (hn:L[i]?=some n) {fr:Fr} {σ:H} (hJ:ra1J t t2 v F L i fr σ) :
 W P G 93 0 (.seq (zg Qty [17,18,19] (zw 20 .skip (.exit 0))) (.seq (.block 1 (zg Qtx [23,24,25,26,27,28,29,30,31,32,33,34,35,36,37,38] (zw 39 (zg Qtw [40] .ret) .skip))) (.reg Qtv [21,22]))) fr σ (ZB (fun fr σ=>∃ fr' σ',Shift G 93 0 fr σ fr' σ'∧ra1J t t2 v F L (i+1) fr' σ') (ra1E t t2 v F L)):=by
 obtain ⟨hok,f1,f2,f4,f5,f6,t3,rfl⟩:=hJ
 obtain ⟨hlt,hD,e3⟩:=Qas hn (by omega)
 have hts:=Qp hn
 have hnm:=List.mem_of_getElem? hn
 have hneg:=QgY (hb n hnm)
 have h1:=c_lit (P:=P) (G:=G) hT v n hv
 have h2:=QiQ (P:=P) (G:=G) hT L (neg n) (by omega)
 simp only [row] at h2
 cases g1:YN v n with
 | false =>
   rw [g1] at h1
   refine Qh [(1,.lst 1 (ints L) false),(2,.ptr 0 t 0),(4,.ptr 1 t2 0),(5,.bool false),(6,.int .i64 ((i:Nat):Int))] ⟨f1,f2,f4,f5,f6,trivial⟩  14 ?_
   simp -implicitDefEqProofs (disch:=omega) only [go_sem,↓reduceIte,rq,raH,hlt]
   iterate 9 (try (refine Qc 4 ?_; simp -implicitDefEqProofs (disch:=omega) only [go_sem,↓reduceIte,rA,rq,rL,hlt,hD]))
   refine Qj hT Xx h1 rfl 4 ?_
   simp -implicitDefEqProofs (disch:=omega) only [go_sem,↓reduceIte,rq]
   iterate 9 (try (refine Qc 4 ?_; simp -implicitDefEqProofs (disch:=omega) only [go_sem,↓reduceIte,rA,rq]))
   exact .inl ⟨rfl,⟨n,hnm,by simp [g1]⟩,rfl,rfl,_,rfl⟩
 | true =>
   rw [g1] at h1
   cases g2:decide (neg n∈L) with
   | true =>
     rw [g2] at h2
     refine Qh [(1,.lst 1 (ints L) false),(2,.ptr 0 t 0),(4,.ptr 1 t2 0),(5,.bool false),(6,.int .i64 ((i:Nat):Int))] ⟨f1,f2,f4,f5,f6,trivial⟩  14 ?_
     simp -implicitDefEqProofs (disch:=omega) only [go_sem,↓reduceIte,rq,raH,hlt]
     iterate 9 (try (refine Qc 4 ?_; simp -implicitDefEqProofs (disch:=omega) only [go_sem,↓reduceIte,rA,rq,rL,hlt,hD]))
     refine Qj hT Xx h1 rfl 4 ?_
     simp -implicitDefEqProofs (disch:=omega) only [go_sem,↓reduceIte,rA,rq]
     iterate 9 (try (refine Qc 4 ?_; simp -implicitDefEqProofs (disch:=omega) only [go_sem,↓reduceIte,rA,rq,hlt,hD,hneg]))
     refine Qj hT Qk h2 (by simp [Qb,Qd]) 4 ?_
     simp -implicitDefEqProofs (disch:=omega) only [go_sem,↓reduceIte,rq]
     iterate 9 (try (refine Qc 4 ?_; simp -implicitDefEqProofs (disch:=omega) only [go_sem,↓reduceIte,rA,rq]))
     exact .inl ⟨rfl,⟨n,hnm,by have:=of_decide_eq_true g2; simp [this]⟩,rfl,rfl,_,rfl⟩
   | false =>
     rw [g2] at h2
     have g2':=of_decide_eq_false g2
     refine Qh [(1,.lst 1 (ints L) false),(2,.ptr 0 t 0),(4,.ptr 1 t2 0),(5,.bool false),(6,.int .i64 ((i:Nat):Int))] ⟨f1,f2,f4,f5,f6,trivial⟩  14 ?_
     simp -implicitDefEqProofs (disch:=omega) only [go_sem,↓reduceIte,rq,raH,hlt]
     iterate 9 (try (refine Qc 4 ?_; simp -implicitDefEqProofs (disch:=omega) only [go_sem,↓reduceIte,rA,rq,rL,hlt,hD]))
     refine Qj hT Xx h1 rfl 4 ?_
     simp -implicitDefEqProofs (disch:=omega) only [go_sem,↓reduceIte,rA,rq]
     iterate 9 (try (refine Qc 4 ?_; simp -implicitDefEqProofs (disch:=omega) only [go_sem,↓reduceIte,rA,rq,hlt,hD,hneg]))
     refine Qj hT Qk h2 (by simp [Qb,Qd]) 4 ?_
     simp -implicitDefEqProofs (disch:=omega) only [go_sem,↓reduceIte,rq]
     iterate 9 (try (refine Qc 4 ?_; simp -implicitDefEqProofs (disch:=omega) only [go_sem,↓reduceIte,rq]))
     refine ⟨_,_,Shift.refl _ _ _ _,fun x hx=>?_,?_⟩
     ·rw [hts,List.mem_append] at hx
      rcases hx with hx | hx
      ·exact hok x hx
      ·simp at hx; subst hx; exact ⟨g1,g2'⟩
     ·simp -implicitDefEqProofs (disch:=omega) only [go_sem,↓reduceIte,rq,raH,e3]
      exact ⟨_,rfl⟩
end
section
attribute [local go_sem] nFq nT lM lR Nat.mul_one zA zL and_true decide_true Qe Qt Qi6 Qi5 Qi4 Qi3 Qi2 Qi1 true_and true_implies
def raB (t t2 t7 tw tl:Nat) (v:Int) (F R:List (List Int)) (Q:List Int):List (Option Ob) :=
 [some (.arr t 33 [.int .i64 v,.lst 1 (F.map row) false]),some (.arr t2 33 [.int .i64 0,.lst 0 [] true]),
  some (.arr t7 33 [.int .i64 v,.sl 3 tw 0 1 R.length none]),some (.arr tw 41 (R.map row)),some (.arr tl 3 (ints Q))]
abbrev ra2J (t t2 t7 tw:Nat) (v:Int) (F R:List (List Int)) (L c:List Int) (i:Nat):Nat→Fr→H→Prop:=fun k fr σ=>∃ t3 tl Q hd,Q=ZA L (c.take k)∧hd=((c.take k).any fun n=>decide (n∈L))∧Qi fr 1=.lst 1 (ints L) false∧Qi fr 2=.ptr 0 t 0∧Qi fr 4=.ptr 1 t2 0∧Qi fr 5=.bool false∧Qi fr 7=.ptr 2 t7 0∧Qi fr 8=.int .i64 ((i:Nat):Int)∧Qi fr 9=.sl 4 tl 0 1 Q.length none∧Qi fr 10=.bool hd∧Qi fr 11=.int .i64 ((k:Nat):Int)∧σ=⟨t3,raB t t2 t7 tw tl v F R Q⟩
abbrev ra2E (t t2 t7 tw:Nat) (v:Int) (F R:List (List Int)) (L c:List Int) (i:Nat):AE→Fr→H→Prop:=fun e fr σ=>∃ t3 tl Q hd,e=.ex 4∧Q=ZA L c∧hd=(c.any fun n=>decide (n∈L))∧Qi fr 1=.lst 1 (ints L) false∧Qi fr 2=.ptr 0 t 0∧Qi fr 4=.ptr 1 t2 0∧Qi fr 5=.bool false∧Qi fr 7=.ptr 2 t7 0∧Qi fr 8=.int .i64 ((i:Nat):Int)∧Qi fr 9=.sl 4 tl 0 1 Q.length none∧Qi fr 10=.bool hd∧σ=⟨t3,raB t t2 t7 tw tl v F R Q⟩
set_option maxHeartbeats 2000000 in
theorem Qr6 (hT:Qn P tab) {t t2 t7 tw:Nat} {v:Int} {F R:List (List Int)} {L c:List Int} {i:Nat} (hci:F[i]?=some c) (hF:F.length≤1000) (hcl:c.length≤1000) (hl:L.length≤1000) (hb:∀ n∈c,-16777216≤n∧n≤16777216)
 {k:Nat} {n:Int} (hn:c[k]?=some n) {fr:Fr} {σ:H} (hJ:ra2J t t2 t7 tw v F R L c i k fr σ) :
 W P G 93 0 (.seq (zg Qi6 [51,52,53,54,55,56,57] (zw 58 .skip (.exit 4))) (.seq (.block 5 (zg Qi5 [61,62,63,64,65,66,67,68] (zg Qi4 [69,70,71,72,73,74] (zg Qi3 [75,76,77,78] (zw 79 (.reg Qi2 [80,81,82,83]) .skip))))) (.reg Qi1 [59,60]))) fr σ (ZB (fun fr σ=>∃ fr' σ',Shift G 93 0 fr σ fr' σ'∧ra2J t t2 t7 tw v F R L c i (k+1) fr' σ') (ra2E t t2 t7 tw v F R L c i)):=by
 obtain ⟨t3,tl,Q,hd,hQ,hhd,f1,f2,f4,f5,f7,f8,f9,f10,f11,rfl⟩:=hJ
 obtain ⟨hlt,hD,_⟩:=Zz hci (by omega)
 obtain ⟨hlt2,hD2,e3⟩:=Qas hn (by omega)
 have hts:=Qp hn
 have hnm:=List.mem_of_getElem? hn
 have hbn:=hb n hnm
 have hneg:IntKind.i64.wrap (0 - n)=-n:=by rw [QcT (by omega)]; omega
 have hQl:Q.length≤1000:=by
  have:=List.length_filter_le (fun n=>!decide (-n∈L)) (c.take k)
  rw [hQ]; unfold ZA; rw [List.length_take] at this; omega
 have h1:=QiQ (P:=P) (G:=G) hT L n (by omega)
 have h2:=QiQ (P:=P) (G:=G) hT L (-n) (by omega)
 have hhd2:((c.take (k+1)).any fun n=>decide (n∈L))=(hd || decide (n∈L)):=by rw [hts,List.any_append,← hhd]; simp
 have hQ2:ZA L (c.take (k+1))=if -n∈L then Q else Q++[n]:=by
  rw [hts,hQ]; unfold ZA; rw [List.filter_append]
  by_cases h:-n∈L <;> simp [h]
 have hap:ints Q++[V.int .i64 n]=ints (Q++[n]):=by simp [ints]
 have hnl:Qb [V.lst 1 (ints L) false,V.int .i64 n]=true:=by simp [Qb,Qd]
 have hnl':Qb [V.lst 1 (ints L) false,V.int .i64 (-n)]=true:=by simp [Qb,Qd]
 simp only [row] at h1 h2
 cases hd
 ·cases g1:decide (n∈L) <;> cases g2:decide (-n∈L) <;> rw [g1] at h1 hhd2 <;> rw [g2] at h2 <;> simp only [Bool.or_false,Bool.or_true] at hhd2 <;> simp only [decide_eq_true_eq,decide_eq_false_iff_not] at g1 g2 <;> simp only [g2,↓reduceIte] at hQ2
  all_goals (
   refine Qh [(1,.lst 1 (ints L) false),(2,.ptr 0 t 0),(4,.ptr 1 t2 0),(5,.bool false),(7,.ptr 2 t7 0),(8,.int .i64 ((i:Nat):Int)),(9,.sl 4 tl 0 1 Q.length none),(10,.bool false),(11,.int .i64 ((k:Nat):Int))] ⟨f1,f2,f4,f5,f7,f8,f9,f10,f11,trivial⟩  14 ?_
   simp -implicitDefEqProofs (disch:=omega) only [go_sem,↓reduceIte,rA,rq,raB,hlt,hD,hlt2]
   iterate 9 (try (refine Qc 4 ?_; simp -implicitDefEqProofs (disch:=omega) only [go_sem,↓reduceIte,rA,rq,hlt,hD,hlt2,hD2]))
   refine Qj hT Qk h1 hnl 4 ?_
   simp -implicitDefEqProofs (disch:=omega) only [go_sem,↓reduceIte,rq]
   iterate 9 (try (refine Qc 4 ?_; simp -implicitDefEqProofs (disch:=omega) only [go_sem,↓reduceIte,rq,hneg]))
   refine Qj hT Qk h2 hnl' 4 ?_
   simp -implicitDefEqProofs (disch:=omega) only [go_sem,↓reduceIte,rq]
   iterate 9 (try (refine Qc 4 ?_; simp -implicitDefEqProofs (disch:=omega) only [go_sem,↓reduceIte,reduceCtorEq,rq,rL]))
   first | (refine ⟨_,_,Shift.refl _ _ _ _,t3,tl,Q,_,hQ2.symm,hhd2.symm,?_⟩; simp -implicitDefEqProofs (disch:=omega) only [go_sem,↓reduceIte,rq,raB,e3]; done) | (refine ⟨_,_,Shift.refl _ _ _ _,t3+1,t3,Q++[n],_,hQ2.symm,hhd2.symm,?_⟩; simp -implicitDefEqProofs (disch:=omega) only [go_sem,↓reduceIte,rq,raB,e3,hap,lAq]; done))
 ·cases g2:decide (-n∈L) <;> rw [g2] at h2 <;> simp only [Bool.true_or] at hhd2 <;> simp only [decide_eq_true_eq,decide_eq_false_iff_not] at g2 <;> simp only [g2,↓reduceIte] at hQ2
  all_goals (
   refine Qh [(1,.lst 1 (ints L) false),(2,.ptr 0 t 0),(4,.ptr 1 t2 0),(5,.bool false),(7,.ptr 2 t7 0),(8,.int .i64 ((i:Nat):Int)),(9,.sl 4 tl 0 1 Q.length none),(10,.bool true),(11,.int .i64 ((k:Nat):Int))] ⟨f1,f2,f4,f5,f7,f8,f9,f10,f11,trivial⟩  14 ?_
   simp -implicitDefEqProofs (disch:=omega) only [go_sem,↓reduceIte,rA,rq,raB,hlt,hD,hlt2]
   iterate 9 (try (refine Qc 4 ?_; simp -implicitDefEqProofs (disch:=omega) only [go_sem,↓reduceIte,rA,rq,hlt,hD,hlt2,hD2,hneg]))
   refine Qj hT Qk h2 hnl' 4 ?_
   simp -implicitDefEqProofs (disch:=omega) only [go_sem,↓reduceIte,rq]
   iterate 9 (try (refine Qc 4 ?_; simp -implicitDefEqProofs (disch:=omega) only [go_sem,↓reduceIte,reduceCtorEq,rq,rL]))
   first | (refine ⟨_,_,Shift.refl _ _ _ _,t3,tl,Q,_,hQ2.symm,hhd2.symm,?_⟩; simp -implicitDefEqProofs (disch:=omega) only [go_sem,↓reduceIte,rq,raB,e3]; done) | (refine ⟨_,_,Shift.refl _ _ _ _,t3+1,t3,Q++[n],_,hQ2.symm,hhd2.symm,?_⟩; simp -implicitDefEqProofs (disch:=omega) only [go_sem,↓reduceIte,rq,raB,e3,hap,lAq]; done))
end
section
attribute [local go_sem] nFq nT lR Nat.mul_one Nat.succ_ne_zero zA zL decide_false decide_true Qt Qm6 Qm5 Qm4 Qm3 Qi6 Qi5 Qi4 Qi3 Qi2 Qi1 Qm2 Qm1 Qm0
variable {i:Nat} {L c:List Int} {F:List (List Int)}
theorem QlT (h:F[i]?=some c):assign (F.take (i+1)) L=assign (F.take i) L++if c.any (fun n=>decide (n∈L)) then [] else [ZA L c]:=by
 unfold assign
 rw [Qp h,List.filter_append,List.map_append]
 congr 1
 cases hc:c.any fun n=>decide (n∈L) <;> simp [hc]
def raR (t t2 t7 tw:Nat) (v:Int) (F R:List (List Int)):List (Option Ob) :=
 [some (.arr t 33 [.int .i64 v,.lst 1 (F.map row) false]),some (.arr t2 33 [.int .i64 0,.lst 0 [] true]),
  some (.arr t7 33 [.int .i64 v,.sl 3 tw 0 1 R.length none]),some (.arr tw 41 (R.map row))]
abbrev ra3J (t t2 t7:Nat) (v:Int) (F:List (List Int)) (L:List Int):Nat→Fr→H→Prop:=fun i fr σ=>∃ t3 tw,Qi fr 1=.lst 1 (ints L) false∧Qi fr 2=.ptr 0 t 0∧Qi fr 4=.ptr 1 t2 0∧Qi fr 5=.bool false∧Qi fr 7=.ptr 2 t7 0∧Qi fr 8=.int .i64 ((i:Nat):Int)∧σ=⟨t3,raR t t2 t7 tw v F (assign (F.take i) L)⟩
abbrev ra3E (t t2 t7:Nat) (v:Int) (F:List (List Int)) (L:List Int):AE→Fr→H→Prop:=fun e fr σ=>∃ t3 tw,e=.ex 2∧Qi fr 4=.ptr 1 t2 0∧Qi fr 7=.ptr 2 t7 0∧σ=⟨t3,raR t t2 t7 tw v F (assign F L)⟩
set_option maxHeartbeats 2000000 in
theorem Qr5 (hT:Qn P tab) {t t2 t7:Nat} {v:Int} (hF:F.length≤1000) (hc:∀ c∈F,c.length≤1000) (hl:L.length≤1000) (hrt:∀ c∈F,∀ n∈c,-16777216≤n∧n≤16777216) (hci:F[i]?=some c) {fr:Fr} {σ:H} (hJ:ra3J t t2 t7 v F L i fr σ) :
 W P G 93 0 (.seq (zg Qm6 [44,45,46,47] (zw 48 .skip (.exit 2))) (.seq (.block 3 (zg Qm5 [] (zg Qm4 [] (.seq (zg Qm3 [] (.block 4 (.loop (.seq (zg Qi6 [51,52,53,54,55,56,57] (zw 58 .skip (.exit 4))) (.seq (.block 5 (zg Qi5 [61,62,63,64,65,66,67,68] (zg Qi4 [69,70,71,72,73,74] (zg Qi3 [75,76,77,78] (zw 79 (.reg Qi2 [80,81,82,83]) .skip))))) (.reg Qi1 [59,60])))))) (zg Qm2 [84] (zw 85 (.reg Qm1 [86,87,88,89,90,91]) .skip)))))) (.reg Qm0 [49,50]))) fr σ (ZB (fun fr σ=>∃ fr' σ',Shift G 93 0 fr σ fr' σ'∧ra3J t t2 t7 v F L (i+1) fr' σ') (ra3E t t2 t7 v F L)):=by
 obtain ⟨t3,tw,f1,f2,f4,f5,f7,f8,rfl⟩:=hJ
 obtain ⟨hlt,hD,e2⟩:=Zz hci (by omega)
 have hcm:=List.mem_of_getElem? hci
 have hcl:=hc c hcm
 have hsn:=QlT (L:=L) hci
 have hRl:(assign (F.take i) L).length≤1000:=by
  unfold assign; rw [lM]
  have:=List.length_filter_le (fun c:List Int=>!c.any fun n=>decide (n∈L)) (F.take i)
  rw [List.length_take] at this
  omega
 generalize assign (F.take i) L=R at *
 refine Qh [(1,.lst 1 (ints L) false),(2,.ptr 0 t 0),(4,.ptr 1 t2 0),(5,.bool false),(7,.ptr 2 t7 0),(8,.int .i64 ((i:Nat):Int))] ⟨f1,f2,f4,f5,f7,f8,trivial⟩  1000 ?_
 simp -implicitDefEqProofs (disch:=omega) only [go_sem,↓reduceIte,rA,rq,raR,lM,true_implies,and_true,hlt]
 refine Xk (Shift.own (s:=9) (z:=0) (sz:=1) (T:=3) (by simp -implicitDefEqProofs (disch:=omega) only [go_sem,↓reduceIte,rq]) (by decide)) ?_
 simp -implicitDefEqProofs (disch:=omega) only [go_sem,↓reduceIte,rA,rq,H.push,lC,lN,cAq,nAq]
 refine XZ c (ra2J t t2 t7 tw v F R L c i) (ra2E t t2 t7 tw v F R L c i) ⟨t3+1,t3,[],false,by simp [ZA],by simp,?_⟩ (fun k n hn fr σ hJ=>Qr6 hT hci hF hcl hl (hrt c hcm) hn hJ) (fun k hk fr σ hJ=>?_) (fun e fr σ hE=>?_)
 ·simp -implicitDefEqProofs (disch:=omega) only [go_sem,↓reduceIte,rq,true_and,raB]
  simp [ints]
 ·obtain ⟨t3,tl,Q,hd,hQ,hhd,f1,f2,f4,f5,f7,f8,f9,f10,f11,rfl⟩:=hJ
  rw [hk,List.take_length] at hQ hhd
  refine Qh [(1,.lst 1 (ints L) false),(2,.ptr 0 t 0),(4,.ptr 1 t2 0),(5,.bool false),(7,.ptr 2 t7 0),(8,.int .i64 ((i:Nat):Int)),(9,.sl 4 tl 0 1 Q.length none),(10,.bool hd),(11,.int .i64 ((k:Nat):Int))] ⟨f1,f2,f4,f5,f7,f8,f9,f10,f11,trivial⟩ 1000 ?_
  simp -implicitDefEqProofs (disch:=omega) only [go_sem,↓reduceIte,rA,rq,lM,Qe,true_implies,and_true,raB,hlt,hD,hk,Nat.lt_irrefl]
  exact ⟨t3,tl,Q,hd,rfl,hQ,hhd,rfl,rfl,rfl,rfl,rfl,rfl,rfl,rfl,rfl⟩
 ·obtain ⟨t4,tl,Q,hd,rfl,hQ,hhd,f1,f2,f4,f5,f7,f8,f9,f10,rfl⟩:=hE
  have hz:List.take Q.length (ints Q)=ints Q:=List.take_of_length_le (by simp [ints])
  have hmr:(R.map row).map (X3 4 tl (ints Q))=R.map row:=by simp [X3,row]
  refine QhK [(1,.lst 1 (ints L) false),(2,.ptr 0 t 0),(4,.ptr 1 t2 0),(5,.bool false),(7,.ptr 2 t7 0),(8,.int .i64 ((i:Nat):Int)),(9,.sl 4 tl 0 1 Q.length none),(10,.bool hd)] ⟨f1,f2,f4,f5,f7,f8,f9,f10,trivial⟩ ?_
  refine Xk (Shift.freeze (k:=4) (v:=tl) (T:=3) (cs:=ints Q) (zL _) rfl (QQ _)) ?_
  simp only [Qf7,Qh3,X3,Qbc,raB,Q5,Ob.mapV,List.set_cons_succ,List.set_cons_zero,Option.map_some,Option.map_none,List.map_cons,List.map_nil,Qe,hmr]
  rw [← hhd,← hQ] at hsn
  cases hd with
  | true =>
    rw [if_pos rfl,List.append_nil] at hsn
    refine Qc 1000 ?_
    simp -implicitDefEqProofs (disch:=omega) only [go_sem,↓reduceIte,reduceCtorEq,rq,and_true,not_false_eq_true,hz]
    refine ⟨_,_,Shift.drop (o':=raR t t2 t7 tw v F R) (t':=t4) (by simp [XJ,raR]) (lR _) (zL _),t4,tw,?_⟩
    simp -implicitDefEqProofs (disch:=omega) only [go_sem,↓reduceIte,rq,raR,and_true,e2,hsn]
  | false =>
    rw [if_neg (by simp)] at hsn
    have hap:R.map row++[V.lst 1 (ints Q) false]=(R++[Q]).map row:=by simp [row]
    refine Qc 1000 ?_
    simp -implicitDefEqProofs (disch:=omega) only [go_sem,↓reduceIte,reduceCtorEq,rA,rq,rL,lM,true_implies,true_and,and_true,not_false_eq_true,hz]
    refine ⟨_,_,Shift.drop (o':=raR t t2 t7 t4 v F (R++[Q])) (t':=t4+1) (by simp [XJ,raR,row]) (lR _) (zL _),t4+1,t4,?_⟩
    simp -implicitDefEqProofs (disch:=omega) only [go_sem,↓reduceIte,rq,raR,and_true,e2,hsn,lAq]
end
section
attribute [local go_sem] nFq nT aZ lR zA zL decide_false Xr zqy_0 zqy_1 Qm6 Qm5 Qm4 Qm3 Qi6 Qi5 Qi4 Qi3 Qi2 Qi1 zqy_2 Qm2 Qm1 Qm0 Qu0 zqy_3 Qty Qtx Qtw Qtv zqy_8 zqy_9
def ZX (v:Int) (F:List (List Int)) (L:List Int):V :=
 if right v F&&L.all (fun n=>YN v n&&!decide (neg n∈L)) then .tup [fml v (assign F L),.bool true] else .tup [fml 0 [],.bool false]
theorem Qeu:∀ F:List (List Int),Qb (F.map row)=true
 | []=>rfl
 | c::F=>by have:=Qeu F; simpa [Qb,Qd,row] using this
set_option maxHeartbeats 1000000 in
theorem Qs0 (hT:Qn P tab) (v:Int) (F:List (List Int)) (L:List Int) (hF:F.length≤1000) (hc:∀ c∈F,c.length≤1000) (hl:L.length≤1000) (hb:∀ n∈L,-9223372036854775808≤n∧n≤9223372036854775807) :
 Pure P G Zq [fml v F,row L] fun u=>u=ZX v F L:=by
 intro t
 refine QfG (Q:=fun u _=>Qd u=true∧((u=.tup [.agg [.int .i64 0,.lst 0 [] true],.bool false]∧ZX v F L=.tup [fml 0 [],.bool false])∨u=ZX v F L))
  (Y6 (Q:=fun u σ=>(u=.tup [.agg [.int .i64 0,.lst 0 [] true],.bool false]∧ZX v F L=.tup [fml 0 [],.bool false])∨∃ tw,ZX v F L=.tup [fml v (assign F L),.bool true]∧u=.tup [.agg [.int .i64 v,.sl 3 tw 0 1 (assign F L).length none],.bool true]∧σ.o[3]?=some (some (.arr tw 41 ((assign F L).map row)))) ?_ fun u σ hu=>?_) fun u σ hu=>?_
 ·have hR:=Qfw (P:=P) (G:=G) hT v F (by omega) (fun c h=>by have:=hc c h; omega)
  simp only [fml,rows,row] at hR ⊢
  refine QM hT Zj (by simp [Xr]) (Qx 12 ?_)
  have hnF:Qb [V.agg [V.int .i64 v,V.lst 1 (F.map row) false]]=true:=by simp [Qb,Qd]
  cases hr:right v F with
  | false =>
    have hav:ZX v F L=.tup [fml 0 [],.bool false]:=by unfold ZX; rw [hr]; rfl
    simp only [fml,rows,List.map_nil] at hav
    rw [hr] at hR
    simp -implicitDefEqProofs (disch:=omega) only [go_sem,↓reduceIte,reduceCtorEq,rA,rq,false_implies,and_true]
    refine Qj hT QE hR hnF 1000 ?_
    simp -implicitDefEqProofs (disch:=omega) only [go_sem,↓reduceIte,reduceCtorEq,rA,rq,false_implies,true_and,and_true]
    exact .inl hav
  | true =>
    rw [hr] at hR
    have hrt:=Xh.1 hr
    simp -implicitDefEqProofs (disch:=omega) only [go_sem,↓reduceIte,reduceCtorEq,rA,rq,false_implies,and_true]
    refine Qj hT QE hR hnF 1000 ?_
    simp -implicitDefEqProofs (disch:=omega) only [go_sem,↓reduceIte,reduceCtorEq,rq]
    refine XZ L (ra1J t (t+1) v F L) (ra1E t (t+1) v F L) ⟨by simp,?_⟩ (fun i n hn fr σ hJ=>Qr7 hT (by omega) hl hb hn hJ) (fun i hi fr σ hJ=>?_) (fun e fr σ hE=>?_)
    ·simp -implicitDefEqProofs (disch:=omega) only [go_sem,↓reduceIte,reduceCtorEq,rq,raH,true_and,and_true]
     exact ⟨rfl,_,rfl⟩
    ·obtain ⟨hok,f1,f2,f4,f5,f6,t3,rfl⟩:=hJ
     rw [hi,List.take_length] at hok
     refine Qh [(1,.lst 1 (ints L) false),(2,.ptr 0 t 0),(4,.ptr 1 (t+1) 0),(5,.bool false),(6,.int .i64 ((i:Nat):Int))] ⟨f1,f2,f4,f5,f6,trivial⟩ 1000 ?_
     simp -implicitDefEqProofs (disch:=omega) only [go_sem,↓reduceIte,rq,raH,Qe,hi,Nat.lt_irrefl]
     exact .inr ⟨rfl,hok,rfl,rfl,rfl,rfl,_,rfl⟩
    ·rcases hE with ⟨rfl,⟨n,hn,hno⟩,f4,f5,t3,rfl⟩ | ⟨rfl,hall,f1,f2,f4,f5,t3,rfl⟩
     ·have hav:ZX v F L=.tup [fml 0 [],.bool false]:=by
       have:L.all (fun n=>YN v n&&!decide (neg n∈L))=false:=by
        rw [List.all_eq_false]
        refine ⟨n,hn,fun h=>hno ?_⟩
        simpa using h
       unfold ZX; rw [this,Bool.and_false]; rfl
      simp only [fml,rows,List.map_nil] at hav
      refine Qc 1000 ?_
      simp -implicitDefEqProofs (disch:=omega) only [go_sem,↓reduceIte,reduceCtorEq,rA,rq,raH,false_implies,true_and,and_true,f4,f5]
      exact .inl hav
     ·have hav:ZX v F L=.tup [fml v (assign F L),.bool true]:=by
       have:L.all (fun n=>YN v n&&!decide (neg n∈L))=true:=by
        rw [List.all_eq_true]
        intro n hn
        simpa using hall n hn
       unfold ZX; rw [hr,this]; rfl
      simp only [fml,rows] at hav
      refine Qc 1000 ?_
      simp -implicitDefEqProofs (disch:=omega) only [go_sem,↓reduceIte,rA,rq,rL,raH,true_implies,and_true,f2]
      refine Xk (HShift.shift (HShift.ownAt 1 41 (k:=2) (p:=1) (zL _) rfl rfl)) ?_
      simp -implicitDefEqProofs (disch:=omega) only [go_sem,rA,List.set_cons_succ,List.set_cons_zero,lC,lN,cAq,nAq]
      refine XZ F (ra3J t (t+1) t3 v F L) (ra3E t (t+1) t3 v F L) ⟨t3+1+1,t3+1,?_⟩ (fun i c hci fr σ hJ=>Qr5 hT hF hc hl (fun c h n hn=>by have:=hrt.2 c h n hn; omega) hci hJ) (fun i hi fr σ hJ=>?_) (fun e fr σ hE=>?_)
      ·simp -implicitDefEqProofs (disch:=omega) only [go_sem,↓reduceIte,rq,raR,true_and,f1,f2,f4,f5]
       simp [assign]
      ·obtain ⟨t5,tw,g1,g2,g4,g5,g7,g8,rfl⟩:=hJ
       rw [hi,List.take_length]
       refine Qh [(1,.lst 1 (ints L) false),(2,.ptr 0 t 0),(4,.ptr 1 (t+1) 0),(5,.bool false),(7,.ptr 2 t3 0),(8,.int .i64 ((i:Nat):Int))] ⟨g1,g2,g4,g5,g7,g8,trivial⟩ 1000 ?_
       simp -implicitDefEqProofs (disch:=omega) only [go_sem,↓reduceIte,rA,rq,raR,lM,true_implies,and_true,hi,Nat.lt_irrefl]
       exact ⟨t5,tw,rfl,rfl,rfl,rfl⟩
      ·obtain ⟨t5,tw,rfl,g4,g7,rfl⟩:=hE
       refine Qc 1000 ?_
       simp -implicitDefEqProofs (disch:=omega) only [go_sem,↓reduceIte,reduceCtorEq,rA,rq,raR,false_implies,and_true,g4,g7]
       exact .inr ⟨tw,hav,rfl,rfl⟩
 ·rcases hu with ⟨rfl,hu⟩ | ⟨tw,hr,rfl,ho⟩
  ·exact .inl ⟨rfl,.inl ⟨rfl,hu⟩⟩
  ·refine .inr ⟨3,tw,41,_,zL _,ho,?_,?_,.inr ?_⟩
   ·exact Qeu _
   ·simp [X3,Qix,Qd,Qb]
   ·rw [hr]
    simp [X3,Qix,Qbc,fml,rows]
    rw [List.take_of_length_le (by simp)]
 ·rcases hu with ⟨hn,⟨rfl,hu⟩ | rfl⟩
  ·exact ⟨.tup [fml 0 [],.bool false],.tup _ _ (.cons _ _ _ _ (.agg _ _ (.cons _ _ _ _ (.refl _) (.cons _ _ _ _ (.lst _ _ _ _ _ .nil (.inl rfl)) .nil))) (.cons _ _ _ _ (.refl _) .nil)),rfl,by rw [hu]⟩
  ·exact ⟨_,.refl _,hn,rfl⟩
end
section
attribute [local go_sem] nFq nT aZ lR zA zL bne_self_eq_false decide_false decide_true gt_iff_lt Qt Xs zqh_0 zqh_1 zqh_2 zqh_3 QzE QzD QzC QzB zqh_8 XV zq2_0 zq2_1 zq2_2 zq2_3 zq2_4 zq2_5 zq2_6 zq2_7 zq2_8 XG zq6_0 zq6_1 XK zq8_0 zq8_1 zq8_2 zq8_3 QzY QzX QzW QzV zq8_8
theorem QmP (hT:Qn P tab) (v:Int) (F:List (List Int)):Pure P G ZO [fml v F] fun u=>u=fml v F:=by
 intro t
 simp only [fml,rows]
 refine Xa 0 (zL _) (QM hT QZ (by simp [XG]) (Qx 1000 ?_))
 simp -implicitDefEqProofs (disch:=omega) only [go_sem,↓reduceIte,reduceCtorEq,rA,rq,rL]
def QmG (F:List (List Int)) (k:Nat):Bool:=decide (F.length≤k)&&F.all fun c=>decide (c.length≤30)
def fwH (t:Nat) (v:Int) (F:List (List Int)):List (Option Ob):=[some (.arr t 24 [.int .i64 v,.lst 1 (F.map row) false])]
theorem Qoi (hT:Qn P tab) (v:Int) (F:List (List Int)) (k:Nat) (hk:k≤1000) (hF:F.length≤9223372036854775807) (hc:∀ c∈F,c.length≤9223372036854775807) :
 Pure P G Qay [fml v F,.int .i64 k] fun u=>u=.bool (QmG F k):=by
 intro t
 simp only [fml,rows]
 refine Xa 0 (zL _) (QM hT Xy (by simp [XV]) (Qx 1000 ?_))
 rcases Nat.lt_or_ge k F.length with h | h
 ·have h':(k:Int)<(F.length:Int):=by omega
  have hf:QmG F k=false:=by unfold QmG; rw [decide_eq_false (by omega)]; rfl
  simp -implicitDefEqProofs (disch:=omega) only [go_sem,↓reduceIte,reduceCtorEq,rA,rq,lM,true_implies,and_true,h',hf]
 ·have h':¬ (k:Int)<(F.length:Int):=by omega
  have hf:QmG F k=F.all fun c=>decide (c.length≤30):=by unfold QmG; rw [decide_eq_true (by omega)]; rfl
  simp -implicitDefEqProofs (disch:=omega) only [go_sem,↓reduceIte,reduceCtorEq,rA,rq,lM,true_implies,and_true,h',hf]
  refine XZ F (fun i fr σ=>(∀ c∈F.take i,c.length≤30)∧Qi fr 2=.ptr 0 t 0∧Qi fr 5=.int .i64 ((i:Nat):Int)∧σ=⟨t+1,fwH t v F⟩)
   (fun e fr σ=>(e=.ret∧Qi fr 4=.bool false∧F.all (fun c=>decide (c.length≤30))=false)∨(e=.ex 0∧F.all (fun c=>decide (c.length≤30))=true)) ⟨by simp,?_⟩ (fun i c hci fr σ hJ=>?_) (fun i hi fr σ hJ=>?_) (fun e fr σ hE=>?_)
  ·simp -implicitDefEqProofs (disch:=omega) only [go_sem,↓reduceIte,reduceCtorEq,rq,fwH,true_and,and_true]
   rfl
  ·obtain ⟨hok,f2,f5,rfl⟩:=hJ
   obtain ⟨hlt,hD,e2⟩:=Zz hci hF
   have hcm:=List.mem_of_getElem? hci
   have hts:=Qp hci
   rcases Nat.lt_or_ge 30 c.length with hb | hb
   ·have hb':(30:Int)<(c.length:Int):=by omega
    refine Qh [(2,.ptr 0 t 0),(5,.int .i64 ((i:Nat):Int))] ⟨f2,f5,trivial⟩  1000 ?_
    simp -implicitDefEqProofs (disch:=omega) only [go_sem,↓reduceIte,reduceCtorEq,rA,rq,fwH,lM,Qe,true_implies,true_and,and_true,hlt,hD,hb']
    rw [List.all_eq_false]; exact ⟨c,hcm,by simp; omega⟩
   ·have hb':¬ (30:Int)<(c.length:Int):=by omega
    refine Qh [(2,.ptr 0 t 0),(5,.int .i64 ((i:Nat):Int))] ⟨f2,f5,trivial⟩  1000 ?_
    simp -implicitDefEqProofs (disch:=omega) only [go_sem,↓reduceIte,rA,rq,fwH,lM,Qe,true_implies,and_true,hlt,hD,hb']
    refine ⟨_,_,Shift.refl _ _ _ _,fun x hx=>?_,?_⟩
    ·rw [hts,List.mem_append] at hx
     rcases hx with hx | hx
     ·exact hok x hx
     ·simp at hx; subst hx; exact hb
    ·simp -implicitDefEqProofs (disch:=omega) only [go_sem,↓reduceIte,rq,and_true,e2]
  ·obtain ⟨hok,f2,f5,rfl⟩:=hJ
   rw [hi,List.take_length] at hok
   refine Qh [(2,.ptr 0 t 0),(5,.int .i64 ((i:Nat):Int))] ⟨f2,f5,trivial⟩  1000 ?_
   simp -implicitDefEqProofs (disch:=omega) only [go_sem,↓reduceIte,reduceCtorEq,rA,rq,fwH,lM,true_implies,true_and,and_true,hi,Nat.lt_irrefl]
   rw [List.all_eq_true]; intro c h; exact decide_eq_true (hok c h)
  ·rcases hE with ⟨rfl,f4,hh⟩ | ⟨rfl,hh⟩
   ·refine Qc 1000 ?_
    simp -implicitDefEqProofs (disch:=omega) only [go_sem,and_true,f4,hh]
   ·refine Qc 1000 ?_
    simp -implicitDefEqProofs (disch:=omega) only [go_sem,↓reduceIte,and_true,hh]
abbrev siJ (t:Nat) (a b:List Int):Nat→Fr→H→Prop:=fun m fr σ=>∃ i,i≤a.length∧m=a.length - i∧a.take i=b.take i∧Qi fr 0=.lst 1 (ints a) false∧Qi fr 1=.lst 1 (ints b) false∧Qi fr 5=.int .i64 ((i:Nat):Int)∧σ=⟨t,[]⟩
abbrev siE (t:Nat) (a b:List Int):AE→Fr→H→Prop:=fun e fr σ=>(e=.ret∧Qi fr 4=.bool false∧a≠b)∨(e=.ex 0∧a=b)
variable {σ:H} {fr:Fr} {t m:Nat}
theorem QtQ (hT:Qn P tab) {a b:List Int} (hab:a.length=b.length) (hl:a.length≤9223372036854775807) (hJ:siJ t a b m fr σ) :
 W P G 26 0 (.seq (zg QzE [11,12,13] (zw 14 .skip (.exit 0))) (.seq (.block 1 (zg QzD [17,18,19,20,21,22,23,24] (zw 25 (zg QzC [] .ret) .skip))) (.reg QzB [15,16]))) fr σ (ZB (fun fr σ=>∃ m' fr' σ',m'<m∧Shift G 26 0 fr σ fr' σ'∧siJ t a b m' fr' σ') (siE t a b)):=by
 obtain ⟨i,hi,rfl,heq,f0,f1,f5,rfl⟩:=hJ
 rcases Nat.lt_or_ge i a.length with hlt | hge
 ·obtain ⟨x,hx⟩:∃ x,a[i]?=some x:=⟨_,List.getElem?_eq_getElem hlt⟩
  obtain ⟨y,hy⟩:∃ y,b[i]?=some y:=⟨_,List.getElem?_eq_getElem (by omega)⟩
  have hltb:i<b.length:=by omega
  have hD1:=QaZ hx
  have hD2:=QaZ hy
  have e2:=YR hlt hl
  by_cases hxy:x=y
  ·subst hxy
   have hb:(x==x)=true:=by simp
   refine Qh [(0,.lst 1 (ints a) false),(1,.lst 1 (ints b) false),(5,.int .i64 ((i:Nat):Int))] ⟨f0,f1,f5,trivial⟩  1000 ?_
   simp -implicitDefEqProofs (disch:=omega) only [go_sem,↓reduceIte,reduceCtorEq,rq,Qe,true_implies,and_true,hlt,hltb,hD1,hD2]
   refine ⟨a.length - (i+1),_,_,by omega,Shift.refl _ _ _ _,i+1,by omega,rfl,by rw [Qp hx,Qp hy,heq],?_⟩
   simp -implicitDefEqProofs (disch:=omega) only [go_sem,↓reduceIte,reduceCtorEq,rq,and_true,e2]
  ·have hb:(x=y)=False:=eq_false hxy
   have hne:a≠b:=fun e=>by rw [e,hy] at hx; exact hxy (Option.some.inj hx).symm
   refine Qh [(0,.lst 1 (ints a) false),(1,.lst 1 (ints b) false),(5,.int .i64 ((i:Nat):Int))] ⟨f0,f1,f5,trivial⟩  1000 ?_
   simp -implicitDefEqProofs (disch:=omega) only [go_sem,↓reduceIte,reduceCtorEq,rq,Qe,not_false_eq_true,false_implies,true_implies,and_true,hlt,hltb,hD1,hD2,hb]
   exact .inl ⟨rfl,rfl,hne⟩
 ·have hi:i=a.length:=by omega
  rw [hi,List.take_length,hab,List.take_length] at heq
  refine Qh [(0,.lst 1 (ints a) false),(1,.lst 1 (ints b) false),(5,.int .i64 ((i:Nat):Int))] ⟨f0,f1,f5,trivial⟩  1000 ?_
  simp -implicitDefEqProofs (disch:=omega) only [go_sem,↓reduceIte,reduceCtorEq,rq,Qe,hi,Nat.lt_irrefl]
  exact .inr ⟨rfl,heq⟩
theorem Qcd (hT:Qn P tab) (a b:List Int) (hl:a.length≤9223372036854775807) (hl':b.length≤9223372036854775807) :
 Pure P G Ye [row a,row b] fun u=>u=.bool (decide (a=b)):=by
 intro t
 simp only [row]
 refine Xa 0 (zL _) (QM hT Qu (by simp [Xs]) (Qx 1000 ?_))
 by_cases h:a.length=b.length
 ·have h':((a.length:Int)=(b.length:Int))=True:=eq_true (by omega)
  simp -implicitDefEqProofs (disch:=omega) only [go_sem,↓reduceIte,reduceCtorEq,rq,Qe,not_true_eq_false,false_implies,true_implies,true_and,h']
  refine QX (siJ t a b) (siE t a b) (m0:=a.length) ⟨0,by omega,rfl,by simp,?_⟩ (fun m fr σ hJ=>QtQ hT h hl hJ) (fun e fr σ hE=>?_)
  ·simp -implicitDefEqProofs (disch:=omega) only [go_sem,↓reduceIte,reduceCtorEq,rq,true_and,and_true]
   rfl
  ·rcases hE with ⟨rfl,f4,hh⟩ | ⟨rfl,hh⟩
   ·refine Qc 1000 ?_
    simp -implicitDefEqProofs (disch:=omega) only [go_sem,and_true,f4,hh]
   ·refine Qc 1000 ?_
    simp -implicitDefEqProofs (disch:=omega) only [go_sem,↓reduceIte,and_true,hh]
 ·have h':((a.length:Int)=(b.length:Int))=False:=eq_false (by omega)
  have hne:a≠b:=fun e=>h (by rw [e])
  simp -implicitDefEqProofs (disch:=omega) only [go_sem,↓reduceIte,reduceCtorEq,rq,Qe,not_false_eq_true,false_implies,true_implies,and_true,h',hne]
def smH (t:Nat) (v w:Int) (a b:List (List Int)):List (Option Ob):=[some (.arr t 24 [.int .i64 v,.lst 1 (a.map row) false]),some (.arr (t+1) 33 [.int .i64 w,.lst 1 (b.map row) false])]
abbrev smJ (t:Nat) (v w:Int) (a b:List (List Int)):Nat→Fr→H→Prop:=fun m fr σ=>∃ i,i≤a.length∧m=a.length - i∧a.take i=b.take i∧Qi fr 2=.ptr 0 t 0∧Qi fr 3=.ptr 1 (t+1) 0∧Qi fr 5=.int .i64 ((i:Nat):Int)∧∃ t2,σ=⟨t2,smH t v w a b⟩
abbrev smE (t:Nat) (v w:Int) (a b:List (List Int)):AE→Fr→H→Prop:=fun e fr σ=>(e=.ret∧Qi fr 4=.bool false∧a≠b)∨(e=.ex 0∧a=b)
theorem QtO (hT:Qn P tab) {v w:Int} {a b:List (List Int)} (hab:a.length=b.length) (hl:a.length≤1000000) (ha:∀ c∈a,c.length≤1000000) (hb:∀ c∈b,c.length≤1000000) (hJ:smJ t v w a b m fr σ) :
 W P G 39 0 (.seq (zg QzY [20,21,22,23] (zw 24 .skip (.exit 0))) (.seq (.block 1 (zg QzX [27,28,29,30,31,32,33,34,35,36,37] (zw 38 (zg QzW [] .ret) .skip))) (.reg QzV [25,26]))) fr σ (ZB (fun fr σ=>∃ m' fr' σ',m'<m∧Shift G 39 0 fr σ fr' σ'∧smJ t v w a b m' fr' σ') (smE t v w a b)):=by
 obtain ⟨i,hi,rfl,heq,f2,f3,f5,t2,rfl⟩:=hJ
 rcases Nat.lt_or_ge i a.length with hlt | hge
 ·obtain ⟨x,hx⟩:∃ x,a[i]?=some x:=⟨_,List.getElem?_eq_getElem hlt⟩
  obtain ⟨y,hy⟩:∃ y,b[i]?=some y:=⟨_,List.getElem?_eq_getElem (by omega)⟩
  have hltb:i<b.length:=by omega
  have hD1:=QbT hx
  have hD2:=QbT hy
  have e2:=YR hlt (by omega)
  have hS:=Qcd (G:=G) hT x y (by have:=ha x (List.mem_of_getElem? hx); omega) (by have:=hb y (List.mem_of_getElem? hy); omega)
  simp only [row] at hS
  by_cases hxy:x=y
  ·subst hxy
   refine Qh [(2,.ptr 0 t 0),(3,.ptr 1 (t+1) 0),(5,.int .i64 ((i:Nat):Int))] ⟨f2,f3,f5,trivial⟩  1000 ?_
   simp -implicitDefEqProofs (disch:=omega) only [go_sem,↓reduceIte,rA,rq,smH,lM,true_implies,and_true,hlt,hltb,hD1,hD2]
   refine Qj hT Qu hS (by simp [Qb,Qd]) 1000 ?_
   simp -implicitDefEqProofs (disch:=omega) only [go_sem,↓reduceIte,rq]
   refine ⟨a.length - (i+1),_,_,by omega,Shift.refl _ _ _ _,i+1,by omega,rfl,by rw [Qp hx,Qp hy,heq],?_⟩
   simp -implicitDefEqProofs (disch:=omega) only [go_sem,↓reduceIte,rq,smH,true_and,and_true,e2]
   exact ⟨_,rfl⟩
  ·have hne:a≠b:=fun e=>by rw [e,hy] at hx; exact hxy (Option.some.inj hx).symm
   refine Qh [(2,.ptr 0 t 0),(3,.ptr 1 (t+1) 0),(5,.int .i64 ((i:Nat):Int))] ⟨f2,f3,f5,trivial⟩  1000 ?_
   simp -implicitDefEqProofs (disch:=omega) only [go_sem,↓reduceIte,rA,rq,smH,lM,true_implies,and_true,hlt,hltb,hD1,hD2]
   refine Qj hT Qu hS (by simp [Qb,Qd]) 1000 ?_
   simp -implicitDefEqProofs (disch:=omega) only [go_sem,↓reduceIte,rq,hxy]
   exact .inl ⟨rfl,rfl,hne⟩
 ·have hi:i=a.length:=by omega
  rw [hi,List.take_length,hab,List.take_length] at heq
  refine Qh [(2,.ptr 0 t 0),(3,.ptr 1 (t+1) 0),(5,.int .i64 ((i:Nat):Int))] ⟨f2,f3,f5,trivial⟩  1000 ?_
  simp -implicitDefEqProofs (disch:=omega) only [go_sem,↓reduceIte,rA,rq,smH,lM,true_implies,and_true,hi,Nat.lt_irrefl]
  exact .inr ⟨rfl,heq⟩
theorem Qkm (hT:Qn P tab) (v w:Int) (a b:List (List Int)) (hl:a.length≤1000000) (hl':b.length≤1000000) (ha:∀ c∈a,c.length≤1000000) (hb:∀ c∈b,c.length≤1000000) :
 Pure P G YG [fml v a,fml w b] fun u=>u=.bool (decide (v=w∧a=b)):=by
 intro t
 simp only [fml,rows]
 refine Xa 0 (zL _) (QM hT Xm (by simp [XK]) (Qx 1000 ?_))
 by_cases hv:v=w
 ·subst hv
  by_cases h:a.length=b.length
  ·have h':((a.length:Int)=(b.length:Int))=True:=eq_true (by omega)
   simp -implicitDefEqProofs (disch:=omega) only [go_sem,↓reduceIte,reduceCtorEq,rA,rq,rL,lM,not_true_eq_false,false_implies,true_implies,true_and,and_true,h']
   refine QX (smJ t v v a b) (smE t v v a b) (m0:=a.length) ⟨0,by omega,rfl,by simp,?_⟩ (fun m fr σ hJ=>QtO hT h hl ha hb hJ) (fun e fr σ hE=>?_)
   ·simp -implicitDefEqProofs (disch:=omega) only [go_sem,↓reduceIte,reduceCtorEq,rq,smH,true_and,and_true]
    exact ⟨rfl,_,rfl⟩
   ·rcases hE with ⟨rfl,f4,hh⟩ | ⟨rfl,hh⟩
    ·refine Qc 1000 ?_
     simp -implicitDefEqProofs (disch:=omega) only [go_sem,and_true,f4,hh]
    ·refine Qc 1000 ?_
     simp -implicitDefEqProofs (disch:=omega) only [go_sem,↓reduceIte,and_true,hh]
  ·have h':((a.length:Int)=(b.length:Int))=False:=eq_false (by omega)
   have hne:a≠b:=fun e=>h (by rw [e])
   simp -implicitDefEqProofs (disch:=omega) only [go_sem,↓reduceIte,reduceCtorEq,rA,rq,rL,lM,not_false_eq_true,false_implies,true_implies,true_and,and_true,h',hne]
   try simp [hne]
 ·simp -implicitDefEqProofs (disch:=omega) only [go_sem,↓reduceIte,reduceCtorEq,rA,rq,rL,lM,not_false_eq_true,false_implies,true_implies,true_and,and_true,hv]
  try simp [hv]
end
end Go.Proofs.YtingdebioipemaaGreatDoor
