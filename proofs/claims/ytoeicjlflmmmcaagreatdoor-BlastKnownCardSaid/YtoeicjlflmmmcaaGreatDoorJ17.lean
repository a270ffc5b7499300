/- Clauses: clean ones; what follows from a formula; rows that are a proof. -/
import Derived.Test.YtoeicjlflmmmcaaGreatDoorJ16
import Derived.Test.YtoeicjlflmmmcaaGreatDoorTabB
import Derived.Test.YtoeicjlflmmmcaaGreatDoorAmD
import Derived.KernelRfl
open Nat renaming reduceEqDiff → rq, reduceAdd → rA, reduceLeDiff → rL, reduceLT → rT, zero_add → zA, le_refl → lR, zero_le → zL, add_zero → aZ
open List renaming length_cons → lC, length_nil → lN, take_succ_cons → tSq, length_append → lA, nil_append → nA, cons_append → cA, append_assoc → aA, take_nil → tN, take_zero → tZ, length_map → lM
open Bool renaming not_false → nFq, not_true → nT
namespace Go.Cl
open Go Go.Am
set_option maxRecDepth 100000
def mn:Int:=-9223372036854775808
theorem neg_ne {n:Int} (h:n≠mn):neg n=-n:=if_neg h
def bad (c:List Int):Bool:=c.any fun n=>decide (n=0) || decide (neg n∈c)
def dd:List Int→List Int
 | []=>[]
 | a::l=>if a∈l then dd l else a::dd l
def mabs (n:Int):Int:=if n<neg n then neg n else n
def ks (a b:Int):Prop:=mabs a<mabs b∨mabs a=mabs b∧a≤b
def Qac (v n:Int):Bool:=decide (n≠0∧-v≤n∧n≤v)
def right (v:Int) (F:List (List Int)):Bool:=decide (0≤v∧v≤16777216∧(F.length:Int)≤1048576)&&F.all fun c=>c.all (Qac v)
variable {F:List (List Int)}
theorem QeQ {v:Int}:right v F=true↔(0≤v∧v≤16777216∧(F.length:Int)≤1048576)∧∀ c∈F,∀ n∈c,n≠0∧-v≤n∧n≤v:=by
 simp [right,Qac]
theorem Qzz {v:Int} (h:right v F=true):Nz F:=fun c hc n hn=>((QeQ.1 h).2 c hc n hn).1
def follows (v:Int) (F:List (List Int)) (c:List Int):Bool :=
 right v F&&(c.all (Qac v)&&(bad c || (units (F++QKy (c.map fun n=>-n))).isNone))
end Go.Cl
namespace Go.Proofs.YtoeicjlflmmmcaaGreatDoor
open Go Go.Am Go.Cl
set_option maxRecDepth 100000
variable {P:Program} {G:Nat→Option V}
section
attribute [local go_sem] aZ lR zA zL and_true beq_self_eq_true ZT QIY QIX QuS QuR QuQ QuP QIW QIV QIU QIT QIS QIR QIQ QIP decide_false decide_true gt_iff_lt Q3 true_and true_implies
def ints (c:List Int):List V:=c.map (V.int .i64)
def QkI (c:List Int):V:=.lst 1 (ints c) false
def rows (F:List (List Int)):V:=.lst 1 (F.map QkI) false
def QyU (v:Int) (F:List (List Int)):V:=.agg [.int .i64 v,rows F]
theorem QN (c:List Int):(ints c).length=c.length:=by simp [ints]
variable {n:Int} {i:Nat} {c:List Int}
theorem QAm (h:c[i]?=some n):(ints c)[i]?=some (.int .i64 n):=by simp [ints,h]
theorem Qfa (h:c[i]?=some n):(ints c).getD i V.any=.int .i64 n:=by simp [ints,List.getD_eq_getElem?_getD,h]
theorem Qk0 {F:List (List Int)} (h:F[i]?=some c):(F.map QkI).getD i V.any=.lst 1 (ints c) false:=by simp [List.getD_eq_getElem?_getD,h,QkI]
theorem QgG:∀ c:List Int,Qc (ints c)=true
 | []=>rfl
 | n::c=>by have:=QgG c; simpa [ints,Qc,Qf] using this
theorem wneg {v:Int} (h:0≤v∧v≤16777216):IntKind.i64.wrap (0 - v)=-v:=by
 rw [QgN] <;> (try omega)
 all_goals (first | (simp [IntKind.min,IntKind.signed,IntKind.bits]; omega) | (simp [IntKind.max,IntKind.signed,IntKind.bits]; omega))
-- simp [IntKind.min, IntKind.signed, IntKind.bits]; omega) (by simp [IntKind.max, IntKind.signed, IntKind.bits]; omega)
theorem QkE {n:Nat} (h:i<n) (hn:n≤9223372036854775807):IntKind.i64.wrap ((i:Int)+1)=((i+1:Nat):Int):=by
 rw [QgN]
 ·omega
 ·simp [IntKind.min,IntKind.signed,IntKind.bits]; omega
 ·simp [IntKind.max,IntKind.signed,IntKind.bits]; omega
def fmH (t:Nat) (v:Int) (F:List (List Int)):List (Option Ob):=[some (.arr t 53 [.int .i64 v,.lst 1 (F.map QkI) false])]
theorem Qyo (hT:Qe P tab) (v:Int) (F:List (List Int)) (hF:F.length≤9223372036854775807) (hc:∀ c∈F,c.length≤9223372036854775807):Pure P G QcO [QyU v F] fun u=>u=.bool (right v F):=by
 intro t
 refine Qj 0 (zL _) (Qo hT Qaj (by simp [ZT]) (Qm 12 ?_))
 by_cases h1:v<0
 ·have hr:right v F=false:=by simp [right]; omega
  simp -implicitDefEqProofs (disch:=omega) only [go_sem,↓reduceIte,reduceCtorEq,rA,rq,rL,QyU,rows,h1]
  iterate 9 (try (refine Qg 2 ?_; simp -implicitDefEqProofs (disch:=omega) only [go_sem,↓reduceIte,reduceCtorEq,rq]))
  try refine Qg 9 ?_
  try simp -implicitDefEqProofs (disch:=omega) only [go_sem,↓reduceIte,reduceCtorEq,rq]
  rw [hr]
 by_cases h2:v > 16777216
 ·have hr:right v F=false:=by simp [right]; omega
  simp -implicitDefEqProofs (disch:=omega) only [go_sem,↓reduceIte,reduceCtorEq,rA,rq,rL,QyU,rows,h1]
  iterate 9 (try (refine Qg 2 ?_; simp -implicitDefEqProofs (disch:=omega) only [go_sem,↓reduceIte,reduceCtorEq,rA,rq,rL,h2]))
  try refine Qg 9 ?_
  try simp -implicitDefEqProofs (disch:=omega) only [go_sem,↓reduceIte,reduceCtorEq,rq]
  rw [hr]
 by_cases h3:(F.length:Int) > 1048576
 ·have hr:right v F=false:=by simp [right]; omega
  simp -implicitDefEqProofs (disch:=omega) only [go_sem,↓reduceIte,reduceCtorEq,rA,rq,rL,QyU,rows,h1]
  iterate 9 (try (refine Qg 2 ?_; simp -implicitDefEqProofs (disch:=omega) only [go_sem,↓reduceIte,reduceCtorEq,rA,rq,rL,h2,h3,lM]))
  try refine Qg 9 ?_
  try simp -implicitDefEqProofs (disch:=omega) only [go_sem,↓reduceIte,reduceCtorEq,rq]
  rw [hr]
 simp -implicitDefEqProofs (disch:=omega) only [go_sem,↓reduceIte,reduceCtorEq,rA,rq,rL,QyU,rows,h1]
 iterate 9 (try (refine Qg 2 ?_; simp -implicitDefEqProofs (disch:=omega) only [go_sem,↓reduceIte,reduceCtorEq,rA,rq,rL,h2,h3,lM]))
 refine Qg 40 ?_
 simp -implicitDefEqProofs (disch:=omega) only [go_sem,↓reduceIte,reduceCtorEq,rq,lM]
 have hv:0≤v∧v≤16777216:=by omega
 have hneg:=wneg hv
 refine Zv (fun m fr σ=>∃ i,i≤F.length∧m=F.length - i∧(∀ c∈F.take i,c.all (Qac v)=true)∧Qd fr 1=.ptr 0 t 0∧Qd fr 22=.lst 1 (F.map QkI) false∧Qd fr 23=.int .i64 F.length∧Qd fr 24=.int .i64 i∧σ=⟨t+1,fmH t v F⟩)
  (fun e fr σ=>(e=.ret∧Qd fr 2=.bool false∧right v F=false)∨(e=.ex 0∧right v F=true))
  (m0:=F.length) ⟨0,by omega,rfl,by simp,?_⟩ (fun m fr σ hJ=>?_) (fun e fr σ hE=>?_)
 ·simp -implicitDefEqProofs (disch:=omega) only [go_sem,↓reduceIte,reduceCtorEq,rq,fmH]
  simp
 ·obtain ⟨i,hi,rfl,hok,f1,f22,f23,f24,rfl⟩:=hJ
  refine Qm 1000 ?_
  rcases Nat.lt_or_ge i F.length with hlt | hge
  ·obtain ⟨c,hci⟩:∃ c,F[i]?=some c:=⟨_,List.getElem?_eq_getElem hlt⟩
   have hD:=Qk0 hci
   have hcm:=List.mem_of_getElem? hci
   have e2:=QkE hlt hF
   have hcl:=hc c hcm
   simp -implicitDefEqProofs (disch:=omega) only [go_sem,↓reduceIte,rq,fmH,lM,QN,f22,f23,f24,hlt,hD]
   refine Zv (fun m fr σ=>∃ k,k≤c.length∧m=c.length - k∧(∀ n∈c.take k,Qac v n=true)∧Qd fr 1=.ptr 0 t 0∧Qd fr 22=.lst 1 (F.map QkI) false∧Qd fr 23=.int .i64 F.length∧Qd fr 24=.int .i64 i∧Qd fr 28=.lst 1 (ints c) false∧Qd fr 29=.int .i64 c.length∧Qd fr 30=.int .i64 k∧σ=⟨t+1,fmH t v F⟩)
    (fun e fr σ=>(e=.ret∧Qd fr 2=.bool false∧right v F=false)∨(e=.ex 2∧c.all (Qac v)=true∧Qd fr 1=.ptr 0 t 0∧Qd fr 22=.lst 1 (F.map QkI) false∧Qd fr 23=.int .i64 F.length∧Qd fr 24=.int .i64 i∧σ=⟨t+1,fmH t v F⟩))
    (m0:=c.length) ⟨0,by omega,rfl,by simp,?_⟩ (fun m fr σ hJ=>?_) (fun e fr σ hE=>?_)
   ·simp -implicitDefEqProofs (disch:=omega) only [go_sem,↓reduceIte,rq,fmH,f1,f22,f23,f24]
    simp
   ·obtain ⟨k,hk,rfl,hok2,f1,f22,f23,f24,f28,f29,f30,rfl⟩:=hJ
    refine Qm 14 ?_
    rcases Nat.lt_or_ge k c.length with hlt2 | hge
    ·obtain ⟨n,hnk⟩:∃ n,c[k]?=some n:=⟨_,List.getElem?_eq_getElem hlt2⟩
     have hD2:=Qfa hnk
     have hnm:=List.mem_of_getElem? hnk
     have e3:=QkE hlt2 hcl
     cases hl:Qac v n with
     | false =>
       have hr:right v F=false:=by
        have:F.all (fun c=>c.all (Qac v))=false:=by
         rw [List.all_eq_false]
         exact ⟨c,hcm,by rw [Bool.not_eq_true,List.all_eq_false]; exact ⟨n,hnm,by simp [hl]⟩⟩
        simp [right,this]
       simp only [Qac,decide_eq_false_iff_not] at hl
       by_cases g1:n=0
       ·simp -implicitDefEqProofs (disch:=omega) only [go_sem,↓reduceIte,rq,fmH,QN,f28,f29,f30,hlt2,hD2,g1]
        iterate 16 (try (refine Qg 2 ?_; simp -implicitDefEqProofs (disch:=omega) only [go_sem,↓reduceIte,reduceCtorEq,rq,f1,f22,f23,f24]))
        exact hr
       have g1':(n==0)=false:=by simpa using g1
       by_cases g2:n > v
       ·simp -implicitDefEqProofs (disch:=omega) only [go_sem,↓reduceIte,rq,fmH,QN,f28,f29,f30,hlt2,hD2]
        iterate 16 (try (refine Qg 2 ?_; simp -implicitDefEqProofs (disch:=omega) only [go_sem,↓reduceIte,reduceCtorEq,rA,rq,rL,f1,f22,f23,f24,g1',g2]))
        exact hr
       have g3:n < -v:=by omega
       simp -implicitDefEqProofs (disch:=omega) only [go_sem,↓reduceIte,rq,fmH,QN,f28,f29,f30,hlt2,hD2]
       iterate 16 (try (refine Qg 2 ?_; simp -implicitDefEqProofs (disch:=omega) only [go_sem,↓reduceIte,reduceCtorEq,rA,rq,rL,hneg,f1,f22,f23,f24,g1',g2,g3]))
       exact hr
     | true =>
       have hl':=hl
       simp only [Qac,decide_eq_true_eq] at hl
       have g1':(n==0)=false:=by simpa using hl.1
       have g2:¬ n > v:=by omega
       have g3:¬ n < -v:=by omega
       simp -implicitDefEqProofs (disch:=omega) only [go_sem,↓reduceIte,rq,fmH,QN,f28,f29,f30,hlt2,hD2]
       iterate 16 (try (refine Qg 2 ?_; simp -implicitDefEqProofs (disch:=omega) only [go_sem,↓reduceIte,rA,rq,rL,hneg,f1,f30,g1',g2,g3]))
       refine ⟨c.length - (k+1),_,_,by omega,Shift.refl _ _ _ _,k+1,by omega,rfl,fun n hn=>?_,?_⟩
       ·rw [List.take_add_one,hnk] at hn
        simp at hn
        rcases hn with hn | rfl
        ·exact hok2 n hn
        ·exact hl'
       ·simp -implicitDefEqProofs (disch:=omega) only [go_sem,↓reduceIte,rq,f1,f22,f23,f24,f28,f29,e3]
        try simp
    ·have hk:k=c.length:=by omega
     subst hk
     simp -implicitDefEqProofs (disch:=omega) only [go_sem,↓reduceIte,reduceCtorEq,rq,fmH,f1,f22,f23,f24,f29,f30,Nat.lt_irrefl]
     rw [List.take_length] at hok2
     simpa using hok2
   ·rcases hE with ⟨rfl,f2,hr⟩ | ⟨rfl,hcc,f1,f22,f23,f24,rfl⟩
    ·refine Qg 1000 ?_
     simp -implicitDefEqProofs (disch:=omega) only [go_sem,f2,hr]
    ·refine Qg 1000 ?_
     simp -implicitDefEqProofs (disch:=omega) only [go_sem,↓reduceIte,fmH,f24]
     refine ⟨F.length - (i+1),_,_,by omega,Shift.refl _ _ _ _,i+1,by omega,rfl,fun d hd=>?_,?_⟩
     ·rw [List.take_add_one,hci] at hd
      simp only [Option.toList_some,List.mem_append,List.mem_singleton] at hd
      rcases hd with hd | rfl
      ·exact hok d hd
      ·exact hcc
     ·simp -implicitDefEqProofs (disch:=omega) only [go_sem,↓reduceIte,rq,f1,f22,f23,e2]
      try simp
  ·have hi:i=F.length:=by omega
   subst hi
   simp -implicitDefEqProofs (disch:=omega) only [go_sem,↓reduceIte,reduceCtorEq,rq,fmH,f23,f24,Nat.lt_irrefl]
   rw [List.take_length] at hok
   have:F.all (fun c=>c.all (Qac v))=true:=List.all_eq_true.2 hok
   simp [right,this]
   omega
 ·rcases hE with ⟨rfl,f2,hr⟩ | ⟨rfl,hr⟩
  ·refine Qg 1000 ?_
   simp -implicitDefEqProofs (disch:=omega) only [go_sem,f2,hr]
  ·refine Qg 1000 ?_
   simp -implicitDefEqProofs (disch:=omega) only [go_sem,↓reduceIte,hr]
end
section
attribute [local go_sem] lR Nat.succ_ne_zero zA YB Qwn Qwm decide_false decide_true ge_iff_le Q3 Qr Qsu Qst Qw Qss Qsr Qsq Qsp Qso Qsn Qsm Qsl
def Qke (P:Program) (G:Nat→Option V) (base:Nat) (f:V) (o:List (Option Ob)) (p:Int→Bool) (c:List Int):Prop :=
 ∀ t n,n∈c→CV P G base f [.int .i64 n] ⟨t,o⟩ fun v σ=>v=.bool (p n)∧∃ t',t≤t'∧σ=⟨t',o⟩
def Qce (p:Int→Bool):List Int→Nat→Int
 | [],_=>-1
 | n::c,i=>if p n then i else Qce p c (i+1)
theorem QfS {p:Int→Bool}:∀ {c:List Int} {i:Nat},(∀ n∈c,p n=false)→Qce p c i=-1
 | [],_,_=>rfl
 | n::c,i,h=>by rw [Qce,h n (by simp),if_neg (by simp),QfS fun m hm=>h m (by simp [hm])]
theorem Qia {p:Int→Bool}:∀ {c:List Int} {i k:Nat} {n:Int},(∀ m∈c.take k,p m=false)→c[k]?=some n→p n=true→Qce p c i=((i+k:Nat):Int)
 | [],_,_,_,_,h,_=>by simp at h
 | m::c,i,0,n,_,h,hp=>by simp at h; subst h; simp [Qce,hp]
 | m::c,i,k+1,n,h,hk,hp=>by
   rw [Qce,h m (by simp),if_neg (by simp),Qia (k:=k) (fun m hm=>h m (by simp [hm])) (by simpa using hk) hp]
   congr 1; omega
theorem QiV {p:Int→Bool}:∀ {c:List Int} {i:Nat},decide (0≤Qce p c i)=c.any p
 | [],_=>by simp [Qce]
 | n::c,i=>by
   unfold Qce
   cases h:p n
   ·simp [h,QiV (c:=c)]
   ·simp [h]
theorem ZF {α:Type} {l:List α} {k:Nat} {x:α} (h:l[k]?=some x):l.take (k+1)=l.take k++[x]:=by rw [List.take_add_one,h]; rfl
variable {c:List Int} {p:Int→Bool} {f:V} {base t:Nat}
theorem QrV (hT:Qe P tab) {o:List (Option Ob)} (hp:Qke P G base f o p c) (hl:c.length≤9223372036854775807) :
 C P G base Xx [.lst 1 (ints c) false,f] ⟨t,o⟩ fun v σ=>v=.int .i64 (Qce p c 0)∧∃ t',t≤t'∧σ=⟨t',o⟩:=by
 refine Qo hT QE (by simp [Qw]) (Qm 1000 ?_)
 simp -implicitDefEqProofs (disch:=omega) only [go_sem,↓reduceIte,reduceCtorEq,rq,QN]
 refine Zv (fun m fr σ=>∃ i t',i≤c.length∧m=c.length - i∧(∀ n∈c.take i,p n=false)∧t≤t'∧Qd fr 0=.lst 1 (ints c) false∧Qd fr 1=f∧Qd fr 7=.int .i64 c.length∧Qd fr 8=.int .i64 i∧σ=⟨t',o⟩)
  (fun e fr σ=>∃ t',t≤t'∧σ=⟨t',o⟩∧((e=.ret∧Qd fr 4=.int .i64 (Qce p c 0))∨(e=.ex 0∧Qce p c 0=-1)))
  (m0:=c.length) ⟨0,t,by omega,rfl,by simp,by omega,?_⟩ (fun m fr σ hJ=>?_) (fun e fr σ hE=>?_)
 ·simp -implicitDefEqProofs (disch:=omega) only [go_sem,↓reduceIte,reduceCtorEq,rq]
  simp
 ·obtain ⟨i,t',hi,rfl,hno,ht,f0,f1,f7,f8,rfl⟩:=hJ
  refine Qm 1000 ?_
  rcases Nat.lt_or_ge i c.length with hlt | hge
  ·obtain ⟨n,hni⟩:∃ n,c[i]?=some n:=⟨_,List.getElem?_eq_getElem hlt⟩
   have hD:=Qfa hni
   have e2:=QkE hlt hl
   simp -implicitDefEqProofs (disch:=omega) only [go_sem,↓reduceIte,reduceCtorEq,rq,QN,f0,f1,f7,f8,hlt,hD]
   refine CV.use 1000 (hp t' n (List.mem_of_getElem? hni)) fun v σ hv=>?_
   obtain ⟨rfl,t2,ht2,rfl⟩:=hv
   cases hpn:p n with
   | true =>
     simp -implicitDefEqProofs (disch:=omega) only [go_sem,↓reduceIte,reduceCtorEq,rq]
     rw [Qia hno hni hpn]
     exact ⟨t2,by omega,rfl,by simp⟩
   | false =>
     simp -implicitDefEqProofs (disch:=omega) only [go_sem,↓reduceIte,rq,f8]
     refine ⟨c.length - (i+1),_,_,by omega,Shift.refl _ _ _ _,i+1,t2,by omega,rfl,fun m hm=>?_,by omega,?_⟩
     ·rw [ZF hni] at hm
      simp at hm
      rcases hm with hm | rfl
      ·exact hno m hm
      ·exact hpn
     ·simp -implicitDefEqProofs (disch:=omega) only [go_sem,↓reduceIte,reduceCtorEq,rq,f0,f1,f7,e2]
  ·have hi:i=c.length:=by omega
   subst hi
   simp -implicitDefEqProofs (disch:=omega) only [go_sem,↓reduceIte,reduceCtorEq,rq,f7,f8,Nat.lt_irrefl]
   rw [List.take_length] at hno
   exact ⟨t',ht,rfl,QfS hno⟩
 ·obtain ⟨t',ht,rfl,hE⟩:=hE
  rcases hE with ⟨rfl,f4⟩ | ⟨rfl,hh⟩
  ·refine Qg 1000 ?_
   simp -implicitDefEqProofs (disch:=omega) only [go_sem,f4]
   exact ⟨t',ht,rfl⟩
  ·refine Qg 1000 ?_
   simp -implicitDefEqProofs (disch:=omega) only [go_sem,↓reduceIte,hh]
   exact ⟨t',ht,rfl⟩
theorem Ql5 (hT:Qe P tab) {o:List (Option Ob)} (hp:Qke P G base f o p c) (hl:c.length≤9223372036854775807) :
 C P G base Q9 [.lst 1 (ints c) false,f] ⟨t,o⟩ fun v σ=>v=.bool (c.any p)∧∃ t',t≤t'∧σ=⟨t',o⟩:=by
 refine Qo hT QH (by simp [Qr]) (Qm 1000 ?_)
 simp -implicitDefEqProofs (disch:=omega) only [go_sem,↓reduceIte,reduceCtorEq,rq]
 refine call hT QE (QrV hT hp hl) 1000 fun v σ hv=>?_
 obtain ⟨rfl,t',ht,rfl⟩:=hv
 simp -implicitDefEqProofs (disch:=omega) only [go_sem,↓reduceIte,reduceCtorEq,rq]
 rw [QiV]
 exact ⟨rfl,t',ht,rfl⟩
theorem u_some (hT:Qe P tab) {o:List (Option Ob)} (hp:Qke P G base f o p c) (hl:c.length≤9223372036854775807) :
 C P G base Qa8 [.lst 1 (ints c) false,f] ⟨t,o⟩ fun v σ=>v=.bool (c.any p)∧∃ t',t≤t'∧σ=⟨t',o⟩:=by
 refine Qo hT Yq (by simp [YB]) (Qm 1000 ?_)
 simp -implicitDefEqProofs (disch:=omega) only [go_sem,↓reduceIte,reduceCtorEq,rq]
 refine call hT QH (Ql5 hT hp hl) 1000 fun v σ hv=>?_
 obtain ⟨rfl,t',ht,rfl⟩:=hv
 simp -implicitDefEqProofs (disch:=omega) only [go_sem,↓reduceIte,reduceCtorEq,rq]
 exact ⟨t',ht,rfl⟩
end
section
attribute [local go_sem] nFq lR zA ZS QEP QEO ZR QED QEC Yt Qvw Qvv XY QCB QCA gt_iff_lt Q3 QT Qy2 Qy1 Qy0 QyZ
variable {k base tb T kb km vm:Nat}
theorem Qrs {o ex:List (Option Ob)} {x:Option Ob} (h:o[k]?=some x):(o++ex)[k]?=some x:=by
 have:=(List.getElem?_eq_some_iff.1 h).1
 rw [List.getElem?_append_left this]; exact h
variable {c S:List Int}
theorem u_not (hT:Qe P tab) {o:List (Option Ob)} {f:V} {p:Int→Bool} (ho:o[k]?=some (some (.arr tb T [f]))) (hp:Qke P G base f o p c) :
 Qke P G base (.fn (.func Qaz) [] [.ptr k tb 0]) o (fun n=>!p n) c:=fun t n hn=>by
 refine CV.of hT Qaw (Qo hT Qaw (by simp [XY]) (Qm 1000 ?_))
 simp -implicitDefEqProofs (disch:=omega) only [go_sem,↓reduceIte,reduceCtorEq,rq,ho]
 refine CV.use 1000 (hp t n hn) fun v σ hv=>?_
 obtain ⟨rfl,t',ht,rfl⟩:=hv
 simp -implicitDefEqProofs (disch:=omega) only [go_sem,↓reduceIte,reduceCtorEq,rq]
 exact ⟨t',ht,rfl⟩
theorem QwL (hT:Qe P tab) {t:Nat} {o:List (Option Ob)} (c:List Int) (hl:c.length≤1000000) :
 C P G base XX [.lst 1 (ints c) false] ⟨t,o⟩ fun v σ=>∃ t' w,t≤t'∧v=.sl o.length w 0 1 c.length none∧σ=⟨t',o++[some (.arr w 3 (ints c))]⟩:=by
 refine C_own 1 3 (Q:=fun v σ=>(v=.sl o.length t 0 1 c.length none∧σ=⟨t+1,o++[some (.arr t 3 (ints c))]⟩)∨(c=[]∧v=.lst 0 [] true∧σ=⟨t,o⟩)) ?_ fun v σ hv=>?_
 ·refine Qo hT QP (by simp [QT]) (Qm 1000 ?_)
  have hfl:((ints c).map V.cells).flatten=ints c:=by
   clear hl
   induction c with
   | nil=>rfl
   | cons n c ih=>simp only [ints,List.map_cons,List.flatten_cons] at ih ⊢; rw [ih]; rfl
  simp -implicitDefEqProofs (disch:=omega) only [go_sem,↓reduceIte,reduceCtorEq,rq,hfl,QN]
  cases c with
  | nil=>exact rfl
  | cons n c=>exact trivial
 ·rcases hv with ⟨rfl,rfl⟩ | ⟨rfl,rfl,rfl⟩
  ·exact .inl ⟨_,_,by omega,rfl,rfl⟩
  ·exact .inr ⟨0,rfl,_,_,Nat.le_succ _,rfl,rfl⟩
def kn (S:List Int):List (V × V):=im .i64 (fun _=>.int .i64 1) S
theorem QIh (S:List Int) (n:Int):(Qku [Kd.i] (V.int .i64 n) (im .i64 (fun _=>V.int .i64 1) S)).getD (V.int .i64 0)=.int .i64 (if n∈S then 1 else 0):=by
 rw [Qrk]; split <;> rfl
theorem QIf (b:Prop) [Decidable b]:decide ((0:Int)<if b then 1 else 0)=decide b:=by split <;> simp [*]
theorem wneg64 {n:Int} (h:-9223372036854775808≤n∧n≤9223372036854775807):IntKind.i64.wrap (0 - n)=neg n:=by
 unfold neg
 split
 ·rename_i e; subst e; decide
 ·rw [QgN] <;> (try omega)
  all_goals (first | (simp [IntKind.min,IntKind.signed,IntKind.bits]; omega) | (simp [IntKind.max,IntKind.signed,IntKind.bits]; omega))
theorem QiS (hT:Qe P tab) {o:List (Option Ob)} (h1:o[kb]?=some (some (.arr tb T [.mp km vm]))) (h2:o[km]?=some (some (.map vm (kn S)))) :
 Qke P G base (.fn (.func Qda) [] [.ptr kb tb 0]) o (fun n=>decide (n∈S)) c:=fun t n hn=>by
 refine CV.of hT Qc4 (Qo hT Qc4 (by simp [ZS]) (Qm 1000 ?_))
 have h3:=Qh5 .i64 (fun _=>.int .i64 1) S n
 have h4:=QIh S n
 simp -implicitDefEqProofs (disch:=omega) only [go_sem,↓reduceIte,reduceCtorEq,rq,h1,h2,kn,h4,QIf]
 exact ⟨t,lR _,rfl⟩
theorem QiR (hT:Qe P tab) {o:List (Option Ob)} (hc:∀ n∈c,-9223372036854775808≤n∧n≤9223372036854775807) (h1:o[kb]?=some (some (.arr tb T [.mp km vm]))) (h2:o[km]?=some (some (.map vm (kn S)))) :
 Qke P G base (.fn (.func Qc9) [] [.ptr kb tb 0]) o (fun n=>decide ((neg n)∈S)) c:=fun t n hn=>by
 refine CV.of hT Qc3 (Qo hT Qc3 (by simp [ZR]) (Qm 1000 ?_))
 have h3:=Qh5 .i64 (fun _=>.int .i64 1) S (neg n)
 have h4:=QIh S (neg n)
 have h5:=wneg64 (hc n hn)
 simp -implicitDefEqProofs (disch:=omega) only [go_sem,↓reduceIte,reduceCtorEq,rq,h1,h2,kn,h4,QIf,h5]
 exact ⟨t,lR _,rfl⟩
end
section
attribute [local go_sem] nFq nT aZ Nat.mul_one Nat.succ_ne_zero zA beq_self_eq_true decide_false decide_true QN Q3 Xs QEN QEM Qvz Qvy Qvx QEL QEK QEJ QEI QEH QEG QEF QEE Qw Qss Qsr Qsq Qsp Qso Qsn Qsm Qsl
variable {c:List Int}
theorem QiT {i:Nat} {n:Int} (cs:List V) (h:c[i]?=some n):(ints c++cs).getD i V.any=.int .i64 n:=by
 have hl:=(List.getElem?_eq_some_iff.1 h).1
 rw [List.getD_eq_getElem?_getD,List.getElem?_append_left (by rw [QN]; exact hl),QAm h]; rfl
variable {p:Int→Bool} {base t w:Nat}
theorem QjO (hT:Qe P tab) {o:List (Option Ob)} {f:V} (hp:Qke P G base f o p c) (hl:c.length≤9223372036854775807) {k T:Nat} {lim:Option Nat} {cs:List V} (ho:o[k]?=some (some (.arr w T (ints c++cs)))) :
 C P G base Xx [.sl k w 0 1 c.length lim,f] ⟨t,o⟩ fun v σ=>v=.int .i64 (Qce p c 0)∧∃ t',t≤t'∧σ=⟨t',o⟩:=by
 refine Qo hT QE (by simp [Qw]) (Qm 1000 ?_)
 simp -implicitDefEqProofs (disch:=omega) only [go_sem,↓reduceIte,reduceCtorEq,rq]
 refine Zv (fun m fr σ=>∃ i t',i≤c.length∧m=c.length - i∧(∀ n∈c.take i,p n=false)∧t≤t'∧Qd fr 0=.sl k w 0 1 c.length lim∧Qd fr 1=f∧Qd fr 7=.int .i64 c.length∧Qd fr 8=.int .i64 i∧σ=⟨t',o⟩)
  (fun e fr σ=>∃ t',t≤t'∧σ=⟨t',o⟩∧((e=.ret∧Qd fr 4=.int .i64 (Qce p c 0))∨(e=.ex 0∧Qce p c 0=-1)))
  (m0:=c.length) ⟨0,t,by omega,rfl,by simp,by omega,?_⟩ (fun m fr σ hJ=>?_) (fun e fr σ hE=>?_)
 ·simp -implicitDefEqProofs (disch:=omega) only [go_sem,↓reduceIte,reduceCtorEq,rq]
  simp
 ·obtain ⟨i,t',hi,rfl,hno,ht,f0,f1,f7,f8,rfl⟩:=hJ
  refine Qm 1000 ?_
  rcases Nat.lt_or_ge i c.length with hlt | hge
  ·obtain ⟨n,hni⟩:∃ n,c[i]?=some n:=⟨_,List.getElem?_eq_getElem hlt⟩
   have hD:=QiT cs hni
   have e2:=QkE hlt hl
   simp -implicitDefEqProofs (disch:=omega) only [go_sem,↓reduceIte,reduceCtorEq,rq,ho,lA,f0,f1,f7,f8,hlt,hD]
   refine CV.use 1000 (hp t' n (List.mem_of_getElem? hni)) fun v σ hv=>?_
   obtain ⟨rfl,t2,ht2,rfl⟩:=hv
   cases hpn:p n with
   | true =>
     simp -implicitDefEqProofs (disch:=omega) only [go_sem,↓reduceIte,reduceCtorEq,rq]
     rw [Qia hno hni hpn]
     exact ⟨t2,by omega,rfl,by simp⟩
   | false =>
     simp -implicitDefEqProofs (disch:=omega) only [go_sem,↓reduceIte,rq,f8]
     refine ⟨c.length - (i+1),_,_,by omega,Shift.refl _ _ _ _,i+1,t2,by omega,rfl,fun m hm=>?_,by omega,?_⟩
     ·rw [ZF hni] at hm
      simp at hm
      rcases hm with hm | rfl
      ·exact hno m hm
      ·exact hpn
     ·simp -implicitDefEqProofs (disch:=omega) only [go_sem,↓reduceIte,reduceCtorEq,rq,f0,f1,f7,e2]
  ·have hi:i=c.length:=by omega
   subst hi
   simp -implicitDefEqProofs (disch:=omega) only [go_sem,↓reduceIte,reduceCtorEq,rq,f7,f8,Nat.lt_irrefl]
   rw [List.take_length] at hno
   exact ⟨t',ht,rfl,QfS hno⟩
 ·obtain ⟨t',ht,rfl,hE⟩:=hE
  rcases hE with ⟨rfl,f4⟩ | ⟨rfl,hh⟩
  ·refine Qg 1000 ?_
   simp -implicitDefEqProofs (disch:=omega) only [go_sem,f4]
   exact ⟨t',ht,rfl⟩
  ·refine Qg 1000 ?_
   simp -implicitDefEqProofs (disch:=omega) only [go_sem,↓reduceIte,hh]
   exact ⟨t',ht,rfl⟩
theorem QsQ {α:Type} (o:List α) (x y:α):(o++[x]).set o.length y=o++[y]:=by simp
theorem Qts {p:Int→Bool}:∀ {c:List Int},¬ (∀ n∈c,p n=false)→∃ k n,c[k]?=some n∧p n=true∧∀ m∈c.take k,p m=false
 | [],h=>absurd (by simp) h
 | a::c,h=>by
   cases ha:p a with
   | true=>exact ⟨0,a,rfl,ha,by simp⟩
   | false =>
     obtain ⟨k,n,h1,h2,h3⟩:=Qts (c:=c) fun hh=>h fun n hn=>by
      simp only [List.mem_cons] at hn
      rcases hn with rfl | hn
      ·exact ha
      ·exact hh n hn
     exact ⟨k+1,n,by simpa using h1,h2,fun m hm=>by
      simp only [tSq,List.mem_cons] at hm
      rcases hm with rfl | hm
      ·exact ha
      ·exact h3 m hm⟩
theorem filter_all (h:∀ m∈c,p m=false):c.filter (fun n=>!p n)=c:=List.filter_eq_self.2 fun n hn=>by simp [h n hn]
theorem Qql (hT:Qe P tab) {g:Nat} {o:List (Option Ob)} {cap:List V} (hb:base≤o.length) (hp:∀ w' cells,Qke P G base (.fn (.func g) [] cap) (o++[some (.arr w' 3 cells)]) p c) (hl:c.length≤1000000) :
 C P G base ZI [.sl o.length w 0 1 c.length none,.fn (.func g) [] cap] ⟨t,o++[some (.arr w 3 (ints c))]⟩ fun v σ=>∃ t' cells,t≤t'∧Qc cells=true∧v=.sl o.length w 0 1 (c.filter fun n=>!p n).length none∧σ=⟨t',o++[some (.arr w 3 (ints (c.filter fun n=>!p n)++cells))]⟩:=by
 refine Qo hT Yu (by simp [Xs]) (Qm 1000 ?_)
 simp -implicitDefEqProofs (disch:=omega) only [go_sem,↓reduceIte,reduceCtorEq,rq]
 refine call hT QE (QjO hT (hp _ _) (by omega) (k:=o.length) (w:=w) (T:=3) (cs:=[]) (by simp)) 1000 fun v σ hv=>?_
 obtain ⟨rfl,t1,ht1,rfl⟩:=hv
 by_cases hn:∀ n∈c,p n=false
 ·rw [QfS hn]
  have hf:c.filter (fun n=>!p n)=c:=List.filter_eq_self.2 fun n h=>by simp [hn n h]
  rw [hf]
  simp -implicitDefEqProofs (disch:=omega) only [go_sem,↓reduceIte,reduceCtorEq,rq]
  exact ⟨t1,[],ht1,rfl,rfl,by simp⟩
 ·obtain ⟨k,n,hk,hpn,hno⟩:∃ k n,c[k]?=some n∧p n=true∧∀ m∈c.take k,p m=false:=Qts hn
  have hkl:=(List.getElem?_eq_some_iff.1 hk).1
  rw [Qia hno hk hpn,zA]
  have e1:=QkE hkl (by omega)
  have hk1:((k:Int)==-1)=false:=by rw [beq_eq_false_iff_ne]; omega
  simp -implicitDefEqProofs (disch:=omega) only [go_sem,↓reduceIte,reduceCtorEq,rq,hk1,e1]
  refine Zv (fun m fr σ=>∃ j t' L q,q=(c.take j).filter (fun n=>!p n)∧j≤c.length∧m=c.length - j∧q.length<j∧L.length=c.length∧L.take q.length=ints q∧L.drop j=ints (c.drop j)∧t≤t'∧Qd fr 0=.sl o.length w 0 1 c.length none∧Qd fr 1=.fn (.func g) [] cap∧Qd fr 5=.int .i64 q.length∧Qd fr 6=.int .i64 j∧σ=⟨t',o++[some (.arr w 3 L)]⟩)
   (fun e fr σ=>∃ t' L q,q=c.filter (fun n=>!p n)∧t≤t'∧e=.ex 0∧q.length<c.length∧L.length=c.length∧L.take q.length=ints q∧Qd fr 0=.sl o.length w 0 1 c.length none∧Qd fr 1=.fn (.func g) [] cap∧Qd fr 5=.int .i64 q.length∧σ=⟨t',o++[some (.arr w 3 L)]⟩)
   (m0:=c.length - (k+1)) ⟨k+1,t1,ints c,c.take k,?_,by omega,rfl,?_,QN c,?_,?_,ht1,?_⟩ (fun m fr σ hJ=>?_) (fun e fr σ hE=>?_)
  ·rw [ZF hk,List.filter_append,filter_all hno]
   simp [hpn]
  ·simp; omega
  ·rw [List.length_take,Nat.min_eq_left (by omega)]; simp [ints,List.map_take]
  ·simp [ints,List.map_drop]
  ·simp -implicitDefEqProofs (disch:=omega) only [go_sem,↓reduceIte,reduceCtorEq,rq,List.length_take,Nat.min_eq_left (Nat.le_of_lt hkl)]
   try simp
  ·obtain ⟨j,t',L,q,hq,hj,rfl,hij,hL,hL1,hL2,ht,f0,f1,f5,f6,rfl⟩:=hJ
   refine Qm 1000 ?_
   rcases Nat.lt_or_ge j c.length with hlt | hge
   ·obtain ⟨n,hnj⟩:∃ n,c[j]?=some n:=⟨_,List.getElem?_eq_getElem hlt⟩
    have hD:L.getD j V.any=.int .i64 n:=by
     have:=congrArg (fun l=>l[0]?) hL2
     simp only [List.getElem?_drop,aZ,ints,List.map_drop,List.getElem?_map,hnj] at this
     rw [List.getD_eq_getElem?_getD,this]; rfl
    have hdn:L.drop (j+1)=ints (c.drop (j+1)):=by
     rw [← List.drop_drop,hL2]; simp only [ints,List.map_drop,List.drop_drop]
    have e2:=QkE hlt (by omega)
    have e3:=QkE (i:=q.length) (n:=c.length) (by omega) (by omega)
    simp -implicitDefEqProofs (disch:=omega) only [go_sem,↓reduceIte,reduceCtorEq,rq,List.getElem?_concat_length,f0,f1,f6,hlt,hD,hL]
    refine CV.use 1000 (hp w L t' n (List.mem_of_getElem? hnj)) fun v σ hv=>?_
    obtain ⟨rfl,t2,ht2,rfl⟩:=hv
    cases hpn:p n with
    | true =>
      simp -implicitDefEqProofs (disch:=omega) only [go_sem,↓reduceIte,rq,f6,e2]
      refine ⟨c.length - (j+1),_,_,by omega,Shift.refl _ _ _ _,j+1,t2,L,q,?_,by omega,rfl,by omega,hL,hL1,hdn,by omega,?_⟩
      ·rw [ZF hnj,List.filter_append,← hq]; simp [hpn]
      ·simp -implicitDefEqProofs (disch:=omega) only [go_sem,↓reduceIte,reduceCtorEq,rq,f0,f1,f5]
    | false =>
      simp -implicitDefEqProofs (disch:=omega) only [go_sem,↓reduceIte,reduceCtorEq,rq,List.getElem?_concat_length,QsQ,f0,f5,f6,hL]
      have hql:q.length<L.length:=by omega
      have hset:L.take q.length++[V.int .i64 n]++L.drop (q.length+1)=L.set q.length (.int .i64 n):=by rw [List.set_eq_take_append_cons_drop,if_pos hql]; simp
      refine ⟨c.length - (j+1),_,_,by omega,Shift.refl _ _ _ _,j+1,t2,L.set q.length (.int .i64 n),q++[n],?_,by omega,rfl,?_,?_,?_,?_,by omega,?_⟩
      ·rw [ZF hnj,List.filter_append,← hq]; simp [hpn]
      ·simp; omega
      ·simpa using hL
      ·rw [lA,List.length_singleton,ZF (x:=V.int .i64 n) (by simp [hql]),List.take_set_of_le (lR _),hL1]; simp [ints]
      ·rw [List.drop_set_of_lt (by omega)]; exact hdn
      ·simp -implicitDefEqProofs (disch:=omega) only [go_sem,↓reduceIte,reduceCtorEq,rq,f0,f1,e2,e3,lA,List.length_singleton,hset]
   ·have hi:j=c.length:=by omega
    subst hi
    simp -implicitDefEqProofs (disch:=omega) only [go_sem,↓reduceIte,reduceCtorEq,rq,f0,f1,f5,f6,Nat.lt_irrefl]
    rw [List.take_length] at hq
    exact ⟨t',L,q,hq,ht,hij,hL,hL1,rfl,rfl,rfl⟩
  ·obtain ⟨t',L,q,hq,ht,rfl,hlt,hL,hL1,f0,f1,f5,rfl⟩:=hE
   refine Qg 1000 ?_
   simp -implicitDefEqProofs (disch:=omega) only [go_sem,↓reduceIte,rq,f0,f5]
   simp only [evW]
   simp -implicitDefEqProofs (disch:=omega) only [go_sem,↓reduceIte,reduceCtorEq,rq,List.getElem?_concat_length,QsQ,f0,f5,hL]
   have hrep:(List.replicate (c.length - q.length) [V.int .i64 0]).flatten=ints (List.replicate (c.length - q.length) 0):=by
    generalize c.length - q.length=k
    induction k with
    | zero=>rfl
    | succ k ih=>rw [List.replicate_succ,List.flatten_cons,ih,List.replicate_succ]; rfl
   have hdr:L.drop (q.length+(ints (List.replicate (c.length - q.length) 0)).length)=[]:=List.drop_eq_nil_of_le (by rw [QN,List.length_replicate]; omega)
   exact ⟨t',ints (List.replicate (c.length - q.length) 0),ht,QgG _,by rw [← hq]; rfl,rfl,by rw [hL1,← hq,hrep,hdr,List.append_nil]⟩
end
section
attribute [local go_sem] aZ lR Nat.mul_one zA ZQ QEB QEA Yt Qvw Qvv ge_iff_le Q3 Qr Qsu Qst
variable {cs:List V} {lim:Option Nat} {c:List Int} {p:Int→Bool} {base t k w T:Nat}
theorem QlD (hT:Qe P tab) {o:List (Option Ob)} {f:V} (hp:Qke P G base f o p c) (hl:c.length≤9223372036854775807) (ho:o[k]?=some (some (.arr w T (ints c++cs)))) :
 C P G base Q9 [.sl k w 0 1 c.length lim,f] ⟨t,o⟩ fun v σ=>v=.bool (c.any p)∧∃ t',t≤t'∧σ=⟨t',o⟩:=by
 refine Qo hT QH (by simp [Qr]) (Qm 1000 ?_)
 simp -implicitDefEqProofs (disch:=omega) only [go_sem,↓reduceIte,reduceCtorEq,rq]
 refine call hT QE (QjO hT hp hl ho) 1000 fun v σ hv=>?_
 obtain ⟨rfl,t',ht,rfl⟩:=hv
 simp -implicitDefEqProofs (disch:=omega) only [go_sem,↓reduceIte,reduceCtorEq,rq]
 rw [QiV]
 exact ⟨rfl,t',ht,rfl⟩
theorem c_allS (hT:Qe P tab) {g:Nat} {o:List (Option Ob)} {cap:List V} (hb:base≤o.length) (hp:∀ ex,Qke P G base (.fn (.func g) [] cap) (o++ex) p c) (hl:c.length≤9223372036854775807) (ho:o[k]?=some (some (.arr w T (ints c++cs)))) :
 C P G base Qaq [.sl k w 0 1 c.length lim,.fn (.func g) [] cap] ⟨t,o⟩ fun v σ=>v=.bool (c.all p)∧∃ t',t≤t'∧σ=⟨t',o⟩:=by
 refine Qj o.length hb (Qo hT Qb2 (by simp [Yt]) (Qm 1000 ?_))
 simp -implicitDefEqProofs (disch:=omega) only [go_sem,↓reduceIte,reduceCtorEq,rq]
 have hn:=u_not (P:=P) (G:=G) (base:=base) (k:=o.length) (tb:=t) (T:=89) hT (by simp) (hp [some (.arr t 89 [.fn (.func g) [] cap])])
 refine call hT QH (QlD hT hn hl (Qrs ho)) 1000 fun v σ hv=>?_
 obtain ⟨rfl,t',ht,rfl⟩:=hv
 simp -implicitDefEqProofs (disch:=omega) only [go_sem,↓reduceIte,reduceCtorEq,rq]
 exact ⟨by simp,by rw [List.all_eq_not_any_not],t',by omega,rfl,by simp⟩
theorem QiQ (hT:Qe P tab) {kb tb T2:Nat} {o:List (Option Ob)} {a:Int} {l:List Int} (h1:o[kb]?=some (some (.arr tb T [.sl k w 0 1 (l.length+1) lim]))) (h2:o[k]?=some (some (.arr w T2 (ints (a::l)++cs)))) :
 Qke P G base (.fn (.func Qa9) [] [.ptr kb tb 0]) o (fun n=>n==a) c:=fun t n hn=>by
 refine CV.of hT Qc2 (Qo hT Qc2 (by simp [ZQ]) (Qm 1000 ?_))
 have hD:=QiT (c:=a::l) (i:=0) cs rfl
 simp -implicitDefEqProofs (disch:=omega) only [go_sem,↓reduceIte,reduceCtorEq,rq,Int.reduceToNat,Int.reduceLE,h1,h2,hD,lA,QN,lC]
 exact ⟨t,lR _,rfl⟩
end
end Go.Proofs.YtoeicjlflmmmcaaGreatDoor
