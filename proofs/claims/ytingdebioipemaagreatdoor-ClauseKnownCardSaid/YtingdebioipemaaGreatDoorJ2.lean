/- Contracts: rows gone through by functions handed over. -/
import Derived.Test.YtingdebioipemaaGreatDoorJ1
import Derived.Test.YtingdebioipemaaGreatDoorAmD
open Nat renaming reduceEqDiff → rq, reduceAdd → rA, reduceLeDiff → rL, reduceLT → rT, zero_add → zA, le_refl → lR, zero_le → zL, add_zero → aZ
open List renaming length_cons → lC, length_nil → lN, take_succ_cons → tS, length_append → lAq, nil_append → nAq, cons_append → cAq, append_assoc → aA, take_nil → tN, take_zero → tZ, length_map → lM
open Bool renaming not_false → nFq, not_true → nT
namespace Go.Proofs.YtingdebioipemaaGreatDoor
open Go Go.Am Go.Cl
set_option maxRecDepth 100000
variable {P:Program} {G:Nat→Option V}
section
attribute [local go_sem] lR Nat.succ_ne_zero zA YH Qyh Qyg decide_false decide_true ge_iff_le Qt Qv Qq0 QqZ Qz QqY QqX QqW QqV QqU QqT QqS QqR
def QdN (P:Program) (G:Nat→Option V) (base:Nat) (f:V) (o:List (Option Ob)) (p:Int→Bool) (c:List Int):Prop :=
 ∀ t n,n∈c→CV P G base f [.int .i64 n] ⟨t,o⟩ fun v σ=>v=.bool (p n)∧∃ t',t≤t'∧σ=⟨t',o⟩
def Qa0 (p:Int→Bool):List Int→Nat→Int
 | [],_=>-1
 | n::c,i=>if p n then i else Qa0 p c (i+1)
theorem QdY {p:Int→Bool}:∀ {c:List Int} {i:Nat},(∀ n∈c,p n=false)→Qa0 p c i=-1
 | [],_,_=>rfl
 | n::c,i,h=>by rw [Qa0,h n (by simp),if_neg (by simp),QdY fun m hm=>h m (by simp [hm])]
theorem Qfi {p:Int→Bool}:∀ {c:List Int} {i k:Nat} {n:Int},(∀ m∈c.take k,p m=false)→c[k]?=some n→p n=true→Qa0 p c i=((i+k:Nat):Int)
 | [],_,_,_,_,h,_=>by simp at h
 | m::c,i,0,n,_,h,hp=>by simp at h; subst h; simp [Qa0,hp]
 | m::c,i,k+1,n,h,hk,hp=>by
   rw [Qa0,h m (by simp),if_neg (by simp),Qfi (k:=k) (fun m hm=>h m (by simp [hm])) (by simpa using hk) hp]
   congr 1; omega
theorem Qf6 {p:Int→Bool}:∀ {c:List Int} {i:Nat},decide (0≤Qa0 p c i)=c.any p
 | [],_=>by simp [Qa0]
 | n::c,i=>by
   unfold Qa0
   cases h:p n
   ·simp [h,Qf6 (c:=c)]
   ·simp [h]
theorem Qp {α:Type} {l:List α} {k:Nat} {x:α} (h:l[k]?=some x):l.take (k+1)=l.take k++[x]:=by rw [List.take_add_one,h]; rfl
variable {c:List Int} {p:Int→Bool} {f:V} {o:List (Option Ob)} {base t:Nat}
theorem QmR (hT:Qn P tab) (hp:QdN P G base f o p c) (hl:c.length≤9223372036854775807) :
 C P G base XN [.lst 1 (ints c) false,f] ⟨t,o⟩ fun v σ=>v=.int .i64 (Qa0 p c 0)∧∃ t',t≤t'∧σ=⟨t',o⟩:=by
 refine QM hT QS (by simp [Qz]) (Qx 1000 ?_)
 simp -implicitDefEqProofs (disch:=omega) only [go_sem,↓reduceIte,reduceCtorEq,rq,Qe]
 refine QX (fun m fr σ=>∃ i t',i≤c.length∧m=c.length - i∧(∀ n∈c.take i,p n=false)∧t≤t'∧Qi fr 0=.lst 1 (ints c) false∧Qi fr 1=f∧Qi fr 7=.int .i64 c.length∧Qi fr 8=.int .i64 i∧σ=⟨t',o⟩)
  (fun e fr σ=>∃ t',t≤t'∧σ=⟨t',o⟩∧((e=.ret∧Qi fr 4=.int .i64 (Qa0 p c 0))∨(e=.ex 0∧Qa0 p c 0=-1)))
  (m0:=c.length) ⟨0,t,by omega,rfl,by simp,by omega,?_⟩ (fun m fr σ hJ=>?_) (fun e fr σ hE=>?_)
 ·simp -implicitDefEqProofs (disch:=omega) only [go_sem,↓reduceIte,reduceCtorEq,rq]
  simp
 ·obtain ⟨i,t',hi,rfl,hno,ht,f0,f1,f7,f8,rfl⟩:=hJ
  refine Qx 1000 ?_
  rcases Nat.lt_or_ge i c.length with hlt | hge
  ·obtain ⟨n,hni⟩:∃ n,c[i]?=some n:=⟨_,List.getElem?_eq_getElem hlt⟩
   have hD:=QaZ hni
   have e2:=YR hlt hl
   simp -implicitDefEqProofs (disch:=omega) only [go_sem,↓reduceIte,reduceCtorEq,rq,Qe,f0,f1,f7,f8,hlt,hD]
   refine CV.use 1000 (hp t' n (List.mem_of_getElem? hni)) fun v σ hv=>?_
   obtain ⟨rfl,t2,ht2,rfl⟩:=hv
   cases hpn:p n with
   | true =>
     simp -implicitDefEqProofs (disch:=omega) only [go_sem,↓reduceIte,reduceCtorEq,rq]
     rw [Qfi hno hni hpn]
     exact ⟨t2,by omega,rfl,by simp⟩
   | false =>
     simp -implicitDefEqProofs (disch:=omega) only [go_sem,↓reduceIte,rq,f8]
     refine ⟨c.length - (i+1),_,_,by omega,Shift.refl _ _ _ _,i+1,t2,by omega,rfl,fun m hm=>?_,by omega,?_⟩
     ·rw [Qp hni] at hm
      simp at hm
      rcases hm with hm | rfl
      ·exact hno m hm
      ·exact hpn
     ·simp -implicitDefEqProofs (disch:=omega) only [go_sem,↓reduceIte,reduceCtorEq,rq,f0,f1,f7,e2]
  ·have hi:i=c.length:=by omega
   subst hi
   simp -implicitDefEqProofs (disch:=omega) only [go_sem,↓reduceIte,reduceCtorEq,rq,f7,f8,Nat.lt_irrefl]
   rw [List.take_length] at hno
   exact ⟨t',ht,rfl,QdY hno⟩
 ·obtain ⟨t',ht,rfl,hE⟩:=hE
  rcases hE with ⟨rfl,f4⟩ | ⟨rfl,hh⟩
  ·refine Qc 1000 ?_
   simp -implicitDefEqProofs (disch:=omega) only [go_sem,f4]
   exact ⟨t',ht,rfl⟩
  ·refine Qc 1000 ?_
   simp -implicitDefEqProofs (disch:=omega) only [go_sem,↓reduceIte,hh]
   exact ⟨t',ht,rfl⟩
theorem QiR (hT:Qn P tab) (hp:QdN P G base f o p c) (hl:c.length≤9223372036854775807) :
 C P G base Xv [.lst 1 (ints c) false,f] ⟨t,o⟩ fun v σ=>v=.bool (c.any p)∧∃ t',t≤t'∧σ=⟨t',o⟩:=by
 refine QM hT Q3 (by simp [Qv]) (Qx 1000 ?_)
 simp -implicitDefEqProofs (disch:=omega) only [go_sem,↓reduceIte,reduceCtorEq,rq]
 refine call hT QS (QmR hT hp hl) 1000 fun v σ hv=>?_
 obtain ⟨rfl,t',ht,rfl⟩:=hv
 simp -implicitDefEqProofs (disch:=omega) only [go_sem,↓reduceIte,reduceCtorEq,rq]
 rw [Qf6]
 exact ⟨rfl,t',ht,rfl⟩
theorem Qof (hT:Qn P tab) (hp:QdN P G base f o p c) (hl:c.length≤9223372036854775807) :
 C P G base QbW [.lst 1 (ints c) false,f] ⟨t,o⟩ fun v σ=>v=.bool (c.any p)∧∃ t',t≤t'∧σ=⟨t',o⟩:=by
 refine QM hT Q7 (by simp [YH]) (Qx 1000 ?_)
 simp -implicitDefEqProofs (disch:=omega) only [go_sem,↓reduceIte,reduceCtorEq,rq]
 refine call hT Q3 (QiR hT hp hl) 1000 fun v σ hv=>?_
 obtain ⟨rfl,t',ht,rfl⟩:=hv
 simp -implicitDefEqProofs (disch:=omega) only [go_sem,↓reduceIte,reduceCtorEq,rq]
 exact ⟨t',ht,rfl⟩
end
section
attribute [local go_sem] nFq lR zA Ys Qw2 Qw1 Yr Qw0 QwZ Yq QwY QwX YK Qyb Qya YJ QxZ QxY Yy XX QwW QwV Qrn Qrm gt_iff_lt Qt XA zqk_0 zqk_1 zqk_2 zqk_3
variable {k base tb T kb km vm:Nat} {o:List (Option Ob)}
theorem QmC {ex:List (Option Ob)} {x:Option Ob} (h:o[k]?=some x):(o++ex)[k]?=some x:=by
 have:=(List.getElem?_eq_some_iff.1 h).1
 rw [List.getElem?_append_left this]; exact h
variable {c S:List Int}
theorem c_not (hT:Qn P tab) {f:V} {p:Int→Bool} (ho:o[k]?=some (some (.arr tb T [f]))) (hp:QdN P G base f o p c) :
 QdN P G base (.fn (.func Qaz) [] [.ptr k tb 0]) o (fun n=>!p n) c:=fun t n hn=>by
 refine CV.of hT Qat (QM hT Qat (by simp [XX]) (Qx 1000 ?_))
 simp -implicitDefEqProofs (disch:=omega) only [go_sem,↓reduceIte,reduceCtorEq,rq,ho]
 refine CV.use 1000 (hp t n hn) fun v σ hv=>?_
 obtain ⟨rfl,t',ht,rfl⟩:=hv
 simp -implicitDefEqProofs (disch:=omega) only [go_sem,↓reduceIte,reduceCtorEq,rq]
 exact ⟨t',ht,rfl⟩
theorem Qij (hT:Qn P tab) {t:Nat} (c:List Int) (hl:c.length≤1000000) :
 C P G base ZJ [.lst 1 (ints c) false] ⟨t,o⟩ fun v σ=>∃ t' w,t≤t'∧v=.sl o.length w 0 1 c.length none∧σ=⟨t',o++[some (.arr w 3 (ints c))]⟩:=by
 refine C_own 1 3 (Q:=fun v σ=>(v=.sl o.length t 0 1 c.length none∧σ=⟨t+1,o++[some (.arr t 3 (ints c))]⟩)∨(c=[]∧v=.lst 0 [] true∧σ=⟨t,o⟩)) ?_ fun v σ hv=>?_
 ·refine QM hT QY (by simp [XA]) (Qx 1000 ?_)
  have hfl:((ints c).map V.cells).flatten=ints c:=by
   clear hl
   induction c with
   | nil=>rfl
   | cons n c ih=>simp only [ints,List.map_cons,List.flatten_cons] at ih ⊢; rw [ih]; rfl
  simp -implicitDefEqProofs (disch:=omega) only [go_sem,↓reduceIte,reduceCtorEq,rq,hfl,Qe]
  cases c with
  | nil=>exact rfl
  | cons n c=>exact trivial
 ·rcases hv with ⟨rfl,rfl⟩ | ⟨rfl,rfl,rfl⟩
  ·exact .inl ⟨_,_,by omega,rfl,rfl⟩
  ·exact .inr ⟨0,rfl,_,_,Nat.le_succ _,rfl,rfl⟩
def kn (S:List Int):List (V × V):=im .i64 (fun _=>.int .i64 1) S
theorem Qle (S:List Int) (n:Int):(Qtr [Kd.i] (V.int .i64 n) (im .i64 (fun _=>V.int .i64 1) S)).getD (V.int .i64 0)=.int .i64 (if n∈S then 1 else 0):=by
 rw [Qsk]; split <;> rfl
theorem Qld (b:Prop) [Decidable b]:decide ((0:Int)<if b then 1 else 0)=decide b:=by split <;> simp [*]
theorem QkU {n:Int} (h:-9223372036854775808≤n∧n≤9223372036854775807):IntKind.i64.wrap (0 - n)=neg n:=by
 unfold neg
 split
 ·rename_i e; subst e; decide
 ·rw [Ya] <;> (try omega)
  all_goals (first | (simp [IntKind.min,IntKind.signed,IntKind.bits]; omega) | (simp [IntKind.max,IntKind.signed,IntKind.bits]; omega))
theorem Qf3 (hT:Qn P tab) (h1:o[kb]?=some (some (.arr tb T [.mp km vm]))) (h2:o[km]?=some (some (.map vm (kn S)))) :
 QdN P G base (.fn (.func QbZ) [] [.ptr kb tb 0]) o (fun n=>decide (n∈S)) c:=fun t n hn=>by
 refine CV.of hT QbR (QM hT QbR (by simp [YK]) (Qx 1000 ?_))
 have h3:=QaY .i64 (fun _=>.int .i64 1) S n
 have h4:=Qle S n
 simp -implicitDefEqProofs (disch:=omega) only [go_sem,↓reduceIte,reduceCtorEq,rq,h1,h2,kn,h4,Qld]
 exact ⟨t,lR _,rfl⟩
theorem Qff (hT:Qn P tab) (h1:o[kb]?=some (some (.arr tb T [.mp km vm]))) (h2:o[km]?=some (some (.map vm (kn S)))) :
 QdN P G base (.fn (.func Qbs) [] [.ptr kb tb 0]) o (fun n=>decide (n∈S)) c:=fun t n hn=>by
 refine CV.of hT Qbn (QM hT Qbn (by simp [Yr]) (Qx 1000 ?_))
 have h3:=QaY .i64 (fun _=>.int .i64 1) S n
 have h4:=Qle S n
 simp -implicitDefEqProofs (disch:=omega) only [go_sem,↓reduceIte,reduceCtorEq,rq,h1,h2,kn,h4,Qld]
 exact ⟨t,lR _,rfl⟩
theorem Qf2 (hT:Qn P tab) (hc:∀ n∈c,-9223372036854775808≤n∧n≤9223372036854775807) (h1:o[kb]?=some (some (.arr tb T [.mp km vm]))) (h2:o[km]?=some (some (.map vm (kn S)))) :
 QdN P G base (.fn (.func QbY) [] [.ptr kb tb 0]) o (fun n=>decide ((neg n)∈S)) c:=fun t n hn=>by
 refine CV.of hT QbQ (QM hT QbQ (by simp [YJ]) (Qx 1000 ?_))
 have h3:=QaY .i64 (fun _=>.int .i64 1) S (neg n)
 have h4:=Qle S (neg n)
 have h5:=QkU (hc n hn)
 simp -implicitDefEqProofs (disch:=omega) only [go_sem,↓reduceIte,reduceCtorEq,rq,h1,h2,kn,h4,Qld,h5]
 exact ⟨t,lR _,rfl⟩
theorem Qfg (hT:Qn P tab) (hc:∀ n∈c,-9223372036854775808≤n∧n≤9223372036854775807) (h1:o[kb]?=some (some (.arr tb T [.mp km vm]))) (h2:o[km]?=some (some (.map vm (kn S)))) :
 QdN P G base (.fn (.func Qbt) [] [.ptr kb tb 0]) o (fun n=>decide ((neg n)∈S)) c:=fun t n hn=>by
 refine CV.of hT Qbo (QM hT Qbo (by simp [Ys]) (Qx 1000 ?_))
 have h3:=QaY .i64 (fun _=>.int .i64 1) S (neg n)
 have h4:=Qle S (neg n)
 have h5:=QkU (hc n hn)
 simp -implicitDefEqProofs (disch:=omega) only [go_sem,↓reduceIte,reduceCtorEq,rq,h1,h2,kn,h4,Qld,h5]
 exact ⟨t,lR _,rfl⟩
theorem Qfe (hT:Qn P tab) (hc:∀ n∈c,-9223372036854775808≤n∧n≤9223372036854775807) (h1:o[kb]?=some (some (.arr tb T [.mp km vm]))) (h2:o[km]?=some (some (.map vm (kn S)))) :
 QdN P G base (.fn (.func Zs) [] [.ptr kb tb 0]) o (fun n=>decide ((neg n)∈S)) c:=fun t n hn=>by
 refine CV.of hT Qbm (QM hT Qbm (by simp [Yq]) (Qx 1000 ?_))
 have h3:=QaY .i64 (fun _=>.int .i64 1) S (neg n)
 have h4:=Qle S (neg n)
 have h5:=QkU (hc n hn)
 simp -implicitDefEqProofs (disch:=omega) only [go_sem,↓reduceIte,reduceCtorEq,rq,h1,h2,kn,h4,Qld,h5]
 exact ⟨t,lR _,rfl⟩
end
section
attribute [local go_sem] nFq nT aZ Nat.mul_one Nat.succ_ne_zero zA beq_self_eq_true decide_false decide_true Qe Qt Q0 Qx9 Qx8 Qrq Qrp Qro Qx7 Qx6 Qx5 Qx4 Qx3 Qx2 Qx1 Qx0 Qz QqY QqX QqW QqV QqU QqT QqS QqR
variable {c:List Int}
theorem QaQ {i:Nat} {n:Int} (cs:List V) (h:c[i]?=some n):(ints c++cs).getD i V.any=.int .i64 n:=by
 have hl:=(List.getElem?_eq_some_iff.1 h).1
 rw [List.getD_eq_getElem?_getD,List.getElem?_append_left (by rw [Qe]; exact hl),Qud h]; rfl
variable {p:Int→Bool} {o:List (Option Ob)} {base t w:Nat}
theorem QgI (hT:Qn P tab) {f:V} (hp:QdN P G base f o p c) (hl:c.length≤9223372036854775807) {k T:Nat} {lim:Option Nat} {cs:List V} (ho:o[k]?=some (some (.arr w T (ints c++cs)))) :
 C P G base XN [.sl k w 0 1 c.length lim,f] ⟨t,o⟩ fun v σ=>v=.int .i64 (Qa0 p c 0)∧∃ t',t≤t'∧σ=⟨t',o⟩:=by
 refine QM hT QS (by simp [Qz]) (Qx 1000 ?_)
 simp -implicitDefEqProofs (disch:=omega) only [go_sem,↓reduceIte,reduceCtorEq,rq]
 refine QX (fun m fr σ=>∃ i t',i≤c.length∧m=c.length - i∧(∀ n∈c.take i,p n=false)∧t≤t'∧Qi fr 0=.sl k w 0 1 c.length lim∧Qi fr 1=f∧Qi fr 7=.int .i64 c.length∧Qi fr 8=.int .i64 i∧σ=⟨t',o⟩)
  (fun e fr σ=>∃ t',t≤t'∧σ=⟨t',o⟩∧((e=.ret∧Qi fr 4=.int .i64 (Qa0 p c 0))∨(e=.ex 0∧Qa0 p c 0=-1)))
  (m0:=c.length) ⟨0,t,by omega,rfl,by simp,by omega,?_⟩ (fun m fr σ hJ=>?_) (fun e fr σ hE=>?_)
 ·simp -implicitDefEqProofs (disch:=omega) only [go_sem,↓reduceIte,reduceCtorEq,rq]
  simp
 ·obtain ⟨i,t',hi,rfl,hno,ht,f0,f1,f7,f8,rfl⟩:=hJ
  refine Qx 1000 ?_
  rcases Nat.lt_or_ge i c.length with hlt | hge
  ·obtain ⟨n,hni⟩:∃ n,c[i]?=some n:=⟨_,List.getElem?_eq_getElem hlt⟩
   have hD:=QaQ cs hni
   have e2:=YR hlt hl
   simp -implicitDefEqProofs (disch:=omega) only [go_sem,↓reduceIte,reduceCtorEq,rq,ho,lAq,f0,f1,f7,f8,hlt,hD]
   refine CV.use 1000 (hp t' n (List.mem_of_getElem? hni)) fun v σ hv=>?_
   obtain ⟨rfl,t2,ht2,rfl⟩:=hv
   cases hpn:p n with
   | true =>
     simp -implicitDefEqProofs (disch:=omega) only [go_sem,↓reduceIte,reduceCtorEq,rq]
     rw [Qfi hno hni hpn]
     exact ⟨t2,by omega,rfl,by simp⟩
   | false =>
     simp -implicitDefEqProofs (disch:=omega) only [go_sem,↓reduceIte,rq,f8]
     refine ⟨c.length - (i+1),_,_,by omega,Shift.refl _ _ _ _,i+1,t2,by omega,rfl,fun m hm=>?_,by omega,?_⟩
     ·rw [Qp hni] at hm
      simp at hm
      rcases hm with hm | rfl
      ·exact hno m hm
      ·exact hpn
     ·simp -implicitDefEqProofs (disch:=omega) only [go_sem,↓reduceIte,reduceCtorEq,rq,f0,f1,f7,e2]
  ·have hi:i=c.length:=by omega
   subst hi
   simp -implicitDefEqProofs (disch:=omega) only [go_sem,↓reduceIte,reduceCtorEq,rq,f7,f8,Nat.lt_irrefl]
   rw [List.take_length] at hno
   exact ⟨t',ht,rfl,QdY hno⟩
 ·obtain ⟨t',ht,rfl,hE⟩:=hE
  rcases hE with ⟨rfl,f4⟩ | ⟨rfl,hh⟩
  ·refine Qc 1000 ?_
   simp -implicitDefEqProofs (disch:=omega) only [go_sem,f4]
   exact ⟨t',ht,rfl⟩
  ·refine Qc 1000 ?_
   simp -implicitDefEqProofs (disch:=omega) only [go_sem,↓reduceIte,hh]
   exact ⟨t',ht,rfl⟩
theorem QdS {α:Type} (o:List α) (x y:α):(o++[x]).set o.length y=o++[y]:=by simp
theorem Qn2 {p:Int→Bool}:∀ {c:List Int},¬ (∀ n∈c,p n=false)→∃ k n,c[k]?=some n∧p n=true∧∀ m∈c.take k,p m=false
 | [],h=>absurd (by simp) h
 | a::c,h=>by
   cases ha:p a with
   | true=>exact ⟨0,a,rfl,ha,by simp⟩
   | false =>
     obtain ⟨k,n,h1,h2,h3⟩:=Qn2 (c:=c) fun hh=>h fun n hn=>by
      simp only [List.mem_cons] at hn
      rcases hn with rfl | hn
      ·exact ha
      ·exact hh n hn
     exact ⟨k+1,n,by simpa using h1,h2,fun m hm=>by
      simp only [tS,List.mem_cons] at hm
      rcases hm with rfl | hm
      ·exact ha
      ·exact h3 m hm⟩
theorem filter_all (h:∀ m∈c,p m=false):c.filter (fun n=>!p n)=c:=List.filter_eq_self.2 fun n hn=>by simp [h n hn]
theorem QdF (hT:Qn P tab) {g:Nat} {cap:List V} (hb:base≤o.length) (hp:∀ w' cells,QdN P G base (.fn (.func g) [] cap) (o++[some (.arr w' 3 cells)]) p c) (hl:c.length≤1000000) :
 C P G base Xi [.sl o.length w 0 1 c.length none,.fn (.func g) [] cap] ⟨t,o++[some (.arr w 3 (ints c))]⟩ fun v σ=>∃ t' cells,t≤t'∧Qb cells=true∧v=.sl o.length w 0 1 (c.filter fun n=>!p n).length none∧σ=⟨t',o++[some (.arr w 3 (ints (c.filter fun n=>!p n)++cells))]⟩:=by
 refine QM hT QK (by simp [Q0]) (Qx 1000 ?_)
 simp -implicitDefEqProofs (disch:=omega) only [go_sem,↓reduceIte,reduceCtorEq,rq]
 refine call hT QS (QgI hT (hp _ _) (by omega) (k:=o.length) (w:=w) (T:=3) (cs:=[]) (by simp)) 1000 fun v σ hv=>?_
 obtain ⟨rfl,t1,ht1,rfl⟩:=hv
 by_cases hn:∀ n∈c,p n=false
 ·rw [QdY hn]
  have hf:c.filter (fun n=>!p n)=c:=List.filter_eq_self.2 fun n h=>by simp [hn n h]
  rw [hf]
  simp -implicitDefEqProofs (disch:=omega) only [go_sem,↓reduceIte,reduceCtorEq,rq]
  exact ⟨t1,[],ht1,rfl,rfl,by simp⟩
 ·obtain ⟨k,n,hk,hpn,hno⟩:∃ k n,c[k]?=some n∧p n=true∧∀ m∈c.take k,p m=false:=Qn2 hn
  have hkl:=(List.getElem?_eq_some_iff.1 hk).1
  rw [Qfi hno hk hpn,zA]
  have e1:=YR hkl (by omega)
  have hk1:((k:Int)==-1)=false:=by rw [beq_eq_false_iff_ne]; omega
  simp -implicitDefEqProofs (disch:=omega) only [go_sem,↓reduceIte,reduceCtorEq,rq,hk1,e1]
  refine QX (fun m fr σ=>∃ j t' L q,q=(c.take j).filter (fun n=>!p n)∧j≤c.length∧m=c.length - j∧q.length<j∧L.length=c.length∧L.take q.length=ints q∧L.drop j=ints (c.drop j)∧t≤t'∧Qi fr 0=.sl o.length w 0 1 c.length none∧Qi fr 1=.fn (.func g) [] cap∧Qi fr 5=.int .i64 q.length∧Qi fr 6=.int .i64 j∧σ=⟨t',o++[some (.arr w 3 L)]⟩)
   (fun e fr σ=>∃ t' L q,q=c.filter (fun n=>!p n)∧t≤t'∧e=.ex 0∧q.length<c.length∧L.length=c.length∧L.take q.length=ints q∧Qi fr 0=.sl o.length w 0 1 c.length none∧Qi fr 1=.fn (.func g) [] cap∧Qi fr 5=.int .i64 q.length∧σ=⟨t',o++[some (.arr w 3 L)]⟩)
   (m0:=c.length - (k+1)) ⟨k+1,t1,ints c,c.take k,?_,by omega,rfl,?_,Qe c,?_,?_,ht1,?_⟩ (fun m fr σ hJ=>?_) (fun e fr σ hE=>?_)
  ·rw [Qp hk,List.filter_append,filter_all hno]
   simp [hpn]
  ·simp; omega
  ·rw [List.length_take,Nat.min_eq_left (by omega)]; simp [ints,List.map_take]
  ·simp [ints,List.map_drop]
  ·simp -implicitDefEqProofs (disch:=omega) only [go_sem,↓reduceIte,reduceCtorEq,rq,List.length_take,Nat.min_eq_left (Nat.le_of_lt hkl)]
   try simp
  ·obtain ⟨j,t',L,q,hq,hj,rfl,hij,hL,hL1,hL2,ht,f0,f1,f5,f6,rfl⟩:=hJ
   refine Qx 1000 ?_
   rcases Nat.lt_or_ge j c.length with hlt | hge
   ·obtain ⟨n,hnj⟩:∃ n,c[j]?=some n:=⟨_,List.getElem?_eq_getElem hlt⟩
    have hD:L.getD j V.any=.int .i64 n:=by
     have:=congrArg (fun l=>l[0]?) hL2
     simp only [List.getElem?_drop,aZ,ints,List.map_drop,List.getElem?_map,hnj] at this
     rw [List.getD_eq_getElem?_getD,this]; rfl
    have hdn:L.drop (j+1)=ints (c.drop (j+1)):=by
     rw [← List.drop_drop,hL2]; simp only [ints,List.map_drop,List.drop_drop]
    have e2:=YR hlt (by omega)
    have e3:=YR (i:=q.length) (n:=c.length) (by omega) (by omega)
    simp -implicitDefEqProofs (disch:=omega) only [go_sem,↓reduceIte,reduceCtorEq,rq,List.getElem?_concat_length,f0,f1,f6,hlt,hD,hL]
    refine CV.use 1000 (hp w L t' n (List.mem_of_getElem? hnj)) fun v σ hv=>?_
    obtain ⟨rfl,t2,ht2,rfl⟩:=hv
    cases hpn:p n with
    | true =>
      simp -implicitDefEqProofs (disch:=omega) only [go_sem,↓reduceIte,rq,f6,e2]
      refine ⟨c.length - (j+1),_,_,by omega,Shift.refl _ _ _ _,j+1,t2,L,q,?_,by omega,rfl,by omega,hL,hL1,hdn,by omega,?_⟩
      ·rw [Qp hnj,List.filter_append,← hq]; simp [hpn]
      ·simp -implicitDefEqProofs (disch:=omega) only [go_sem,↓reduceIte,reduceCtorEq,rq,f0,f1,f5]
    | false =>
      simp -implicitDefEqProofs (disch:=omega) only [go_sem,↓reduceIte,reduceCtorEq,rq,List.getElem?_concat_length,QdS,f0,f5,f6,hL]
      have hql:q.length<L.length:=by omega
      have hset:L.take q.length++[V.int .i64 n]++L.drop (q.length+1)=L.set q.length (.int .i64 n):=by rw [List.set_eq_take_append_cons_drop,if_pos hql]; simp
      refine ⟨c.length - (j+1),_,_,by omega,Shift.refl _ _ _ _,j+1,t2,L.set q.length (.int .i64 n),q++[n],?_,by omega,rfl,?_,?_,?_,?_,by omega,?_⟩
      ·rw [Qp hnj,List.filter_append,← hq]; simp [hpn]
      ·simp; omega
      ·simpa using hL
      ·rw [lAq,List.length_singleton,Qp (x:=V.int .i64 n) (by simp [hql]),List.take_set_of_le (lR _),hL1]; simp [ints]
      ·rw [List.drop_set_of_lt (by omega)]; exact hdn
      ·simp -implicitDefEqProofs (disch:=omega) only [go_sem,↓reduceIte,reduceCtorEq,rq,f0,f1,e2,e3,lAq,List.length_singleton,hset]
   ·have hi:j=c.length:=by omega
    subst hi
    simp -implicitDefEqProofs (disch:=omega) only [go_sem,↓reduceIte,reduceCtorEq,rq,f0,f1,f5,f6,Nat.lt_irrefl]
    rw [List.take_length] at hq
    exact ⟨t',L,q,hq,ht,hij,hL,hL1,rfl,rfl,rfl⟩
  ·obtain ⟨t',L,q,hq,ht,rfl,hlt,hL,hL1,f0,f1,f5,rfl⟩:=hE
   refine Qc 1000 ?_
   simp -implicitDefEqProofs (disch:=omega) only [go_sem,↓reduceIte,rq,f0,f5]
   simp only [evW]
   simp -implicitDefEqProofs (disch:=omega) only [go_sem,↓reduceIte,reduceCtorEq,rq,List.getElem?_concat_length,QdS,f0,f5,hL]
   have hrep:(List.replicate (c.length - q.length) [V.int .i64 0]).flatten=ints (List.replicate (c.length - q.length) 0):=by
    generalize c.length - q.length=k
    induction k with
    | zero=>rfl
    | succ k ih=>rw [List.replicate_succ,List.flatten_cons,ih,List.replicate_succ]; rfl
   have hdr:L.drop (q.length+(ints (List.replicate (c.length - q.length) 0)).length)=[]:=List.drop_eq_nil_of_le (by rw [Qe,List.length_replicate]; omega)
   exact ⟨t',ints (List.replicate (c.length - q.length) 0),ht,QQ _,by rw [← hq]; rfl,rfl,by rw [hL1,← hq,hrep,hdr,List.append_nil]⟩
end
section
attribute [local go_sem] aZ lR Nat.mul_one zA YI QxX QxW Yy Qrn Qrm ge_iff_le Qt Qv Qq0 QqZ
variable {cs:List V} {lim:Option Nat} {c:List Int} {p:Int→Bool} {o:List (Option Ob)} {base t k w T:Nat}
theorem Qih (hT:Qn P tab) {f:V} (hp:QdN P G base f o p c) (hl:c.length≤9223372036854775807) (ho:o[k]?=some (some (.arr w T (ints c++cs)))) :
 C P G base Xv [.sl k w 0 1 c.length lim,f] ⟨t,o⟩ fun v σ=>v=.bool (c.any p)∧∃ t',t≤t'∧σ=⟨t',o⟩:=by
 refine QM hT Q3 (by simp [Qv]) (Qx 1000 ?_)
 simp -implicitDefEqProofs (disch:=omega) only [go_sem,↓reduceIte,reduceCtorEq,rq]
 refine call hT QS (QgI hT hp hl ho) 1000 fun v σ hv=>?_
 obtain ⟨rfl,t',ht,rfl⟩:=hv
 simp -implicitDefEqProofs (disch:=omega) only [go_sem,↓reduceIte,reduceCtorEq,rq]
 rw [Qf6]
 exact ⟨rfl,t',ht,rfl⟩
theorem c_allS (hT:Qn P tab) {g:Nat} {cap:List V} (hb:base≤o.length) (hp:∀ ex,QdN P G base (.fn (.func g) [] cap) (o++ex) p c) (hl:c.length≤9223372036854775807) (ho:o[k]?=some (some (.arr w T (ints c++cs)))) :
 C P G base Qah [.sl k w 0 1 c.length lim,.fn (.func g) [] cap] ⟨t,o⟩ fun v σ=>v=.bool (c.all p)∧∃ t',t≤t'∧σ=⟨t',o⟩:=by
 refine Xa o.length hb (QM hT QcN (by simp [Yy]) (Qx 1000 ?_))
 simp -implicitDefEqProofs (disch:=omega) only [go_sem,↓reduceIte,reduceCtorEq,rq]
 have hn:=c_not (P:=P) (G:=G) (base:=base) (k:=o.length) (tb:=t) (T:=86) hT (by simp) (hp [some (.arr t 86 [.fn (.func g) [] cap])])
 refine call hT Q3 (Qih hT hn hl (QmC ho)) 1000 fun v σ hv=>?_
 obtain ⟨rfl,t',ht,rfl⟩:=hv
 simp -implicitDefEqProofs (disch:=omega) only [go_sem,↓reduceIte,reduceCtorEq,rq]
 exact ⟨by simp,by rw [List.all_eq_not_any_not],t',by omega,rfl,by simp⟩
theorem Qf1 (hT:Qn P tab) {kb tb T2:Nat} {a:Int} {l:List Int} (h1:o[kb]?=some (some (.arr tb T [.sl k w 0 1 (l.length+1) lim]))) (h2:o[k]?=some (some (.arr w T2 (ints (a::l)++cs)))) :
 QdN P G base (.fn (.func ZT) [] [.ptr kb tb 0]) o (fun n=>n==a) c:=fun t n hn=>by
 refine CV.of hT QbP (QM hT QbP (by simp [YI]) (Qx 1000 ?_))
 have hD:=QaQ (c:=a::l) (i:=0) cs rfl
 simp -implicitDefEqProofs (disch:=omega) only [go_sem,↓reduceIte,reduceCtorEq,rq,Int.reduceToNat,Int.reduceLE,h1,h2,hD,lAq,Qe,lC]
 exact ⟨t,lR _,rfl⟩
end
section
attribute [local go_sem] nFq nT aZ lR Nat.mul_one zA zL Z9 zqf_0 zqf_1 Qpz Qpy Qpx Qpw Qpv Qpu Qpt Qps Qpr Qvm zqf_2 Qvl zqf_3 zqf_4 zqf_5 zqf_6 zqf_7 zqf_8 QzF decide_false decide_true Qt
def SortU (P:Program) (G:Nat→Option V):Prop:=∀ (base k v t:Nat) (o:List (Option Ob)) (zs:List Int),base≤k→o[k]?=some (some (.arr v 3 (ints zs)))→Once zs→(∀ n∈zs,-16777216≤n∧n≤16777216)→zs.length≤1000000 →
 C P G base X0 [.sl k v 0 1 zs.length none,.fn (.func QbX) [] []] ⟨t,o⟩ fun r σ'=>r=.tup []∧∃ t',t≤t'∧σ'=⟨t',o.set k (some (.arr v 3 (ints (Qbb zs))))⟩
def uH (tf tm tb tw:Nat) (v:Int) (F:List (List Int)) (S:List Int):List (Option Ob) :=
 [some (.arr tf 24 [.int .i64 v,.lst 1 (F.map row) false]),some (.map tm (kn S)),some (.arr tb 84 [.mp 1 tm]),some (.arr tw 3 (ints S))]
theorem Qjm (n:Int):∀ l:List Int,(ins n l).length=l.length+1
 | []=>rfl
 | a::l=>by unfold ins; split <;> simp [Qjm n l]
theorem Z3:∀ l:List Int,(Qbb l).length=l.length
 | []=>rfl
 | a::l=>by simp [Qbb,Qjm,Z3 l]
theorem Qdq (S:List Int):∀ (A B:List (List Int)),Qag S (A++B)=(Qag S A).bind fun S=>Qag S B
 | [],B=>rfl
 | c::A,B=>by
   simp only [cAq,Qag]
   cases Qbz S c with
   | none=>rfl
   | some S1=>simp only [Option.bind_some]; exact Qdq S1 A B
variable {i:Nat} {F:List (List Int)} {S S1 c:List Int}
theorem QbV (hi:F[i]?=some c) (h:Qag S (F.take i)=some S1):Qag S (F.take (i+1))=Qbz S1 c:=by
 rw [Qp hi,Qdq,h,Option.bind_some]
 simp only [Qag]
 cases Qbz S1 c <;> rfl
theorem Qje (hi:F[i]?=some c) (h:Qag S (F.take i)=some S1) (hs:Qbz S1 c=none):Qag S F=none:=by
 have:=Qdq S (F.take (i+1)) (F.drop (i+1))
 rw [List.take_append_drop,QbV hi h,hs] at this
 exact this
theorem Qmk (S c:List Int):(c.any (fun n=>decide (n∈S))=true∧Qbz S c=some S)∨(c.any (fun n=>decide (n∈S))=false∧c.filter (fun n=>!decide (-n∈S))=[]∧Qbz S c=none) ∨
 (c.any (fun n=>decide (n∈S))=false∧∃ a l,c.filter (fun n=>!decide (-n∈S))=a::l∧a∈c∧a ∉ S∧l.length+1≤c.length∧(((a::l).all (fun n=>n==a)=true∧Qbz S c=some (S++[a]))∨((a::l).all (fun n=>n==a)=false∧Qbz S c=some S))):=by
 cases hany:c.any (fun n=>decide (n∈S)) with
 | true=>exact .inl ⟨rfl,if_pos hany⟩
 | false =>
   have hst:Qbz S c=match c.filter (fun n=>!decide (-n∈S)) with
    | []=>none
    | a::l=>if l.all fun n=>decide (n=a) then some (S++[a]) else some S:=if_neg (by simp [hany])
   refine .inr ?_
   generalize hlf:c.filter (fun n=>!decide (-n∈S))=left at hst
   cases left with
   | nil=>exact .inl ⟨rfl,rfl,hst⟩
   | cons a l =>
     refine .inr ⟨rfl,a,l,rfl,?_,?_,?_,?_⟩
     ·have:a∈c.filter (fun n=>!decide (-n∈S)):=by rw [hlf]; simp
      exact (List.mem_filter.1 this).1
     ·intro h
      have:a∈c.filter (fun n=>!decide (-n∈S)):=by rw [hlf]; simp
      have:=List.any_eq_false.1 hany a (List.mem_filter.1 this).1
      simp [h] at this
     ·have:=List.length_filter_le (fun n=>!decide (-n∈S)) c
      rw [hlf,lC] at this; omega
     ·have hal:(a::l).all (fun n=>n==a)=l.all fun n=>decide (n=a):=by simp [List.all_cons]; rfl
      rw [hal]
      simp only at hst
      cases hall:l.all fun n=>decide (n=a) with
      | false=>rw [hall] at hst; exact .inr ⟨rfl,hst⟩
      | true=>rw [hall,if_pos rfl] at hst; exact .inl ⟨rfl,hst⟩
theorem Qhe {k:Nat} (h:∀ c∈F,c.length≤k):F.flatten.length≤F.length * k:=by
 induction F with
 | nil=>simp
 | cons c F ih =>
   have h1:=h c (by simp)
   have h2:=ih fun d hd=>h d (by simp [hd])
   rw [List.flatten_cons,lAq,lC,Nat.succ_mul]
   omega
abbrev uJ (v:Int) (F:List (List Int)) (S:List Int) (tf tb:Nat):Nat→Fr→H→Prop:=fun m fr σ=>∃ (i:Nat) (S1:List Int) (t' tm tw:Nat),i≤F.length∧m=F.length - i∧Qag S (F.take i)=some S1∧Inv F S1∧S.length≤S1.length∧Qi fr 1=.ptr 0 tf 0∧Qi fr 4=.ptr 2 tb 0∧Qi fr 5=.sl 3 tw 0 1 S1.length none∧Qi fr 6=.int .i64 S.length∧Qi fr 21=.lst 1 (F.map row) false∧Qi fr 22=.int .i64 F.length∧Qi fr 23=.int .i64 i∧σ=⟨t',uH tf tm tb tw v F S1⟩
abbrev uE (v:Int) (F:List (List Int)) (S:List Int) (tf tb:Nat):AE→Fr→H→Prop:=fun e fr σ=>(e=.ret∧Qag S F=none∧Qi fr 2=.lst 0 [] true∧Qi fr 3=.bool false)∨(∃ (S1:List Int) (t' tm tw:Nat),e=.ex 2∧Qag S F=some S1∧Inv F S1∧S.length≤S1.length∧Qi fr 1=.ptr 0 tf 0∧Qi fr 4=.ptr 2 tb 0∧Qi fr 5=.sl 3 tw 0 1 S1.length none∧Qi fr 6=.int .i64 S.length∧σ=⟨t',uH tf tm tb tw v F S1⟩)
set_option maxHeartbeats 1000000 in
theorem QAd (hT:Qn P tab) {v:Int} (hF:F.length≤1000) (hc:∀ c∈F,c.length≤1000) (hz:Nz F) (hrt:∀ c∈F,∀ n∈c,-16777216≤n∧n≤16777216) {tf tb m:Nat} {fr:Fr} {σ:H} (hJ:uJ v F S tf tb m fr σ) :
 W P G 56 0 (zg QzF [] (.seq (zw 24 .skip (.exit 2)) (.seq (.block 3 (zg Qpz [25,26] (.seq (zg Qpy [27,28] (zw 29 (.exit 3) .skip)) (zg Qpx [30,31,32,33] (.block 4 (zg Qpw [35,36,37] (zw 34 (zg Qpv [] .ret) (zg Qpu [39,40,41] (zw 38 (zg Qpt [42,43,44,45] (.reg Qps [46,47,48,49,50,51])) .skip))))))))) (.reg Qpr [52])))) fr σ (ZB (fun fr σ=>∃ m' fr' σ',m'<m∧Shift G 56 0 fr σ fr' σ'∧uJ v F S tf tb m' fr' σ') (uE v F S tf tb)):=by
 obtain ⟨i,S1,t',tm,tw,hi,rfl,hp,hI1,hl1,f1,f4,f5,f6,f21,f22,f23,rfl⟩:=hJ
 have hSl:S1.length≤1000000:=by
  have h1:=hI1.len
  have h2:=Qhe hc
  have h3:F.length * 1000≤1000 * 1000:=Nat.mul_le_mul_right _ hF
  omega
 rcases Nat.lt_or_ge i F.length with hlt | hge
 ·obtain ⟨c,hci⟩:∃ c,F[i]?=some c:=⟨_,List.getElem?_eq_getElem hlt⟩
  have hD:=QbT hci
  have hcm:=List.mem_of_getElem? hci
  have e2:=YR hlt (by omega)
  have hcl:=hc c hcm
  have hb64:∀ n∈c,-9223372036854775808≤n∧n≤9223372036854775807:=fun n hn=>by have:=hrt c hcm n hn; omega
  have hps:=QbV hci hp
  have hneg2:c.filter (fun n=>!decide (neg n∈S1))=c.filter (fun n=>!decide (-n∈S1)):=by
   refine List.filter_congr fun n hn=>?_
   have hne:n≠mn:=by have:=hrt c hcm n hn; unfold mn; omega
   rw [QhP hne]
  have hsome:=fun t=>Qof (P:=P) (G:=G) (base:=0) (t:=t) hT (Qf3 (c:=c) hT (kb:=2) (tb:=tb) (T:=84) (km:=1) (vm:=tm) (S:=S1) (o:=[some (.arr tf 24 [.int .i64 v,.lst 1 (F.map row) false]),some (.map tm (kn S1)),some (.arr tb 84 [.mp 1 tm]),some (.arr tw 3 (ints S1))]) rfl rfl) (by omega)
  have hdel:=fun t w=>QdF (P:=P) (G:=G) (base:=0) (t:=t) (w:=w) hT (o:=[some (.arr tf 24 [.int .i64 v,.lst 1 (F.map row) false]),some (.map tm (kn S1)),some (.arr tb 84 [.mp 1 tm]),some (.arr tw 3 (ints S1))]) (zL _) (fun w' cells=>Qf2 (c:=c) hT (kb:=2) (km:=1) (S:=S1) hb64 rfl rfl) (by omega)
  rw [hneg2] at hdel
  rcases Qmk S1 c with ⟨hany,hst⟩ | ⟨hany,hlf,hst⟩ | ⟨hany,a,l,hlf,hac,haS,hlen,hall⟩
  ·refine Qh [(1,.ptr 0 tf 0),(4,.ptr 2 tb 0),(5,.sl 3 tw 0 1 S1.length none),(6,.int .i64 S.length),(21,.lst 1 (F.map row) false),(22,.int .i64 F.length),(23,.int .i64 i)] ⟨f1,f4,f5,f6,f21,f22,f23,trivial⟩  1000 ?_
   simp -implicitDefEqProofs (disch:=omega) only [go_sem,↓reduceIte,rq,uH,lM,lC,lN,hlt,hD]
   refine call hT Q7 (hsome _) 1000 fun u σ hu=>?_
   obtain ⟨rfl,t1,ht1,rfl⟩:=hu
   rw [hany]
   simp -implicitDefEqProofs (disch:=omega) only [go_sem,↓reduceIte,rq]
   refine ⟨F.length - (i+1),_,_,by omega,Shift.refl _ _ _ _,i+1,S1,t1,tm,tw,by omega,rfl,by rw [hps,hst],hI1,hl1,?_⟩
   simp -implicitDefEqProofs (disch:=omega) only [go_sem,↓reduceIte,rq,uH,e2]
  ·refine Qh [(1,.ptr 0 tf 0),(4,.ptr 2 tb 0),(5,.sl 3 tw 0 1 S1.length none),(6,.int .i64 S.length),(21,.lst 1 (F.map row) false),(22,.int .i64 F.length),(23,.int .i64 i)] ⟨f1,f4,f5,f6,f21,f22,f23,trivial⟩  1000 ?_
   simp -implicitDefEqProofs (disch:=omega) only [go_sem,↓reduceIte,rq,uH,lM,lC,lN,hlt,hD]
   refine call hT Q7 (hsome _) 1000 fun u σ hu=>?_
   obtain ⟨rfl,t1,ht1,rfl⟩:=hu
   rw [hany]
   simp -implicitDefEqProofs (disch:=omega) only [go_sem,↓reduceIte,rq]
   refine call hT QY (Qij hT c (by omega)) 1000 fun u σ hu=>?_
   obtain ⟨t2,w,ht2,rfl,rfl⟩:=hu
   simp -implicitDefEqProofs (disch:=omega) only [go_sem,↓reduceIte,rA,rq,lC,lN]
   refine call hT QK (hdel _ _) 1000 fun u σ hu=>?_
   obtain ⟨t3,cells,ht3,_,rfl,rfl⟩:=hu
   rw [hlf]
   simp -implicitDefEqProofs (disch:=omega) only [go_sem,↓reduceIte,reduceCtorEq,rA,rq,uH,lC,lN,cAq,nAq,uE]
   exact ⟨fun _=>.inl (Qje hci hp hst),fun h=>absurd rfl h⟩
  ·have hallS:∀ (t t3 w:Nat) (cells:List V),C P G 0 Qah [.sl 4 w 0 1 (l.length+1) none,.fn (.func ZT) [] [.ptr 5 t3 0]] ⟨t,[some (.arr tf 24 [.int .i64 v,.lst 1 (F.map row) false]),some (.map tm (kn S1)),some (.arr tb 84 [.mp 1 tm]),some (.arr tw 3 (ints S1)),some (.arr w 3 (ints (a::l)++cells)),some (.arr t3 41 [.sl 4 w 0 1 (l.length+1) none])]⟩ fun u σ=>u=.bool ((a::l).all (fun n=>n==a))∧∃ t',t≤t'∧σ=⟨t',[some (.arr tf 24 [.int .i64 v,.lst 1 (F.map row) false]),some (.map tm (kn S1)),some (.arr tb 84 [.mp 1 tm]),some (.arr tw 3 (ints S1)),some (.arr w 3 (ints (a::l)++cells)),some (.arr t3 41 [.sl 4 w 0 1 (l.length+1) none])]⟩:=fun t t3 w cells=>c_allS (P:=P) (G:=G) (base:=0) (t:=t) hT (c:=a::l) (k:=4) (w:=w) (T:=3) (cs:=cells) (lim:=none) (o:=[some (.arr tf 24 [.int .i64 v,.lst 1 (F.map row) false]),some (.map tm (kn S1)),some (.arr tb 84 [.mp 1 tm]),some (.arr tw 3 (ints S1)),some (.arr w 3 (ints (a::l)++cells)),some (.arr t3 41 [.sl 4 w 0 1 (l.length+1) none])]) (zL _) (fun ex=>Qf1 hT (kb:=5) (k:=4) (w:=w) (cs:=cells) (QmC rfl) (QmC rfl)) (by rw [lC]; omega) rfl
   have hne0:¬ (((l.length+1:Nat):Int)=0):=by omega
   refine Qh [(1,.ptr 0 tf 0),(4,.ptr 2 tb 0),(5,.sl 3 tw 0 1 S1.length none),(6,.int .i64 S.length),(21,.lst 1 (F.map row) false),(22,.int .i64 F.length),(23,.int .i64 i)] ⟨f1,f4,f5,f6,f21,f22,f23,trivial⟩  1000 ?_
   simp -implicitDefEqProofs (disch:=omega) only [go_sem,↓reduceIte,rq,uH,lM,lC,lN,hlt,hD]
   refine call hT Q7 (hsome _) 1000 fun u σ hu=>?_
   obtain ⟨rfl,t1,ht1,rfl⟩:=hu
   rw [hany]
   simp -implicitDefEqProofs (disch:=omega) only [go_sem,↓reduceIte,rq]
   refine call hT QY (Qij hT c (by omega)) 1000 fun u σ hu=>?_
   obtain ⟨t2,w,ht2,rfl,rfl⟩:=hu
   simp -implicitDefEqProofs (disch:=omega) only [go_sem,↓reduceIte,rA,rq,lC,lN]
   refine call hT QK (hdel _ _) 1000 fun u σ hu=>?_
   obtain ⟨t3,cells,ht3,_,rfl,rfl⟩:=hu
   rw [hlf]
   simp -implicitDefEqProofs (disch:=omega) only [go_sem,↓reduceIte,rA,rq,lC,lN,cAq,nAq,hne0,false_implies,true_implies,true_and,not_false_eq_true]
   refine call hT QcN (hallS (t3+1) t3 w cells) 1000 fun u σ hu=>?_
   obtain ⟨rfl,t4,ht4,rfl⟩:=hu
   rcases hall with ⟨hall,hst⟩ | ⟨hall,hst⟩
   ·have hD0:=QaQ (c:=a::l) (i:=0) cells rfl
    have h3:=QaY .i64 (fun _=>.int .i64 1) S1 a
    have hput:=Qmv .i64 (fun _=>.int .i64 1) a (.int .i64 1) rfl S1 haS
    rw [hall]
    simp -implicitDefEqProofs (disch:=omega) only [go_sem,↓reduceIte,reduceCtorEq,rq,rL,Int.reduceToNat,Int.reduceLE,Qe,lC,lN,hD0,lAq,kn,hput]
    have hI2:=((QhF hz hI1 hcm).2 _ hst).1
    refine ⟨F.length - (i+1),_,_,by omega,Shift.drop (o':=uH tf tm tb t4 v F (S1++[a])) (t':=t4+1) (by simp [XJ,uH,kn,ints]) (lR _) (zL _),i+1,S1++[a],t4+1,tm,t4,by omega,rfl,by rw [hps,hst],hI2,by simp; omega,?_⟩
    simp -implicitDefEqProofs (disch:=omega) only [go_sem,↓reduceIte,rq,uH,lC,lN,e2,lAq]
    try simp [ints]
   ·rw [hall]
    simp -implicitDefEqProofs (disch:=omega) only [go_sem,↓reduceIte,rq]
    refine ⟨F.length - (i+1),_,_,by omega,Shift.drop (o':=uH tf tm tb tw v F S1) (t':=t4) (by simp [XJ,uH]) (lR _) (zL _),i+1,S1,t4,tm,tw,by omega,rfl,by rw [hps,hst],hI1,hl1,?_⟩
    simp -implicitDefEqProofs (disch:=omega) only [go_sem,↓reduceIte,rq,uH,e2]
 ·have hi:i=F.length:=by omega
  subst hi
  rw [List.take_length] at hp
  refine Qh [(1,.ptr 0 tf 0),(4,.ptr 2 tb 0),(5,.sl 3 tw 0 1 S1.length none),(6,.int .i64 S.length),(21,.lst 1 (F.map row) false),(22,.int .i64 F.length),(23,.int .i64 F.length)] ⟨f1,f4,f5,f6,f21,f22,f23,trivial⟩  1000 ?_
  simp -implicitDefEqProofs (disch:=omega) only [go_sem,↓reduceIte,reduceCtorEq,rq,uH,Nat.lt_irrefl,uE]
  exact ⟨S1,t',tm,tw,hp,hI1,hl1,rfl,rfl,rfl⟩
set_option maxHeartbeats 1000000 in
theorem QmQ (hT:Qn P tab) (hs:SortU P G) (v:Int) (F:List (List Int)) (hF:F.length≤1000) (hc:∀ c∈F,c.length≤1000) :
 Pure P G Y3 [fml v F] fun u=>u=if right v F then (match YV F with | none=>.tup [row [],.bool false] | some l=>.tup [row l,.bool true]) else .tup [row [],.bool false]:=by
 intro t
 refine QfG (Q:=fun u _=>Qd u=true∧((u=.tup [.lst 0 [] true,.bool false]∧(right v F=false∨YV F=none))∨∃ l,right v F=true∧YV F=some l∧u=.tup [row l,.bool true]))
  (Y6 (Q:=fun u σ=>(u=.tup [.lst 0 [] true,.bool false]∧(right v F=false∨YV F=none))∨∃ l tw,right v F=true∧YV F=some l∧u=.tup [.sl 3 tw 0 1 l.length none,.bool true]∧σ.o[3]?=some (some (.arr tw 3 (ints l)))) ?_ fun u σ hu=>?_) fun u σ hu=>?_
 ·have hR:=QcC (P:=P) (G:=G) hT v F (by omega) (fun c h=>by have:=hc c h; omega)
  simp only [fml,rows] at hR ⊢
  refine QM hT ZY (by simp [Z9]) (Qx 1000 ?_)
  simp -implicitDefEqProofs (disch:=omega) only [go_sem,↓reduceIte,reduceCtorEq,rA,rq]
  refine Qj hT QN hR (by simp [Qb,Qd]) 1000 ?_
  cases hr:right v F with
  | false =>
    simp -implicitDefEqProofs (disch:=omega) only [go_sem,↓reduceIte,reduceCtorEq,rq]
    try simp
  | true =>
    have hrt:=(Xh.1 hr)
    have hz:=QdU hr
    simp -implicitDefEqProofs (disch:=omega) only [go_sem,↓reduceIte,reduceCtorEq,rA,rq]
    refine ⟨rfl,?_⟩
    refine Xk (Shift.own (s:=5) (z:=0) (sz:=1) (T:=3) (by simp -implicitDefEqProofs (disch:=omega) only [go_sem,↓reduceIte,reduceCtorEq,rq]) (by decide)) ?_
    simp -implicitDefEqProofs (disch:=omega) only [go_sem,↓reduceIte,reduceCtorEq,rA,rq,H.push,lC,lN,cAq,nAq]
    refine QX (fun m fr σ=>∃ (S:List Int) (n0:Int) (k t' tf tm tb tw:Nat),Inv F S∧((n0<(S.length:Int)∧m=k+1∧F.flatten.length+1≤k+S.length∧QhY F k S=Qbv F)∨(n0=(S.length:Int)∧m=0∧Qbv F=some S))∧Qi fr 1=.ptr 0 tf 0∧Qi fr 4=.ptr 2 tb 0∧Qi fr 5=.sl 3 tw 0 1 S.length none∧Qi fr 6=.int .i64 n0∧σ=⟨t',uH tf tm tb tw v F S⟩)
     (fun e fr σ=>(e=.ret∧Qbv F=none∧Qi fr 2=.lst 0 [] true∧Qi fr 3=.bool false)∨(∃ S t' tf tm tb tw,e=.ex 0∧Qbv F=some S∧Qi fr 5=.sl 3 tw 0 1 S.length none∧σ=⟨t',uH tf tm tb tw v F S⟩))
     (m0:=F.flatten.length+2) ⟨[],-1,F.flatten.length+1,t+1+1+1+1,t,t+1,t+1+1,t+1+1+1,Qj4 F,.inl ⟨by simp,rfl,by simp,rfl⟩,?_⟩ (fun m fr σ hJ=>?_) (fun e fr σ hE=>?_)
    ·simp -implicitDefEqProofs (disch:=omega) only [go_sem,↓reduceIte,reduceCtorEq,rq,uH,lN]
     rfl
    ·obtain ⟨S,n0,k,t',tf,tm,tb,tw,hI,hk,f1,f4,f5,f6,rfl⟩:=hJ
     refine Qx 1000 ?_
     rcases hk with ⟨hn0,rfl,hkl,hlu⟩ | ⟨rfl,rfl,hlu⟩
     ·simp -implicitDefEqProofs (disch:=omega) only [go_sem,↓reduceIte,rA,rq,uH,lM,lC,lN,f1,f5,f6,hn0]
      refine QX (uJ v F S tf tb) (uE v F S tf tb) (m0:=F.length) ⟨0,S,t',tm,tw,by omega,rfl,rfl,hI,lR _,?_⟩ (fun m fr σ hJ=>QAd hT hF hc hz (fun c h n hn=>by have:=hrt.2 c h n hn; omega) hJ) (fun e fr σ hE=>?_)
      ·simp -implicitDefEqProofs (disch:=omega) only [go_sem,↓reduceIte,rq,uH,f1,f4,f5]
       rfl
      ·rcases hE with ⟨rfl,hp,f2,f3⟩ | ⟨S1,t',tm,tw,rfl,hp,hI1,hl1,f1,f4,f5,f6,rfl⟩
       ·have hno:Qbv F=none:=by
         rw [← hlu]
         cases k with
         | zero=>rfl
         | succ k=>rw [QhY,hp]
        refine Qc 1000 ?_
        simp -implicitDefEqProofs (disch:=omega) only [go_sem,reduceCtorEq,f2,f3]
        exact .inl hno
       ·refine Qc 1000 ?_
        simp -implicitDefEqProofs (disch:=omega) only [go_sem,↓reduceIte,uH]
        have hk:k≠0:=by have:=hI.len; omega
        obtain ⟨k,rfl⟩:=Nat.exists_eq_succ_of_ne_zero hk
        rw [QhY,hp] at hlu
        simp only at hlu
        by_cases hlen:S1.length=S.length
        ·rw [if_pos hlen] at hlu
         refine ⟨0,_,_,by omega,Shift.refl _ _ _ _,S1,S.length,0,t',tf,tm,tb,tw,hI1,.inr ⟨by rw [hlen],rfl,hlu.symm⟩,?_⟩
         simp -implicitDefEqProofs (disch:=omega) only [go_sem,f1,f4,f5,f6]
        ·rw [if_neg hlen] at hlu
         refine ⟨k+1,_,_,by omega,Shift.refl _ _ _ _,S1,S.length,k,t',tf,tm,tb,tw,hI1,.inl ⟨by omega,rfl,by omega,hlu⟩,?_⟩
         simp -implicitDefEqProofs (disch:=omega) only [go_sem,f1,f4,f5,f6]
     ·simp -implicitDefEqProofs (disch:=omega) only [go_sem,↓reduceIte,reduceCtorEq,rq,uH,f5,f6,Int.lt_irrefl]
      exact ⟨S,t',tf,tm,tb,tw,hlu,rfl,rfl,rfl⟩
    ·rcases hE with ⟨rfl,hno,f2,f3⟩ | ⟨S,t',tf,tm,tb,tw,rfl,hSo,f5,rfl⟩
     ·refine Qc 1000 ?_
      have hu:YV F=none:=by rw [YV,hno]; rfl
      simp -implicitDefEqProofs (disch:=omega) only [go_sem,reduceCtorEq,f2,f3,hu]
      try simp
     ·obtain ⟨hI,hm⟩:=QeE hz hSo
      have hu:YV F=some (Qbb S):=by rw [YV,hSo]; rfl
      have hSl:S.length≤1000000:=by
       have h1:=hI.len
       have h2:=Qhe hc
       have h3:F.length * 1000≤1000 * 1000:=Nat.mul_le_mul_right _ hF
       omega
      refine Qc 1000 ?_
      simp -implicitDefEqProofs (disch:=omega) only [go_sem,↓reduceIte,uH,f5]
      refine call hT YX (hs 0 3 tw t' _ S (zL _) rfl hI.once (fun n hn=>by
       obtain ⟨c,hc,hnc⟩:=(hI.up n hn).in
       have:=hrt.2 c hc n hnc; omega) hSl) 1000 fun u σ hu'=>?_
      obtain ⟨rfl,t1,ht1,rfl⟩:=hu'
      simp -implicitDefEqProofs (disch:=omega) only [go_sem,↓reduceIte,reduceCtorEq,rq,f5,hu]
      exact ⟨Qbb S,tw,rfl,by rw [Z3],rfl⟩
 ·rcases hu with ⟨rfl,hu⟩ | ⟨l,tw,hr,hu,rfl,ho⟩
  ·exact .inl ⟨rfl,.inl ⟨rfl,hu⟩⟩
  ·refine .inr ⟨3,tw,3,ints l,zL _,ho,QQ l,?_,.inr ⟨l,hr,hu,?_⟩⟩
   ·simp [X3,Qix,Qd,Qb,Qe]
   ·simp [X3,Qix,Qbc,Qe,row]
    rw [← Qe l,List.take_length]
 ·rcases hu with ⟨hn,⟨rfl,hu⟩ | ⟨l,hr,hu,rfl⟩⟩
  ·refine ⟨.tup [row [],.bool false],.tup _ _ (.cons _ _ _ _ (.lst _ _ _ _ _ .nil (.inl rfl)) (.cons _ _ _ _ (.refl _) .nil)),rfl,?_⟩
   rcases hu with hu | hu
   ·rw [hu]; rfl
   ·rw [hu]; simp
  ·exact ⟨_,.refl _,hn,by rw [hr,hu]; rfl⟩
end
end Go.Proofs.YtingdebioipemaaGreatDoor
namespace Go.Cl
open Go Go.Am
set_option maxRecDepth 100000
variable {n:Int} {S c:List Int}
theorem QjP {P:List Int} (h:Srt (P++S)) (hS:∀ s∈S,av n<av s) (hP:∀ p,P.getLast?=some p→av p<av n):Srt (P++n::S):=by
 simp only [Srt,List.pairwise_append,List.pairwise_cons] at h ⊢
 refine ⟨h.1,⟨hS,h.2.1⟩,fun a ha b hb=>?_⟩
 rcases List.mem_cons.1 hb with rfl | hb
 ·cases hl:P.getLast? with
  | none=>rw [List.getLast?_eq_none_iff] at hl; subst hl; cases ha
  | some p =>
    have h1:=hP p hl
    obtain ⟨Q,rfl⟩:=List.getLast?_eq_some_iff.1 hl
    rcases List.mem_append.1 ha with ha | ha
    ·have:=(List.pairwise_append.1 h.1).2.2 a ha p (by simp); omega
    ·simp at ha; subst ha; exact h1
 ·exact h.2.2 a ha b hb
theorem Qsl {P:List Int} {m:Int}:m∈P++n::S↔m∈P++S∨m=n:=by
 simp only [List.mem_append,List.mem_cons]
 exact ⟨fun h=>h.elim (fun h=>.inl (.inl h)) fun h=>h.elim .inr fun h=>.inl (.inr h),fun h=>h.elim (fun h=>h.elim .inl fun h=>.inr (.inr h)) fun h=>.inr (.inl h)⟩
theorem QbV {S:List Int}:∀ {F:List (List Int)} {c:List Int},Qag S (F++[c])=(Qag S F).bind fun S=>Qbz S c
 | [],c=>by simp [Qag]
 | d::F,c=>by
   simp only [cAq,Qag,Option.bind_assoc]
   congr 1
   funext S'
   exact QbV
def Zu (S:List Int) (c:List Int):List Int:=c.foldl (fun l n=>if -n ∉ S∧n ∉ S∧n ∉ l then l++[n] else l) []
theorem QfZ:Zu S (c++[n])=if -n ∉ S∧n ∉ S∧n ∉ Zu S c then Zu S c++[n] else Zu S c:=by
 rw [Zu,List.foldl_append]; rfl
theorem Qr2 {α:Type} {p:List α→Prop} (h0:p []) (h1:∀ l a,p l→p (l++[a])) (l:List α):p l:=by
 rw [← List.reverse_reverse l]
 induction l.reverse with
 | nil=>exact h0
 | cons a l ih=>rw [List.reverse_cons]; exact h1 _ _ ih
theorem Qla (c:List Int):∀ x,x∈Zu S c↔x∈c∧-x ∉ S∧x ∉ S:=by
 refine Qr2 (p:=fun c=>∀ x,x∈Zu S c↔x∈c∧-x ∉ S∧x ∉ S) (by simp [Zu]) (fun c n ih x=>?_) c
 rw [QfZ]
 split
 ·rename_i h
  simp only [List.mem_append,List.mem_singleton,ih]
  constructor
  ·rintro (⟨h1,h2⟩ | rfl)
   ·exact ⟨.inl h1,h2⟩
   ·exact ⟨.inr rfl,h.1,h.2.1⟩
  ·rintro ⟨h1 | rfl,h2⟩
   ·exact .inl ⟨h1,h2⟩
   ·exact .inr rfl
 ·rename_i h
  rw [ih,List.mem_append,List.mem_singleton]
  refine ⟨fun ⟨a,b⟩=>⟨.inl a,b⟩,fun ⟨a,b⟩=>⟨a.elim id fun e=>?_,b⟩⟩
  subst e
  by_cases hx:x∈Zu S c
  ·exact ((ih x).1 hx).1
  ·exact absurd ⟨b.1,b.2,hx⟩ h
theorem Qh0 (c:List Int):(Zu S c).Nodup:=by
 refine Qr2 (p:=fun c=>(Zu S c).Nodup) (by simp [Zu]) (fun c n ih=>?_) c
 rw [QfZ]
 split
 ·rename_i h
  refine List.nodup_append.2 ⟨ih,by simp,fun a ha b hb e=>?_⟩
  simp at hb; subst hb; subst e; exact h.2.2 ha
 ·exact ih
theorem Qlb (c:List Int):(Zu S c).length≤c.length:=QhO (Qh0 c) fun x hx=>((Qla c x).1 hx).1
theorem QoB:Qbz S c=if c.any (fun n=>decide (n∈S)) then some S else if (Zu S c).length=0 then none else if (Zu S c).length=1 then some (S++[(Zu S c).getD 0 0]) else some S:=by
 cases hany:c.any fun n=>decide (n∈S) with
 | true=>rw [Qbz,if_pos hany,if_pos rfl]
 | false =>
   have hS:∀ n∈c,n ∉ S:=fun n hn h=>by
    have:=List.any_eq_false.1 hany n hn
    simp [h] at this
   have hst:Qbz S c=match c.filter (fun n=>!decide (-n∈S)) with
    | []=>none
    | a::l=>if l.all fun n=>decide (n=a) then some (S++[a]) else some S:=if_neg (by simp [hany])
   have hmf:∀ x,x∈c.filter (fun n=>!decide (-n∈S))↔x∈Zu S c:=fun x=>by
    rw [Qla,List.mem_filter]
    simp only [Bool.not_eq_true',decide_eq_false_iff_not]
    exact ⟨fun ⟨a,b⟩=>⟨a,b,hS x a⟩,fun ⟨a,b,_⟩=>⟨a,b⟩⟩
   rw [hst,if_neg (by simp)]
   have hnd:=Qh0 (S:=S) c
   cases hf:c.filter (fun n=>!decide (-n∈S)) with
   | nil =>
     have:Zu S c=[]:=List.eq_nil_iff_forall_not_mem.2 fun x hx=>by rw [← hmf,hf] at hx; cases hx
     rw [this]; rfl
   | cons a l =>
     rw [hf] at hmf
     have ha:a∈Zu S c:=(hmf a).1 (by simp)
     have h0:(Zu S c).length≠0:=fun e=>by rw [List.length_eq_zero_iff.1 e] at ha; cases ha
     rw [if_neg h0]
     cases hall:l.all fun n=>decide (n=a) with
     | true =>
       have h1:Zu S c=[a]:=by
        have hx:∀ x∈Zu S c,x=a:=fun x hx=>by
         rcases List.mem_cons.1 ((hmf x).2 hx) with e | e
         ·exact e
         ·simpa using List.all_eq_true.1 hall x e
        cases hL:Zu S c with
        | nil=>rw [hL] at ha; cases ha
        | cons b m =>
          rw [hL] at hx hnd
          have hb:=hx b (by simp)
          subst hb
          cases m with
          | nil=>rfl
          | cons d m =>
            have:=hx d (by simp)
            subst this
            simp at hnd
       rw [h1]
       show (if (l.all fun n=>decide (n=a))=true then some (S++[a]) else some S)=_
       rw [if_pos hall]; rfl
     | false =>
       obtain ⟨b,hb,hne⟩:=List.all_eq_false.1 hall
       have hne:b≠a:=by simpa using hne
       have hbm:b∈Zu S c:=(hmf b).1 (by simp [hb])
       have h1:(Zu S c).length≠1:=fun e=>by
        obtain ⟨x,hx⟩:=List.length_eq_one_iff.1 e
        rw [hx] at ha hbm
        simp at ha hbm
        exact hne (hbm.trans ha.symm)
       rw [if_neg h1]
       show (if (l.all fun n=>decide (n=a))=true then some (S++[a]) else some S)=_
       rw [if_neg (by simp [hall])]
end Go.Cl
namespace Go.Proofs.YtingdebioipemaaGreatDoor
open Go Go.Am Go.Cl
set_option maxRecDepth 100000
variable {P:Program} {G:Nat→Option V}
section
attribute [local go_sem] lR zA zL and_true bne_self_eq_false decide_false decide_true false_implies ge_iff_le Qt not_false_eq_true XS Qxh Qxg Qxf Qxe Qxd Qxc Qxb XR QxH QxG true_and true_implies
variable {i:Nat}
theorem Qas {l:List Int} {a:Int} (h:l[i]?=some a) (hl:l.length≤9223372036854775807):i<l.length∧(ints l).getD i V.any=.int .i64 a∧IntKind.i64.wrap ((i:Int)+1)=((i+1:Nat):Int) :=
 have hlt:=(List.getElem?_eq_some_iff.1 h).1
 ⟨hlt,QaZ h,YR hlt hl⟩
theorem Zz {F:List (List Int)} {c:List Int} (h:F[i]?=some c) (hl:F.length≤9223372036854775807):i<F.length∧(F.map row).getD i V.any=.lst 1 (ints c) false∧IntKind.i64.wrap ((i:Int)+1)=((i+1:Nat):Int) :=
 have hlt:=(List.getElem?_eq_some_iff.1 h).1
 ⟨hlt,QbT h,YR hlt hl⟩
theorem QiQ (hT:Qn P tab) (l:List Int) (n:Int) (hl:l.length≤9223372036854775807):Pure P G Qaw [row l,.int .i64 n] fun u=>u=.bool (decide (n∈l)):=by
 intro t
 simp only [row]
 refine Xa 0 (zL _) (QM hT Qk (by simp [XS]) (Qx 1000 ?_))
 simp -implicitDefEqProofs (disch:=omega) only [go_sem,↓reduceIte,reduceCtorEq,rq]
 refine XZ l (fun i fr σ=>(∀ x∈l.take i,x≠n)∧Qi fr 0=.lst 1 (ints l) false∧Qi fr 1=.int .i64 n∧Qi fr 5=.int .i64 ((i:Nat):Int)∧σ=⟨t,[]⟩) (fun e fr σ=>(e=.ret∧Qi fr 4=.bool true∧n∈l)∨(e=.ex 0∧n ∉ l)) ⟨by simp,?_⟩ (fun i a ha fr σ hJ=>?_) (fun i hi fr σ hJ=>?_) (fun e fr σ hE=>?_)
 ·simp -implicitDefEqProofs (disch:=omega) only [go_sem,↓reduceIte,reduceCtorEq,rq]
  simp
 ·obtain ⟨hno,f0,f1,f5,rfl⟩:=hJ
  obtain ⟨hlt,hD,e2⟩:=Qas ha hl
  by_cases han:a=n
  ·have hm:n∈l:=han▸List.mem_of_getElem? ha
   have hb:(a==n)=true:=by simp [han]
   refine Qh [(0,.lst 1 (ints l) false),(1,.int .i64 n),(5,.int .i64 ((i:Nat):Int))] ⟨f0,f1,f5,trivial⟩  1000 ?_
   simp -implicitDefEqProofs (disch:=omega) only [go_sem,↓reduceIte,reduceCtorEq,rq,Qe,hlt,hD,hb]
   exact hm
  ·have hb:(a=n)=False:=eq_false han
   have hts:=Qp ha
   refine Qh [(0,.lst 1 (ints l) false),(1,.int .i64 n),(5,.int .i64 ((i:Nat):Int))] ⟨f0,f1,f5,trivial⟩  1000 ?_
   simp -implicitDefEqProofs (disch:=omega) only [go_sem,↓reduceIte,reduceCtorEq,rq,Qe,hlt,hD,hb]
   refine ⟨_,_,Shift.refl _ _ _ _,fun x hx=>?_,?_⟩
   ·rw [hts,List.mem_append] at hx
    rcases hx with hx | hx
    ·exact hno x hx
    ·simp at hx; subst hx; exact han
   ·simp -implicitDefEqProofs (disch:=omega) only [go_sem,↓reduceIte,reduceCtorEq,rq,e2]
 ·obtain ⟨hno,f0,f1,f5,rfl⟩:=hJ
  rw [hi,List.take_length] at hno
  refine Qh [(0,.lst 1 (ints l) false),(1,.int .i64 n),(5,.int .i64 ((i:Nat):Int))] ⟨f0,f1,f5,trivial⟩  1000 ?_
  simp -implicitDefEqProofs (disch:=omega) only [go_sem,↓reduceIte,reduceCtorEq,rq,Qe,hi,Nat.lt_irrefl]
  exact fun hm=>hno n hm rfl
 ·rcases hE with ⟨rfl,f4,hm⟩ | ⟨rfl,hm⟩
  ·refine Qc 1000 ?_
   simp -implicitDefEqProofs (disch:=omega) only [go_sem,f4,hm]
  ·refine Qc 1000 ?_
   simp -implicitDefEqProofs (disch:=omega) only [go_sem,↓reduceIte,hm]
theorem c_lit (hT:Qn P tab) (v n:Int) (hv:0≤v∧v≤16777216):Pure P G Qav [.int .i64 n,.int .i64 v] fun u=>u=.bool (YN v n):=by
 intro t
 have hneg:=wneg hv
 refine Xa 0 (zL _) (QM hT Xx (by simp [XR]) (Qx 12 ?_))
 by_cases h1:n=0
 ·have hr:YN v n=false:=by simp [YN,h1]
  simp -implicitDefEqProofs (disch:=omega) only [go_sem,↓reduceIte,reduceCtorEq,rq,h1]
  iterate 9 (try (refine Qc 2 ?_; simp -implicitDefEqProofs (disch:=omega) only [go_sem,↓reduceIte,reduceCtorEq,rq]))
  rw [← hr,h1]
 ·have h1':(n=0)=False:=eq_false h1
  by_cases h2:-v≤n
  ·have h2':decide (-v≤n)=true:=by simpa using h2
   by_cases h3:n≤v
   ·have hr:YN v n=true:=by simp [YN,h1,h2,h3]
    simp -implicitDefEqProofs (disch:=omega) only [go_sem,↓reduceIte,reduceCtorEq,rA,rq,h1',hneg]
    iterate 9 (try (refine Qc 2 ?_; simp -implicitDefEqProofs (disch:=omega) only [go_sem,↓reduceIte,reduceCtorEq,rA,rq,h2,h3]))
    rw [hr]
   ·have hr:YN v n=false:=by simp [YN,h3]
    simp -implicitDefEqProofs (disch:=omega) only [go_sem,↓reduceIte,reduceCtorEq,rA,rq,h1',hneg]
    iterate 9 (try (refine Qc 2 ?_; simp -implicitDefEqProofs (disch:=omega) only [go_sem,↓reduceIte,reduceCtorEq,rA,rq,h2,h3]))
    rw [hr]
  ·have hr:YN v n=false:=by simp [YN,h2]
   simp -implicitDefEqProofs (disch:=omega) only [go_sem,↓reduceIte,reduceCtorEq,rA,rq,h1',hneg]
   iterate 9 (try (refine Qc 2 ?_; simp -implicitDefEqProofs (disch:=omega) only [go_sem,↓reduceIte,reduceCtorEq,rA,rq,h2]))
   rw [hr]
end
end Go.Proofs.YtingdebioipemaaGreatDoor
