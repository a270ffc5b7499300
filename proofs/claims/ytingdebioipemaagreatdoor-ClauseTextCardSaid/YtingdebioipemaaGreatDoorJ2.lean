/- Contracts: rows gone through by functions handed over. -/
import Derived.Test.YtingdebioipemaaGreatDoorJ1
import Derived.Test.YtingdebioipemaaGreatDoorAmD
open Nat renaming reduceEqDiff → rq, reduceAdd → rA, reduceLeDiff → rL, reduceLT → rT, zero_add → zA, le_refl → lR, zero_le → zL, add_zero → aZ
open List renaming length_cons → lC, length_nil → lN, take_succ_cons → tS, length_append → lA, nil_append → nA, cons_append → cA, append_assoc → aA, take_nil → tN, take_zero → tZ, length_map → lM
open Bool renaming not_false → nFq, not_true → nT
namespace Go.Proofs.YtingdebioipemaaGreatDoor
open Go Go.Am Go.Cl
set_option maxRecDepth 100000
variable {P:Program} {G:Nat→Option V}
section
attribute [local go_sem] lR Nat.succ_ne_zero zA XH QrN QrM decide_false decide_true ge_iff_le Qs Qm QlW QlV Qo QlU QlT QlS QlR QlQ QlP QlO QlN
def Qdu (P:Program) (G:Nat→Option V) (base:Nat) (f:V) (o:List (Option Ob)) (p:Int→Bool) (c:List Int):Prop :=
 ∀ t n,n∈c→CV P G base f [.int .i64 n] ⟨t,o⟩ fun v σ=>v=.bool (p n)∧∃ t',t≤t'∧σ=⟨t',o⟩
def Zd (p:Int→Bool):List Int→Nat→Int
 | [],_=>-1
 | n::c,i=>if p n then i else Zd p c (i+1)
theorem Qbs {p:Int→Bool}:∀ {c:List Int} {i:Nat},(∀ n∈c,p n=false)→Zd p c i=-1
 | [],_,_=>rfl
 | n::c,i,h=>by rw [Zd,h n (by simp),if_neg (by simp),Qbs fun m hm=>h m (by simp [hm])]
theorem Qct {p:Int→Bool}:∀ {c:List Int} {i k:Nat} {n:Int},(∀ m∈c.take k,p m=false)→c[k]?=some n→p n=true→Zd p c i=((i+k:Nat):Int)
 | [],_,_,_,_,h,_=>by simp at h
 | m::c,i,0,n,_,h,hp=>by simp at h; subst h; simp [Zd,hp]
 | m::c,i,k+1,n,h,hk,hp=>by
   rw [Zd,h m (by simp),if_neg (by simp),Qct (k:=k) (fun m hm=>h m (by simp [hm])) (by simpa using hk) hp]
   congr 1; omega
theorem Qc2 {p:Int→Bool}:∀ {c:List Int} {i:Nat},decide (0≤Zd p c i)=c.any p
 | [],_=>by simp [Zd]
 | n::c,i=>by
   unfold Zd
   cases h:p n
   ·simp [h,Qc2 (c:=c)]
   ·simp [h]
theorem QB {α:Type} {l:List α} {k:Nat} {x:α} (h:l[k]?=some x):l.take (k+1)=l.take k++[x]:=by rw [List.take_add_one,h]; rfl
variable {c:List Int} {p:Int→Bool} {f:V} {o:List (Option Ob)} {base t:Nat}
theorem Qiy (hT:Qq P tab) (hp:Qdu P G base f o p c) (hl:c.length≤9223372036854775807) :
 C P G base Q0 [.lst 1 (ints c) false,f] ⟨t,o⟩ fun v σ=>v=.int .i64 (Zd p c 0)∧∃ t',t≤t'∧σ=⟨t',o⟩:=by
 refine Xf hT Qv (by simp [Qo]) (QH 1000 ?_)
 simp -implicitDefEqProofs (disch:=omega) only [go_sem,↓reduceIte,reduceCtorEq,rq,Qh]
 refine Q5 (fun m fr σ=>∃ i t',i≤c.length∧m=c.length - i∧(∀ n∈c.take i,p n=false)∧t≤t'∧Qi fr 0=.lst 1 (ints c) false∧Qi fr 1=f∧Qi fr 7=.int .i64 c.length∧Qi fr 8=.int .i64 i∧σ=⟨t',o⟩)
  (fun e fr σ=>∃ t',t≤t'∧σ=⟨t',o⟩∧((e=.ret∧Qi fr 4=.int .i64 (Zd p c 0))∨(e=.ex 0∧Zd p c 0=-1)))
  (m0:=c.length) ⟨0,t,by omega,rfl,by simp,by omega,?_⟩ (fun m fr σ hJ=>?_) (fun e fr σ hE=>?_)
 ·simp -implicitDefEqProofs (disch:=omega) only [go_sem,↓reduceIte,reduceCtorEq,rq]
  simp
 ·obtain ⟨i,t',hi,rfl,hno,ht,f0,f1,f7,f8,rfl⟩:=hJ
  refine QH 1000 ?_
  rcases Nat.lt_or_ge i c.length with hlt | hge
  ·obtain ⟨n,hni⟩:∃ n,c[i]?=some n:=⟨_,List.getElem?_eq_getElem hlt⟩
   have hD:=Z4 hni
   have e2:=X8 hlt hl
   simp -implicitDefEqProofs (disch:=omega) only [go_sem,↓reduceIte,reduceCtorEq,rq,Qh,f0,f1,f7,f8,hlt,hD]
   refine CV.use 1000 (hp t' n (List.mem_of_getElem? hni)) fun v σ hv=>?_
   obtain ⟨rfl,t2,ht2,rfl⟩:=hv
   cases hpn:p n with
   | true =>
     simp -implicitDefEqProofs (disch:=omega) only [go_sem,↓reduceIte,reduceCtorEq,rq]
     rw [Qct hno hni hpn]
     exact ⟨t2,by omega,rfl,by simp⟩
   | false =>
     simp -implicitDefEqProofs (disch:=omega) only [go_sem,↓reduceIte,rq,f8]
     refine ⟨c.length - (i+1),_,_,by omega,Shift.refl _ _ _ _,i+1,t2,by omega,rfl,fun m hm=>?_,by omega,?_⟩
     ·rw [QB hni] at hm
      simp at hm
      rcases hm with hm | rfl
      ·exact hno m hm
      ·exact hpn
     ·simp -implicitDefEqProofs (disch:=omega) only [go_sem,↓reduceIte,reduceCtorEq,rq,f0,f1,f7,e2]
  ·have hi:i=c.length:=by omega
   subst hi
   simp -implicitDefEqProofs (disch:=omega) only [go_sem,↓reduceIte,reduceCtorEq,rq,f7,f8,Nat.lt_irrefl]
   rw [List.take_length] at hno
   exact ⟨t',ht,rfl,Qbs hno⟩
 ·obtain ⟨t',ht,rfl,hE⟩:=hE
  rcases hE with ⟨rfl,f4⟩ | ⟨rfl,hh⟩
  ·refine Qe 1000 ?_
   simp -implicitDefEqProofs (disch:=omega) only [go_sem,f4]
   exact ⟨t',ht,rfl⟩
  ·refine Qe 1000 ?_
   simp -implicitDefEqProofs (disch:=omega) only [go_sem,↓reduceIte,hh]
   exact ⟨t',ht,rfl⟩
theorem Qfl (hT:Qq P tab) (hp:Qdu P G base f o p c) (hl:c.length≤9223372036854775807) :
 C P G base QQ [.lst 1 (ints c) false,f] ⟨t,o⟩ fun v σ=>v=.bool (c.any p)∧∃ t',t≤t'∧σ=⟨t',o⟩:=by
 refine Xf hT Qz (by simp [Qm]) (QH 1000 ?_)
 simp -implicitDefEqProofs (disch:=omega) only [go_sem,↓reduceIte,reduceCtorEq,rq]
 refine call hT Qv (Qiy hT hp hl) 1000 fun v σ hv=>?_
 obtain ⟨rfl,t',ht,rfl⟩:=hv
 simp -implicitDefEqProofs (disch:=omega) only [go_sem,↓reduceIte,reduceCtorEq,rq]
 rw [Qc2]
 exact ⟨rfl,t',ht,rfl⟩
theorem c_some (hT:Qq P tab) (hp:Qdu P G base f o p c) (hl:c.length≤9223372036854775807) :
 C P G base ZW [.lst 1 (ints c) false,f] ⟨t,o⟩ fun v σ=>v=.bool (c.any p)∧∃ t',t≤t'∧σ=⟨t',o⟩:=by
 refine Xf hT XN (by simp [XH]) (QH 1000 ?_)
 simp -implicitDefEqProofs (disch:=omega) only [go_sem,↓reduceIte,reduceCtorEq,rq]
 refine call hT Qz (Qfl hT hp hl) 1000 fun v σ hv=>?_
 obtain ⟨rfl,t',ht,rfl⟩:=hv
 simp -implicitDefEqProofs (disch:=omega) only [go_sem,↓reduceIte,reduceCtorEq,rq]
 exact ⟨t',ht,rfl⟩
end
section
attribute [local go_sem] nFq lR zA XK QrL QrK XJ Qrz Qry Xx Xe QqR QqQ Qmj Qmi gt_iff_lt Qs QS zqk_0 zqk_1 zqk_2 zqk_3
variable {k base tb T kb km vm:Nat} {o:List (Option Ob)}
theorem Qil {ex:List (Option Ob)} {x:Option Ob} (h:o[k]?=some x):(o++ex)[k]?=some x:=by
 have:=(List.getElem?_eq_some_iff.1 h).1
 rw [List.getElem?_append_left this]; exact h
variable {c S:List Int}
theorem c_not (hT:Qq P tab) {f:V} {p:Int→Bool} (ho:o[k]?=some (some (.arr tb T [f]))) (hp:Qdu P G base f o p c) :
 Qdu P G base (.fn (.func Y0) [] [.ptr k tb 0]) o (fun n=>!p n) c:=fun t n hn=>by
 refine CV.of hT YW (Xf hT YW (by simp [Xe]) (QH 1000 ?_))
 simp -implicitDefEqProofs (disch:=omega) only [go_sem,↓reduceIte,reduceCtorEq,rq,ho]
 refine CV.use 1000 (hp t n hn) fun v σ hv=>?_
 obtain ⟨rfl,t',ht,rfl⟩:=hv
 simp -implicitDefEqProofs (disch:=omega) only [go_sem,↓reduceIte,reduceCtorEq,rq]
 exact ⟨t',ht,rfl⟩
theorem Qgz (hT:Qq P tab) {t:Nat} (c:List Int) (hl:c.length≤1000000) :
 C P G base Yl [.lst 1 (ints c) false] ⟨t,o⟩ fun v σ=>∃ t' w,t≤t'∧v=.sl o.length w 0 1 c.length none∧σ=⟨t',o++[some (.arr w 3 (ints c))]⟩:=by
 refine C_own 1 3 (Q:=fun v σ=>(v=.sl o.length t 0 1 c.length none∧σ=⟨t+1,o++[some (.arr t 3 (ints c))]⟩)∨(c=[]∧v=.lst 0 [] true∧σ=⟨t,o⟩)) ?_ fun v σ hv=>?_
 ·refine Xf hT QJ (by simp [QS]) (QH 1000 ?_)
  have hfl:((ints c).map V.cells).flatten=ints c:=by
   clear hl
   induction c with
   | nil=>rfl
   | cons n c ih=>simp only [ints,List.map_cons,List.flatten_cons] at ih ⊢; rw [ih]; rfl
  simp -implicitDefEqProofs (disch:=omega) only [go_sem,↓reduceIte,reduceCtorEq,rq,hfl,Qh]
  cases c with
  | nil=>exact rfl
  | cons n c=>exact trivial
 ·rcases hv with ⟨rfl,rfl⟩ | ⟨rfl,rfl,rfl⟩
  ·exact .inl ⟨_,_,by omega,rfl,rfl⟩
  ·exact .inr ⟨0,rfl,_,_,Nat.le_succ _,rfl,rfl⟩
def kn (S:List Int):List (V × V):=im .i64 (fun _=>.int .i64 1) S
theorem Qr4 (S:List Int) (n:Int):(Qn0 [Kd.i] (V.int .i64 n) (im .i64 (fun _=>V.int .i64 1) S)).getD (V.int .i64 0)=.int .i64 (if n∈S then 1 else 0):=by
 rw [QmY]; split <;> rfl
theorem Qr3 (b:Prop) [Decidable b]:decide ((0:Int)<if b then 1 else 0)=decide b:=by split <;> simp [*]
theorem QrS {n:Int} (h:-9223372036854775808≤n∧n≤9223372036854775807):IntKind.i64.wrap (0 - n)=neg n:=by
 unfold neg
 split
 ·rename_i e; subst e; decide
 ·rw [Xy] <;> (try omega)
  all_goals (first | (simp [IntKind.min,IntKind.signed,IntKind.bits]; omega) | (simp [IntKind.max,IntKind.signed,IntKind.bits]; omega))
theorem Qc0 (hT:Qq P tab) (h1:o[kb]?=some (some (.arr tb T [.mp km vm]))) (h2:o[km]?=some (some (.map vm (kn S)))) :
 Qdu P G base (.fn (.func ZZ) [] [.ptr kb tb 0]) o (fun n=>decide (n∈S)) c:=fun t n hn=>by
 refine CV.of hT ZV (Xf hT ZV (by simp [XK]) (QH 1000 ?_))
 have h3:=QeH .i64 (fun _=>.int .i64 1) S n
 have h4:=Qr4 S n
 simp -implicitDefEqProofs (disch:=omega) only [go_sem,↓reduceIte,reduceCtorEq,rq,h1,h2,kn,h4,Qr3]
 exact ⟨t,lR _,rfl⟩
theorem QcZ (hT:Qq P tab) (hc:∀ n∈c,-9223372036854775808≤n∧n≤9223372036854775807) (h1:o[kb]?=some (some (.arr tb T [.mp km vm]))) (h2:o[km]?=some (some (.map vm (kn S)))) :
 Qdu P G base (.fn (.func ZY) [] [.ptr kb tb 0]) o (fun n=>decide ((neg n)∈S)) c:=fun t n hn=>by
 refine CV.of hT ZU (Xf hT ZU (by simp [XJ]) (QH 1000 ?_))
 have h3:=QeH .i64 (fun _=>.int .i64 1) S (neg n)
 have h4:=Qr4 S (neg n)
 have h5:=QrS (hc n hn)
 simp -implicitDefEqProofs (disch:=omega) only [go_sem,↓reduceIte,reduceCtorEq,rq,h1,h2,kn,h4,Qr3,h5]
 exact ⟨t,lR _,rfl⟩
end
section
attribute [local go_sem] nFq nT aZ Nat.mul_one Nat.succ_ne_zero zA beq_self_eq_true decide_false decide_true Qh Qs Qx QrJ QrI Qmm Qml Qmk QrH QrG QrF QrE QrD QrC QrB QrA Qo QlU QlT QlS QlR QlQ QlP QlO QlN
variable {c:List Int}
theorem Y7 {i:Nat} {n:Int} (cs:List V) (h:c[i]?=some n):(ints c++cs).getD i V.any=.int .i64 n:=by
 have hl:=(List.getElem?_eq_some_iff.1 h).1
 rw [List.getD_eq_getElem?_getD,List.getElem?_append_left (by rw [Qh]; exact hl),Qot h]; rfl
variable {p:Int→Bool} {o:List (Option Ob)} {base t w:Nat}
theorem QdC (hT:Qq P tab) {f:V} (hp:Qdu P G base f o p c) (hl:c.length≤9223372036854775807) {k T:Nat} {lim:Option Nat} {cs:List V} (ho:o[k]?=some (some (.arr w T (ints c++cs)))) :
 C P G base Q0 [.sl k w 0 1 c.length lim,f] ⟨t,o⟩ fun v σ=>v=.int .i64 (Zd p c 0)∧∃ t',t≤t'∧σ=⟨t',o⟩:=by
 refine Xf hT Qv (by simp [Qo]) (QH 1000 ?_)
 simp -implicitDefEqProofs (disch:=omega) only [go_sem,↓reduceIte,reduceCtorEq,rq]
 refine Q5 (fun m fr σ=>∃ i t',i≤c.length∧m=c.length - i∧(∀ n∈c.take i,p n=false)∧t≤t'∧Qi fr 0=.sl k w 0 1 c.length lim∧Qi fr 1=f∧Qi fr 7=.int .i64 c.length∧Qi fr 8=.int .i64 i∧σ=⟨t',o⟩)
  (fun e fr σ=>∃ t',t≤t'∧σ=⟨t',o⟩∧((e=.ret∧Qi fr 4=.int .i64 (Zd p c 0))∨(e=.ex 0∧Zd p c 0=-1)))
  (m0:=c.length) ⟨0,t,by omega,rfl,by simp,by omega,?_⟩ (fun m fr σ hJ=>?_) (fun e fr σ hE=>?_)
 ·simp -implicitDefEqProofs (disch:=omega) only [go_sem,↓reduceIte,reduceCtorEq,rq]
  simp
 ·obtain ⟨i,t',hi,rfl,hno,ht,f0,f1,f7,f8,rfl⟩:=hJ
  refine QH 1000 ?_
  rcases Nat.lt_or_ge i c.length with hlt | hge
  ·obtain ⟨n,hni⟩:∃ n,c[i]?=some n:=⟨_,List.getElem?_eq_getElem hlt⟩
   have hD:=Y7 cs hni
   have e2:=X8 hlt hl
   simp -implicitDefEqProofs (disch:=omega) only [go_sem,↓reduceIte,reduceCtorEq,rq,ho,lA,f0,f1,f7,f8,hlt,hD]
   refine CV.use 1000 (hp t' n (List.mem_of_getElem? hni)) fun v σ hv=>?_
   obtain ⟨rfl,t2,ht2,rfl⟩:=hv
   cases hpn:p n with
   | true =>
     simp -implicitDefEqProofs (disch:=omega) only [go_sem,↓reduceIte,reduceCtorEq,rq]
     rw [Qct hno hni hpn]
     exact ⟨t2,by omega,rfl,by simp⟩
   | false =>
     simp -implicitDefEqProofs (disch:=omega) only [go_sem,↓reduceIte,rq,f8]
     refine ⟨c.length - (i+1),_,_,by omega,Shift.refl _ _ _ _,i+1,t2,by omega,rfl,fun m hm=>?_,by omega,?_⟩
     ·rw [QB hni] at hm
      simp at hm
      rcases hm with hm | rfl
      ·exact hno m hm
      ·exact hpn
     ·simp -implicitDefEqProofs (disch:=omega) only [go_sem,↓reduceIte,reduceCtorEq,rq,f0,f1,f7,e2]
  ·have hi:i=c.length:=by omega
   subst hi
   simp -implicitDefEqProofs (disch:=omega) only [go_sem,↓reduceIte,reduceCtorEq,rq,f7,f8,Nat.lt_irrefl]
   rw [List.take_length] at hno
   exact ⟨t',ht,rfl,Qbs hno⟩
 ·obtain ⟨t',ht,rfl,hE⟩:=hE
  rcases hE with ⟨rfl,f4⟩ | ⟨rfl,hh⟩
  ·refine Qe 1000 ?_
   simp -implicitDefEqProofs (disch:=omega) only [go_sem,f4]
   exact ⟨t',ht,rfl⟩
  ·refine Qe 1000 ?_
   simp -implicitDefEqProofs (disch:=omega) only [go_sem,↓reduceIte,hh]
   exact ⟨t',ht,rfl⟩
theorem Qbn {α:Type} (o:List α) (x y:α):(o++[x]).set o.length y=o++[y]:=by simp
theorem Qjo {p:Int→Bool}:∀ {c:List Int},¬ (∀ n∈c,p n=false)→∃ k n,c[k]?=some n∧p n=true∧∀ m∈c.take k,p m=false
 | [],h=>absurd (by simp) h
 | a::c,h=>by
   cases ha:p a with
   | true=>exact ⟨0,a,rfl,ha,by simp⟩
   | false =>
     obtain ⟨k,n,h1,h2,h3⟩:=Qjo (c:=c) fun hh=>h fun n hn=>by
      simp only [List.mem_cons] at hn
      rcases hn with rfl | hn
      ·exact ha
      ·exact hh n hn
     exact ⟨k+1,n,by simpa using h1,h2,fun m hm=>by
      simp only [tS,List.mem_cons] at hm
      rcases hm with rfl | hm
      ·exact ha
      ·exact h3 m hm⟩
theorem filter_all (h:∀ m∈c,p m=false):c.filter (fun n=>!p n)=c:=List.filter_eq_self.2 fun n hn=>by simp [h n hn]
theorem QdD (hT:Qq P tab) {g:Nat} {cap:List V} (hb:base≤o.length) (hp:∀ w' cells,Qdu P G base (.fn (.func g) [] cap) (o++[some (.arr w' 3 cells)]) p c) (hl:c.length≤1000000) :
 C P G base QY [.sl o.length w 0 1 c.length none,.fn (.func g) [] cap] ⟨t,o++[some (.arr w 3 (ints c))]⟩ fun v σ=>∃ t' cells,t≤t'∧Qc cells=true∧v=.sl o.length w 0 1 (c.filter fun n=>!p n).length none∧σ=⟨t',o++[some (.arr w 3 (ints (c.filter fun n=>!p n)++cells))]⟩:=by
 refine Xf hT QF (by simp [Qx]) (QH 1000 ?_)
 simp -implicitDefEqProofs (disch:=omega) only [go_sem,↓reduceIte,reduceCtorEq,rq]
 refine call hT Qv (QdC hT (hp _ _) (by omega) (k:=o.length) (w:=w) (T:=3) (cs:=[]) (by simp)) 1000 fun v σ hv=>?_
 obtain ⟨rfl,t1,ht1,rfl⟩:=hv
 by_cases hn:∀ n∈c,p n=false
 ·rw [Qbs hn]
  have hf:c.filter (fun n=>!p n)=c:=List.filter_eq_self.2 fun n h=>by simp [hn n h]
  rw [hf]
  simp -implicitDefEqProofs (disch:=omega) only [go_sem,↓reduceIte,reduceCtorEq,rq]
  exact ⟨t1,[],ht1,rfl,rfl,by simp⟩
 ·obtain ⟨k,n,hk,hpn,hno⟩:∃ k n,c[k]?=some n∧p n=true∧∀ m∈c.take k,p m=false:=Qjo hn
  have hkl:=(List.getElem?_eq_some_iff.1 hk).1
  rw [Qct hno hk hpn,zA]
  have e1:=X8 hkl (by omega)
  have hk1:((k:Int)==-1)=false:=by rw [beq_eq_false_iff_ne]; omega
  simp -implicitDefEqProofs (disch:=omega) only [go_sem,↓reduceIte,reduceCtorEq,rq,hk1,e1]
  refine Q5 (fun m fr σ=>∃ j t' L q,q=(c.take j).filter (fun n=>!p n)∧j≤c.length∧m=c.length - j∧q.length<j∧L.length=c.length∧L.take q.length=ints q∧L.drop j=ints (c.drop j)∧t≤t'∧Qi fr 0=.sl o.length w 0 1 c.length none∧Qi fr 1=.fn (.func g) [] cap∧Qi fr 5=.int .i64 q.length∧Qi fr 6=.int .i64 j∧σ=⟨t',o++[some (.arr w 3 L)]⟩)
   (fun e fr σ=>∃ t' L q,q=c.filter (fun n=>!p n)∧t≤t'∧e=.ex 0∧q.length<c.length∧L.length=c.length∧L.take q.length=ints q∧Qi fr 0=.sl o.length w 0 1 c.length none∧Qi fr 1=.fn (.func g) [] cap∧Qi fr 5=.int .i64 q.length∧σ=⟨t',o++[some (.arr w 3 L)]⟩)
   (m0:=c.length - (k+1)) ⟨k+1,t1,ints c,c.take k,?_,by omega,rfl,?_,Qh c,?_,?_,ht1,?_⟩ (fun m fr σ hJ=>?_) (fun e fr σ hE=>?_)
  ·rw [QB hk,List.filter_append,filter_all hno]
   simp [hpn]
  ·simp; omega
  ·rw [List.length_take,Nat.min_eq_left (by omega)]; simp [ints,List.map_take]
  ·simp [ints,List.map_drop]
  ·simp -implicitDefEqProofs (disch:=omega) only [go_sem,↓reduceIte,reduceCtorEq,rq,List.length_take,Nat.min_eq_left (Nat.le_of_lt hkl)]
   try simp
  ·obtain ⟨j,t',L,q,hq,hj,rfl,hij,hL,hL1,hL2,ht,f0,f1,f5,f6,rfl⟩:=hJ
   refine QH 1000 ?_
   rcases Nat.lt_or_ge j c.length with hlt | hge
   ·obtain ⟨n,hnj⟩:∃ n,c[j]?=some n:=⟨_,List.getElem?_eq_getElem hlt⟩
    have hD:L.getD j V.any=.int .i64 n:=by
     have:=congrArg (fun l=>l[0]?) hL2
     simp only [List.getElem?_drop,aZ,ints,List.map_drop,List.getElem?_map,hnj] at this
     rw [List.getD_eq_getElem?_getD,this]; rfl
    have hdn:L.drop (j+1)=ints (c.drop (j+1)):=by
     rw [← List.drop_drop,hL2]; simp only [ints,List.map_drop,List.drop_drop]
    have e2:=X8 hlt (by omega)
    have e3:=X8 (i:=q.length) (n:=c.length) (by omega) (by omega)
    simp -implicitDefEqProofs (disch:=omega) only [go_sem,↓reduceIte,reduceCtorEq,rq,List.getElem?_concat_length,f0,f1,f6,hlt,hD,hL]
    refine CV.use 1000 (hp w L t' n (List.mem_of_getElem? hnj)) fun v σ hv=>?_
    obtain ⟨rfl,t2,ht2,rfl⟩:=hv
    cases hpn:p n with
    | true =>
      simp -implicitDefEqProofs (disch:=omega) only [go_sem,↓reduceIte,rq,f6,e2]
      refine ⟨c.length - (j+1),_,_,by omega,Shift.refl _ _ _ _,j+1,t2,L,q,?_,by omega,rfl,by omega,hL,hL1,hdn,by omega,?_⟩
      ·rw [QB hnj,List.filter_append,← hq]; simp [hpn]
      ·simp -implicitDefEqProofs (disch:=omega) only [go_sem,↓reduceIte,reduceCtorEq,rq,f0,f1,f5]
    | false =>
      simp -implicitDefEqProofs (disch:=omega) only [go_sem,↓reduceIte,reduceCtorEq,rq,List.getElem?_concat_length,Qbn,f0,f5,f6,hL]
      have hql:q.length<L.length:=by omega
      have hset:L.take q.length++[V.int .i64 n]++L.drop (q.length+1)=L.set q.length (.int .i64 n):=by rw [List.set_eq_take_append_cons_drop,if_pos hql]; simp
      refine ⟨c.length - (j+1),_,_,by omega,Shift.refl _ _ _ _,j+1,t2,L.set q.length (.int .i64 n),q++[n],?_,by omega,rfl,?_,?_,?_,?_,by omega,?_⟩
      ·rw [QB hnj,List.filter_append,← hq]; simp [hpn]
      ·simp; omega
      ·simpa using hL
      ·rw [lA,List.length_singleton,QB (x:=V.int .i64 n) (by simp [hql]),List.take_set_of_le (lR _),hL1]; simp [ints]
      ·rw [List.drop_set_of_lt (by omega)]; exact hdn
      ·simp -implicitDefEqProofs (disch:=omega) only [go_sem,↓reduceIte,reduceCtorEq,rq,f0,f1,e2,e3,lA,List.length_singleton,hset]
   ·have hi:j=c.length:=by omega
    subst hi
    simp -implicitDefEqProofs (disch:=omega) only [go_sem,↓reduceIte,reduceCtorEq,rq,f0,f1,f5,f6,Nat.lt_irrefl]
    rw [List.take_length] at hq
    exact ⟨t',L,q,hq,ht,hij,hL,hL1,rfl,rfl,rfl⟩
  ·obtain ⟨t',L,q,hq,ht,rfl,hlt,hL,hL1,f0,f1,f5,rfl⟩:=hE
   refine Qe 1000 ?_
   simp -implicitDefEqProofs (disch:=omega) only [go_sem,↓reduceIte,rq,f0,f5]
   simp only [evW]
   simp -implicitDefEqProofs (disch:=omega) only [go_sem,↓reduceIte,reduceCtorEq,rq,List.getElem?_concat_length,Qbn,f0,f5,hL]
   have hrep:(List.replicate (c.length - q.length) [V.int .i64 0]).flatten=ints (List.replicate (c.length - q.length) 0):=by
    generalize c.length - q.length=k
    induction k with
    | zero=>rfl
    | succ k ih=>rw [List.replicate_succ,List.flatten_cons,ih,List.replicate_succ]; rfl
   have hdr:L.drop (q.length+(ints (List.replicate (c.length - q.length) 0)).length)=[]:=List.drop_eq_nil_of_le (by rw [Qh,List.length_replicate]; omega)
   exact ⟨t',ints (List.replicate (c.length - q.length) 0),ht,Xd _,by rw [← hq]; rfl,rfl,by rw [hL1,← hq,hrep,hdr,List.append_nil]⟩
end
section
attribute [local go_sem] aZ lR Nat.mul_one zA XI Qrx Qrw Xx Qmj Qmi ge_iff_le Qs Qm QlW QlV
variable {cs:List V} {lim:Option Nat} {c:List Int} {p:Int→Bool} {o:List (Option Ob)} {base t k w T:Nat}
theorem QeT (hT:Qq P tab) {f:V} (hp:Qdu P G base f o p c) (hl:c.length≤9223372036854775807) (ho:o[k]?=some (some (.arr w T (ints c++cs)))) :
 C P G base QQ [.sl k w 0 1 c.length lim,f] ⟨t,o⟩ fun v σ=>v=.bool (c.any p)∧∃ t',t≤t'∧σ=⟨t',o⟩:=by
 refine Xf hT Qz (by simp [Qm]) (QH 1000 ?_)
 simp -implicitDefEqProofs (disch:=omega) only [go_sem,↓reduceIte,reduceCtorEq,rq]
 refine call hT Qv (QdC hT hp hl ho) 1000 fun v σ hv=>?_
 obtain ⟨rfl,t',ht,rfl⟩:=hv
 simp -implicitDefEqProofs (disch:=omega) only [go_sem,↓reduceIte,reduceCtorEq,rq]
 rw [Qc2]
 exact ⟨rfl,t',ht,rfl⟩
theorem c_allS (hT:Qq P tab) {g:Nat} {cap:List V} (hb:base≤o.length) (hp:∀ ex,Qdu P G base (.fn (.func g) [] cap) (o++ex) p c) (hl:c.length≤9223372036854775807) (ho:o[k]?=some (some (.arr w T (ints c++cs)))) :
 C P G base YM [.sl k w 0 1 c.length lim,.fn (.func g) [] cap] ⟨t,o⟩ fun v σ=>v=.bool (c.all p)∧∃ t',t≤t'∧σ=⟨t',o⟩:=by
 refine Xk o.length hb (Xf hT Qaw (by simp [Xx]) (QH 1000 ?_))
 simp -implicitDefEqProofs (disch:=omega) only [go_sem,↓reduceIte,reduceCtorEq,rq]
 have hn:=c_not (P:=P) (G:=G) (base:=base) (k:=o.length) (tb:=t) (T:=86) hT (by simp) (hp [some (.arr t 86 [.fn (.func g) [] cap])])
 refine call hT Qz (QeT hT hn hl (Qil ho)) 1000 fun v σ hv=>?_
 obtain ⟨rfl,t',ht,rfl⟩:=hv
 simp -implicitDefEqProofs (disch:=omega) only [go_sem,↓reduceIte,reduceCtorEq,rq]
 exact ⟨by simp,by rw [List.all_eq_not_any_not],t',by omega,rfl,by simp⟩
theorem QcY (hT:Qq P tab) {kb tb T2:Nat} {a:Int} {l:List Int} (h1:o[kb]?=some (some (.arr tb T [.sl k w 0 1 (l.length+1) lim]))) (h2:o[k]?=some (some (.arr w T2 (ints (a::l)++cs)))) :
 Qdu P G base (.fn (.func Yt) [] [.ptr kb tb 0]) o (fun n=>n==a) c:=fun t n hn=>by
 refine CV.of hT ZT (Xf hT ZT (by simp [XI]) (QH 1000 ?_))
 have hD:=Y7 (c:=a::l) (i:=0) cs rfl
 simp -implicitDefEqProofs (disch:=omega) only [go_sem,↓reduceIte,reduceCtorEq,rq,Int.reduceToNat,Int.reduceLE,h1,h2,hD,lA,Qh,lC]
 exact ⟨t,lR _,rfl⟩
end
section
attribute [local go_sem] nFq nT aZ lR Nat.mul_one zA zL YG zqf_0 zqf_1 Qkx Qkw Qkv Qku Qkt Qks Qkr Qkq Qkp Qpt zqf_2 Qps zqf_3 zqf_4 zqf_5 zqf_6 zqf_7 zqf_8 QsE decide_false decide_true Qs
def SortU (P:Program) (G:Nat→Option V):Prop:=∀ (base k v t:Nat) (o:List (Option Ob)) (zs:List Int),base≤k→o[k]?=some (some (.arr v 3 (ints zs)))→Once zs→(∀ n∈zs,-16777216≤n∧n≤16777216)→zs.length≤1000000 →
 C P G base Xg [.sl k v 0 1 zs.length none,.fn (.func ZX) [] []] ⟨t,o⟩ fun r σ'=>r=.tup []∧∃ t',t≤t'∧σ'=⟨t',o.set k (some (.arr v 3 (ints (QaZ zs))))⟩
def uH (tf tm tb tw:Nat) (v:Int) (F:List (List Int)) (S:List Int):List (Option Ob) :=
 [some (.arr tf 24 [.int .i64 v,.lst 1 (F.map row) false]),some (.map tm (kn S)),some (.arr tb 84 [.mp 1 tm]),some (.arr tw 3 (ints S))]
theorem QfD (n:Int):∀ l:List Int,(ins n l).length=l.length+1
 | []=>rfl
 | a::l=>by unfold ins; split <;> simp [QfD n l]
theorem QaY:∀ l:List Int,(QaZ l).length=l.length
 | []=>rfl
 | a::l=>by simp [QaZ,QfD,QaY l]
theorem Qa5 (S:List Int):∀ (A B:List (List Int)),Zn S (A++B)=(Zn S A).bind fun S=>Zn S B
 | [],B=>rfl
 | c::A,B=>by
   simp only [cA,Zn]
   cases QaC S c with
   | none=>rfl
   | some S1=>simp only [Option.bind_some]; exact Qa5 S1 A B
variable {i:Nat} {F:List (List Int)} {S S1 c:List Int}
theorem Qbp (hi:F[i]?=some c) (h:Zn S (F.take i)=some S1):Zn S (F.take (i+1))=QaC S1 c:=by
 rw [QB hi,Qa5,h,Option.bind_some]
 simp only [Zn]
 cases QaC S1 c <;> rfl
theorem QjL (hi:F[i]?=some c) (h:Zn S (F.take i)=some S1) (hs:QaC S1 c=none):Zn S F=none:=by
 have:=Qa5 S (F.take (i+1)) (F.drop (i+1))
 rw [List.take_append_drop,Qbp hi h,hs] at this
 exact this
theorem Qh7 (S c:List Int):(c.any (fun n=>decide (n∈S))=true∧QaC S c=some S)∨(c.any (fun n=>decide (n∈S))=false∧c.filter (fun n=>!decide (-n∈S))=[]∧QaC S c=none) ∨
 (c.any (fun n=>decide (n∈S))=false∧∃ a l,c.filter (fun n=>!decide (-n∈S))=a::l∧a∈c∧a ∉ S∧l.length+1≤c.length∧(((a::l).all (fun n=>n==a)=true∧QaC S c=some (S++[a]))∨((a::l).all (fun n=>n==a)=false∧QaC S c=some S))):=by
 cases hany:c.any (fun n=>decide (n∈S)) with
 | true=>exact .inl ⟨rfl,if_pos hany⟩
 | false =>
   have hst:QaC S c=match c.filter (fun n=>!decide (-n∈S)) with
    | []=>none
    | a::l=>if l.all fun n=>decide (n=a) then some (S++[a]) else some S:=if_neg (by simp [hany])
   refine .inr ?_
   generalize hlf:c.filter (fun n=>!decide (-n∈S))=left at hst
   cases left with
   | nil=>exact .inl ⟨rfl,rfl,hst⟩
   | cons a l =>
     refine .inr ⟨rfl,a,l,rfl,?_,?_,?_,?_⟩
     ·have:a∈c.filter (fun n=>!decide (-n∈S)):=by rw [hlf]; simp
      exact (List.mem_filter.1 this).1
     ·intro h
      have:a∈c.filter (fun n=>!decide (-n∈S)):=by rw [hlf]; simp
      have:=List.any_eq_false.1 hany a (List.mem_filter.1 this).1
      simp [h] at this
     ·have:=List.length_filter_le (fun n=>!decide (-n∈S)) c
      rw [hlf,lC] at this; omega
     ·have hal:(a::l).all (fun n=>n==a)=l.all fun n=>decide (n=a):=by simp [List.all_cons]; rfl
      rw [hal]
      simp only at hst
      cases hall:l.all fun n=>decide (n=a) with
      | false=>rw [hall] at hst; exact .inr ⟨rfl,hst⟩
      | true=>rw [hall,if_pos rfl] at hst; exact .inl ⟨rfl,hst⟩
theorem Qjn {k:Nat} (h:∀ c∈F,c.length≤k):F.flatten.length≤F.length * k:=by
 induction F with
 | nil=>simp
 | cons c F ih =>
   have h1:=h c (by simp)
   have h2:=ih fun d hd=>h d (by simp [hd])
   rw [List.flatten_cons,lA,lC,Nat.succ_mul]
   omega
abbrev uJ (v:Int) (F:List (List Int)) (S:List Int) (tf tb:Nat):Nat→Fr→H→Prop:=fun m fr σ=>∃ (i:Nat) (S1:List Int) (t' tm tw:Nat),i≤F.length∧m=F.length - i∧Zn S (F.take i)=some S1∧Inv F S1∧S.length≤S1.length∧Qi fr 1=.ptr 0 tf 0∧Qi fr 4=.ptr 2 tb 0∧Qi fr 5=.sl 3 tw 0 1 S1.length none∧Qi fr 6=.int .i64 S.length∧Qi fr 21=.lst 1 (F.map row) false∧Qi fr 22=.int .i64 F.length∧Qi fr 23=.int .i64 i∧σ=⟨t',uH tf tm tb tw v F S1⟩
abbrev uE (v:Int) (F:List (List Int)) (S:List Int) (tf tb:Nat):AE→Fr→H→Prop:=fun e fr σ=>(e=.ret∧Zn S F=none∧Qi fr 2=.lst 0 [] true∧Qi fr 3=.bool false)∨(∃ (S1:List Int) (t' tm tw:Nat),e=.ex 2∧Zn S F=some S1∧Inv F S1∧S.length≤S1.length∧Qi fr 1=.ptr 0 tf 0∧Qi fr 4=.ptr 2 tb 0∧Qi fr 5=.sl 3 tw 0 1 S1.length none∧Qi fr 6=.int .i64 S.length∧σ=⟨t',uH tf tm tb tw v F S1⟩)
set_option maxHeartbeats 1000000 in
theorem Qs0 (hT:Qq P tab) {v:Int} (hF:F.length≤1000) (hc:∀ c∈F,c.length≤1000) (hz:Nz F) (hrt:∀ c∈F,∀ n∈c,-16777216≤n∧n≤16777216) {tf tb m:Nat} {fr:Fr} {σ:H} (hJ:uJ v F S tf tb m fr σ) :
 W P G 56 0 (zg QsE [] (.seq (zw 24 .skip (.exit 2)) (.seq (.block 3 (zg Qkx [25,26] (.seq (zg Qkw [27,28] (zw 29 (.exit 3) .skip)) (zg Qkv [30,31,32,33] (.block 4 (zg Qku [35,36,37] (zw 34 (zg Qkt [] .ret) (zg Qks [39,40,41] (zw 38 (zg Qkr [42,43,44,45] (.reg Qkq [46,47,48,49,50,51])) .skip))))))))) (.reg Qkp [52])))) fr σ (QaS (fun fr σ=>∃ m' fr' σ',m'<m∧Shift G 56 0 fr σ fr' σ'∧uJ v F S tf tb m' fr' σ') (uE v F S tf tb)):=by
 obtain ⟨i,S1,t',tm,tw,hi,rfl,hp,hI1,hl1,f1,f4,f5,f6,f21,f22,f23,rfl⟩:=hJ
 have hSl:S1.length≤1000000:=by
  have h1:=hI1.len
  have h2:=Qjn hc
  have h3:F.length * 1000≤1000 * 1000:=Nat.mul_le_mul_right _ hF
  omega
 rcases Nat.lt_or_ge i F.length with hlt | hge
 ·obtain ⟨c,hci⟩:∃ c,F[i]?=some c:=⟨_,List.getElem?_eq_getElem hlt⟩
  have hD:=Qa2 hci
  have hcm:=List.mem_of_getElem? hci
  have e2:=X8 hlt (by omega)
  have hcl:=hc c hcm
  have hb64:∀ n∈c,-9223372036854775808≤n∧n≤9223372036854775807:=fun n hn=>by have:=hrt c hcm n hn; omega
  have hps:=Qbp hci hp
  have hneg2:c.filter (fun n=>!decide (neg n∈S1))=c.filter (fun n=>!decide (-n∈S1)):=by
   refine List.filter_congr fun n hn=>?_
   have hne:n≠mn:=by have:=hrt c hcm n hn; unfold mn; omega
   rw [Qg1 hne]
  have hsome:=fun t=>c_some (P:=P) (G:=G) (base:=0) (t:=t) hT (Qc0 (c:=c) hT (kb:=2) (tb:=tb) (T:=84) (km:=1) (vm:=tm) (S:=S1) (o:=[some (.arr tf 24 [.int .i64 v,.lst 1 (F.map row) false]),some (.map tm (kn S1)),some (.arr tb 84 [.mp 1 tm]),some (.arr tw 3 (ints S1))]) rfl rfl) (by omega)
  have hdel:=fun t w=>QdD (P:=P) (G:=G) (base:=0) (t:=t) (w:=w) hT (o:=[some (.arr tf 24 [.int .i64 v,.lst 1 (F.map row) false]),some (.map tm (kn S1)),some (.arr tb 84 [.mp 1 tm]),some (.arr tw 3 (ints S1))]) (zL _) (fun w' cells=>QcZ (c:=c) hT (kb:=2) (km:=1) (S:=S1) hb64 rfl rfl) (by omega)
  rw [hneg2] at hdel
  rcases Qh7 S1 c with ⟨hany,hst⟩ | ⟨hany,hlf,hst⟩ | ⟨hany,a,l,hlf,hac,haS,hlen,hall⟩
  ·refine Qj [(1,.ptr 0 tf 0),(4,.ptr 2 tb 0),(5,.sl 3 tw 0 1 S1.length none),(6,.int .i64 S.length),(21,.lst 1 (F.map row) false),(22,.int .i64 F.length),(23,.int .i64 i)] ⟨f1,f4,f5,f6,f21,f22,f23,trivial⟩  1000 ?_
   simp -implicitDefEqProofs (disch:=omega) only [go_sem,↓reduceIte,rq,uH,lM,lC,lN,hlt,hD]
   refine call hT XN (hsome _) 1000 fun u σ hu=>?_
   obtain ⟨rfl,t1,ht1,rfl⟩:=hu
   rw [hany]
   simp -implicitDefEqProofs (disch:=omega) only [go_sem,↓reduceIte,rq]
   refine ⟨F.length - (i+1),_,_,by omega,Shift.refl _ _ _ _,i+1,S1,t1,tm,tw,by omega,rfl,by rw [hps,hst],hI1,hl1,?_⟩
   simp -implicitDefEqProofs (disch:=omega) only [go_sem,↓reduceIte,rq,uH,e2]
  ·refine Qj [(1,.ptr 0 tf 0),(4,.ptr 2 tb 0),(5,.sl 3 tw 0 1 S1.length none),(6,.int .i64 S.length),(21,.lst 1 (F.map row) false),(22,.int .i64 F.length),(23,.int .i64 i)] ⟨f1,f4,f5,f6,f21,f22,f23,trivial⟩  1000 ?_
   simp -implicitDefEqProofs (disch:=omega) only [go_sem,↓reduceIte,rq,uH,lM,lC,lN,hlt,hD]
   refine call hT XN (hsome _) 1000 fun u σ hu=>?_
   obtain ⟨rfl,t1,ht1,rfl⟩:=hu
   rw [hany]
   simp -implicitDefEqProofs (disch:=omega) only [go_sem,↓reduceIte,rq]
   refine call hT QJ (Qgz hT c (by omega)) 1000 fun u σ hu=>?_
   obtain ⟨t2,w,ht2,rfl,rfl⟩:=hu
   simp -implicitDefEqProofs (disch:=omega) only [go_sem,↓reduceIte,rA,rq,lC,lN]
   refine call hT QF (hdel _ _) 1000 fun u σ hu=>?_
   obtain ⟨t3,cells,ht3,_,rfl,rfl⟩:=hu
   rw [hlf]
   simp -implicitDefEqProofs (disch:=omega) only [go_sem,↓reduceIte,reduceCtorEq,rA,rq,uH,lC,lN,cA,nA,uE]
   exact ⟨fun _=>.inl (QjL hci hp hst),fun h=>absurd rfl h⟩
  ·have hallS:∀ (t t3 w:Nat) (cells:List V),C P G 0 YM [.sl 4 w 0 1 (l.length+1) none,.fn (.func Yt) [] [.ptr 5 t3 0]] ⟨t,[some (.arr tf 24 [.int .i64 v,.lst 1 (F.map row) false]),some (.map tm (kn S1)),some (.arr tb 84 [.mp 1 tm]),some (.arr tw 3 (ints S1)),some (.arr w 3 (ints (a::l)++cells)),some (.arr t3 41 [.sl 4 w 0 1 (l.length+1) none])]⟩ fun u σ=>u=.bool ((a::l).all (fun n=>n==a))∧∃ t',t≤t'∧σ=⟨t',[some (.arr tf 24 [.int .i64 v,.lst 1 (F.map row) false]),some (.map tm (kn S1)),some (.arr tb 84 [.mp 1 tm]),some (.arr tw 3 (ints S1)),some (.arr w 3 (ints (a::l)++cells)),some (.arr t3 41 [.sl 4 w 0 1 (l.length+1) none])]⟩:=fun t t3 w cells=>c_allS (P:=P) (G:=G) (base:=0) (t:=t) hT (c:=a::l) (k:=4) (w:=w) (T:=3) (cs:=cells) (lim:=none) (o:=[some (.arr tf 24 [.int .i64 v,.lst 1 (F.map row) false]),some (.map tm (kn S1)),some (.arr tb 84 [.mp 1 tm]),some (.arr tw 3 (ints S1)),some (.arr w 3 (ints (a::l)++cells)),some (.arr t3 41 [.sl 4 w 0 1 (l.length+1) none])]) (zL _) (fun ex=>QcY hT (kb:=5) (k:=4) (w:=w) (cs:=cells) (Qil rfl) (Qil rfl)) (by rw [lC]; omega) rfl
   have hne0:¬ (((l.length+1:Nat):Int)=0):=by omega
   refine Qj [(1,.ptr 0 tf 0),(4,.ptr 2 tb 0),(5,.sl 3 tw 0 1 S1.length none),(6,.int .i64 S.length),(21,.lst 1 (F.map row) false),(22,.int .i64 F.length),(23,.int .i64 i)] ⟨f1,f4,f5,f6,f21,f22,f23,trivial⟩  1000 ?_
   simp -implicitDefEqProofs (disch:=omega) only [go_sem,↓reduceIte,rq,uH,lM,lC,lN,hlt,hD]
   refine call hT XN (hsome _) 1000 fun u σ hu=>?_
   obtain ⟨rfl,t1,ht1,rfl⟩:=hu
   rw [hany]
   simp -implicitDefEqProofs (disch:=omega) only [go_sem,↓reduceIte,rq]
   refine call hT QJ (Qgz hT c (by omega)) 1000 fun u σ hu=>?_
   obtain ⟨t2,w,ht2,rfl,rfl⟩:=hu
   simp -implicitDefEqProofs (disch:=omega) only [go_sem,↓reduceIte,rA,rq,lC,lN]
   refine call hT QF (hdel _ _) 1000 fun u σ hu=>?_
   obtain ⟨t3,cells,ht3,_,rfl,rfl⟩:=hu
   rw [hlf]
   simp -implicitDefEqProofs (disch:=omega) only [go_sem,↓reduceIte,rA,rq,lC,lN,cA,nA,hne0,false_implies,true_implies,true_and,not_false_eq_true]
   refine call hT Qaw (hallS (t3+1) t3 w cells) 1000 fun u σ hu=>?_
   obtain ⟨rfl,t4,ht4,rfl⟩:=hu
   rcases hall with ⟨hall,hst⟩ | ⟨hall,hst⟩
   ·have hD0:=Y7 (c:=a::l) (i:=0) cells rfl
    have h3:=QeH .i64 (fun _=>.int .i64 1) S1 a
    have hput:=QmW .i64 (fun _=>.int .i64 1) a (.int .i64 1) rfl S1 haS
    rw [hall]
    simp -implicitDefEqProofs (disch:=omega) only [go_sem,↓reduceIte,reduceCtorEq,rq,rL,Int.reduceToNat,Int.reduceLE,Qh,lC,lN,hD0,lA,kn,hput]
    have hI2:=((QgT hz hI1 hcm).2 _ hst).1
    refine ⟨F.length - (i+1),_,_,by omega,Shift.drop (o':=uH tf tm tb t4 v F (S1++[a])) (t':=t4+1) (by simp [XE,uH,kn,ints]) (lR _) (zL _),i+1,S1++[a],t4+1,tm,t4,by omega,rfl,by rw [hps,hst],hI2,by simp; omega,?_⟩
    simp -implicitDefEqProofs (disch:=omega) only [go_sem,↓reduceIte,rq,uH,lC,lN,e2,lA]
    try simp [ints]
   ·rw [hall]
    simp -implicitDefEqProofs (disch:=omega) only [go_sem,↓reduceIte,rq]
    refine ⟨F.length - (i+1),_,_,by omega,Shift.drop (o':=uH tf tm tb tw v F S1) (t':=t4) (by simp [XE,uH]) (lR _) (zL _),i+1,S1,t4,tm,tw,by omega,rfl,by rw [hps,hst],hI1,hl1,?_⟩
    simp -implicitDefEqProofs (disch:=omega) only [go_sem,↓reduceIte,rq,uH,e2]
 ·have hi:i=F.length:=by omega
  subst hi
  rw [List.take_length] at hp
  refine Qj [(1,.ptr 0 tf 0),(4,.ptr 2 tb 0),(5,.sl 3 tw 0 1 S1.length none),(6,.int .i64 S.length),(21,.lst 1 (F.map row) false),(22,.int .i64 F.length),(23,.int .i64 F.length)] ⟨f1,f4,f5,f6,f21,f22,f23,trivial⟩  1000 ?_
  simp -implicitDefEqProofs (disch:=omega) only [go_sem,↓reduceIte,reduceCtorEq,rq,uH,Nat.lt_irrefl,uE]
  exact ⟨S1,t',tm,tw,hp,hI1,hl1,rfl,rfl,rfl⟩
set_option maxHeartbeats 1000000 in
theorem QtY (hT:Qq P tab) (hs:SortU P G) (v:Int) (F:List (List Int)) (hF:F.length≤1000) (hc:∀ c∈F,c.length≤1000) :
 Pure P G ZG [fml v F] fun u=>u=if right v F then (match Qen F with | none=>.tup [row [],.bool false] | some l=>.tup [row l,.bool true]) else .tup [row [],.bool false]:=by
 intro t
 refine QgF (Q:=fun u _=>Qd u=true∧((u=.tup [.lst 0 [] true,.bool false]∧(right v F=false∨Qen F=none))∨∃ l,right v F=true∧Qen F=some l∧u=.tup [row l,.bool true]))
  (Qac (Q:=fun u σ=>(u=.tup [.lst 0 [] true,.bool false]∧(right v F=false∨Qen F=none))∨∃ l tw,right v F=true∧Qen F=some l∧u=.tup [.sl 3 tw 0 1 l.length none,.bool true]∧σ.o[3]?=some (some (.arr tw 3 (ints l)))) ?_ fun u σ hu=>?_) fun u σ hu=>?_
 ·have hR:=Qix (P:=P) (G:=G) hT v F (by omega) (fun c h=>by have:=hc c h; omega)
  simp only [fml,rows] at hR ⊢
  refine Xf hT QbP (by simp [YG]) (QH 1000 ?_)
  simp -implicitDefEqProofs (disch:=omega) only [go_sem,↓reduceIte,reduceCtorEq,rA,rq]
  refine Ql hT ZD hR (by simp [Qc,Qd]) 1000 ?_
  cases hr:right v F with
  | false =>
    simp -implicitDefEqProofs (disch:=omega) only [go_sem,↓reduceIte,reduceCtorEq,rq]
    try simp
  | true =>
    have hrt:=(Qch.1 hr)
    have hz:=Qoj hr
    simp -implicitDefEqProofs (disch:=omega) only [go_sem,↓reduceIte,reduceCtorEq,rA,rq]
    refine ⟨rfl,?_⟩
    refine Zb (Shift.own (s:=5) (z:=0) (sz:=1) (T:=3) (by simp -implicitDefEqProofs (disch:=omega) only [go_sem,↓reduceIte,reduceCtorEq,rq]) (by decide)) ?_
    simp -implicitDefEqProofs (disch:=omega) only [go_sem,↓reduceIte,reduceCtorEq,rA,rq,H.push,lC,lN,cA,nA]
    refine Q5 (fun m fr σ=>∃ (S:List Int) (n0:Int) (k t' tf tm tb tw:Nat),Inv F S∧((n0<(S.length:Int)∧m=k+1∧F.flatten.length+1≤k+S.length∧Qg5 F k S=QeJ F)∨(n0=(S.length:Int)∧m=0∧QeJ F=some S))∧Qi fr 1=.ptr 0 tf 0∧Qi fr 4=.ptr 2 tb 0∧Qi fr 5=.sl 3 tw 0 1 S.length none∧Qi fr 6=.int .i64 n0∧σ=⟨t',uH tf tm tb tw v F S⟩)
     (fun e fr σ=>(e=.ret∧QeJ F=none∧Qi fr 2=.lst 0 [] true∧Qi fr 3=.bool false)∨(∃ S t' tf tm tb tw,e=.ex 0∧QeJ F=some S∧Qi fr 5=.sl 3 tw 0 1 S.length none∧σ=⟨t',uH tf tm tb tw v F S⟩))
     (m0:=F.flatten.length+2) ⟨[],-1,F.flatten.length+1,t+1+1+1+1,t,t+1,t+1+1,t+1+1+1,Qna F,.inl ⟨by simp,rfl,by simp,rfl⟩,?_⟩ (fun m fr σ hJ=>?_) (fun e fr σ hE=>?_)
    ·simp -implicitDefEqProofs (disch:=omega) only [go_sem,↓reduceIte,reduceCtorEq,rq,uH,lN]
     rfl
    ·obtain ⟨S,n0,k,t',tf,tm,tb,tw,hI,hk,f1,f4,f5,f6,rfl⟩:=hJ
     refine QH 1000 ?_
     rcases hk with ⟨hn0,rfl,hkl,hlu⟩ | ⟨rfl,rfl,hlu⟩
     ·simp -implicitDefEqProofs (disch:=omega) only [go_sem,↓reduceIte,rA,rq,uH,lM,lC,lN,f1,f5,f6,hn0]
      refine Q5 (uJ v F S tf tb) (uE v F S tf tb) (m0:=F.length) ⟨0,S,t',tm,tw,by omega,rfl,rfl,hI,lR _,?_⟩ (fun m fr σ hJ=>Qs0 hT hF hc hz (fun c h n hn=>by have:=hrt.2 c h n hn; omega) hJ) (fun e fr σ hE=>?_)
      ·simp -implicitDefEqProofs (disch:=omega) only [go_sem,↓reduceIte,rq,uH,f1,f4,f5]
       rfl
      ·rcases hE with ⟨rfl,hp,f2,f3⟩ | ⟨S1,t',tm,tw,rfl,hp,hI1,hl1,f1,f4,f5,f6,rfl⟩
       ·have hno:QeJ F=none:=by
         rw [← hlu]
         cases k with
         | zero=>rfl
         | succ k=>rw [Qg5,hp]
        refine Qe 1000 ?_
        simp -implicitDefEqProofs (disch:=omega) only [go_sem,reduceCtorEq,f2,f3]
        exact .inl hno
       ·refine Qe 1000 ?_
        simp -implicitDefEqProofs (disch:=omega) only [go_sem,↓reduceIte,uH]
        have hk:k≠0:=by have:=hI.len; omega
        obtain ⟨k,rfl⟩:=Nat.exists_eq_succ_of_ne_zero hk
        rw [Qg5,hp] at hlu
        simp only at hlu
        by_cases hlen:S1.length=S.length
        ·rw [if_pos hlen] at hlu
         refine ⟨0,_,_,by omega,Shift.refl _ _ _ _,S1,S.length,0,t',tf,tm,tb,tw,hI1,.inr ⟨by rw [hlen],rfl,hlu.symm⟩,?_⟩
         simp -implicitDefEqProofs (disch:=omega) only [go_sem,f1,f4,f5,f6]
        ·rw [if_neg hlen] at hlu
         refine ⟨k+1,_,_,by omega,Shift.refl _ _ _ _,S1,S.length,k,t',tf,tm,tb,tw,hI1,.inl ⟨by omega,rfl,by omega,hlu⟩,?_⟩
         simp -implicitDefEqProofs (disch:=omega) only [go_sem,f1,f4,f5,f6]
     ·simp -implicitDefEqProofs (disch:=omega) only [go_sem,↓reduceIte,reduceCtorEq,rq,uH,f5,f6,Int.lt_irrefl]
      exact ⟨S,t',tf,tm,tb,tw,hlu,rfl,rfl,rfl⟩
    ·rcases hE with ⟨rfl,hno,f2,f3⟩ | ⟨S,t',tf,tm,tb,tw,rfl,hSo,f5,rfl⟩
     ·refine Qe 1000 ?_
      have hu:Qen F=none:=by rw [Qen,hno]; rfl
      simp -implicitDefEqProofs (disch:=omega) only [go_sem,reduceCtorEq,f2,f3,hu]
      try simp
     ·obtain ⟨hI,hm⟩:=Qim hz hSo
      have hu:Qen F=some (QaZ S):=by rw [Qen,hSo]; rfl
      have hSl:S.length≤1000000:=by
       have h1:=hI.len
       have h2:=Qjn hc
       have h3:F.length * 1000≤1000 * 1000:=Nat.mul_le_mul_right _ hF
       omega
      refine Qe 1000 ?_
      simp -implicitDefEqProofs (disch:=omega) only [go_sem,↓reduceIte,uH,f5]
      refine call hT XV (hs 0 3 tw t' _ S (zL _) rfl hI.once (fun n hn=>by
       obtain ⟨c,hc,hnc⟩:=(hI.up n hn).in
       have:=hrt.2 c hc n hnc; omega) hSl) 1000 fun u σ hu'=>?_
      obtain ⟨rfl,t1,ht1,rfl⟩:=hu'
      simp -implicitDefEqProofs (disch:=omega) only [go_sem,↓reduceIte,reduceCtorEq,rq,f5,hu]
      exact ⟨QaZ S,tw,rfl,by rw [QaY],rfl⟩
 ·rcases hu with ⟨rfl,hu⟩ | ⟨l,tw,hr,hu,rfl,ho⟩
  ·exact .inl ⟨rfl,.inl ⟨rfl,hu⟩⟩
  ·refine .inr ⟨3,tw,3,ints l,zL _,ho,Xd l,?_,.inr ⟨l,hr,hu,?_⟩⟩
   ·simp [Yp,Qj1,Qd,Qc,Qh]
   ·simp [Yp,Qj1,Qb1,Qh,row]
    rw [← Qh l,List.take_length]
 ·rcases hu with ⟨hn,⟨rfl,hu⟩ | ⟨l,hr,hu,rfl⟩⟩
  ·refine ⟨.tup [row [],.bool false],.tup _ _ (.cons _ _ _ _ (.lst _ _ _ _ _ .nil (.inl rfl)) (.cons _ _ _ _ (.refl _) .nil)),rfl,?_⟩
   rcases hu with hu | hu
   ·rw [hu]; rfl
   ·rw [hu]; simp
  ·exact ⟨_,.refl _,hn,by rw [hr,hu]; rfl⟩
end
end Go.Proofs.YtingdebioipemaaGreatDoor
namespace Go.Cl
open Go Go.Am
set_option maxRecDepth 100000
theorem Qbp {S:List Int}:∀ {F:List (List Int)} {c:List Int},Zn S (F++[c])=(Zn S F).bind fun S=>QaC S c
 | [],c=>by simp [Zn]
 | d::F,c=>by
   simp only [cA,Zn,Option.bind_assoc]
   congr 1
   funext S'
   exact Qbp
end Go.Cl
namespace Go.Proofs.YtingdebioipemaaGreatDoor
open Go Go.Am Go.Cl
set_option maxRecDepth 100000
variable {P:Program} {G:Nat→Option V}
section
attribute [local go_sem] lR zA zL and_true bne_self_eq_false decide_false decide_true false_implies ge_iff_le Qs not_false_eq_true Q8 Qrh Qrg true_and true_implies
variable {i:Nat}
theorem QnL {l:List Int} {a:Int} (h:l[i]?=some a) (hl:l.length≤9223372036854775807):i<l.length∧(ints l).getD i V.any=.int .i64 a∧IntKind.i64.wrap ((i:Int)+1)=((i+1:Nat):Int) :=
 have hlt:=(List.getElem?_eq_some_iff.1 h).1
 ⟨hlt,Z4 h,X8 hlt hl⟩
theorem QeU {F:List (List Int)} {c:List Int} (h:F[i]?=some c) (hl:F.length≤9223372036854775807):i<F.length∧(F.map row).getD i V.any=.lst 1 (ints c) false∧IntKind.i64.wrap ((i:Int)+1)=((i+1:Nat):Int) :=
 have hlt:=(List.getElem?_eq_some_iff.1 h).1
 ⟨hlt,Qa2 h,X8 hlt hl⟩
theorem c_lit (hT:Qq P tab) (v n:Int) (hv:0≤v∧v≤16777216):Pure P G YX [.int .i64 n,.int .i64 v] fun u=>u=.bool (YF v n):=by
 intro t
 have hneg:=wneg hv
 refine Xk 0 (zL _) (Xf hT YU (by simp [Q8]) (QH 12 ?_))
 by_cases h1:n=0
 ·have hr:YF v n=false:=by simp [YF,h1]
  simp -implicitDefEqProofs (disch:=omega) only [go_sem,↓reduceIte,reduceCtorEq,rq,h1]
  iterate 9 (try (refine Qe 2 ?_; simp -implicitDefEqProofs (disch:=omega) only [go_sem,↓reduceIte,reduceCtorEq,rq]))
  rw [← hr,h1]
 ·have h1':(n=0)=False:=eq_false h1
  by_cases h2:-v≤n
  ·have h2':decide (-v≤n)=true:=by simpa using h2
   by_cases h3:n≤v
   ·have hr:YF v n=true:=by simp [YF,h1,h2,h3]
    simp -implicitDefEqProofs (disch:=omega) only [go_sem,↓reduceIte,reduceCtorEq,rA,rq,h1',hneg]
    iterate 9 (try (refine Qe 2 ?_; simp -implicitDefEqProofs (disch:=omega) only [go_sem,↓reduceIte,reduceCtorEq,rA,rq,h2,h3]))
    rw [hr]
   ·have hr:YF v n=false:=by simp [YF,h3]
    simp -implicitDefEqProofs (disch:=omega) only [go_sem,↓reduceIte,reduceCtorEq,rA,rq,h1',hneg]
    iterate 9 (try (refine Qe 2 ?_; simp -implicitDefEqProofs (disch:=omega) only [go_sem,↓reduceIte,reduceCtorEq,rA,rq,h2,h3]))
    rw [hr]
  ·have hr:YF v n=false:=by simp [YF,h2]
   simp -implicitDefEqProofs (disch:=omega) only [go_sem,↓reduceIte,reduceCtorEq,rA,rq,h1',hneg]
   iterate 9 (try (refine Qe 2 ?_; simp -implicitDefEqProofs (disch:=omega) only [go_sem,↓reduceIte,reduceCtorEq,rA,rq,h2]))
   rw [hr]
end
end Go.Proofs.YtingdebioipemaaGreatDoor
