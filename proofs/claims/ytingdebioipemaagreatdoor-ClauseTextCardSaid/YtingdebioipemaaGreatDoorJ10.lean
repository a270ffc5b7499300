/- slices.Grow, of nothing. -/
import Derived.Test.YtingdebioipemaaGreatDoorJ9
import Derived.Test.YtingdebioipemaaGreatDoorShG
import Derived.Laws.AppendOwn
import Derived.Test.YtingdebioipemaaGreatDoorJ4
import Derived.Test.YtingdebioipemaaGreatDoorJ5
import Derived.Test.YtingdebioipemaaGreatDoorSh2
import Derived.Test.YtingdebioipemaaGreatDoorJ8
import Derived.Test.YtingdebioipemaaGreatDoorJ3
open Nat renaming reduceEqDiff → rq, reduceAdd → rA, reduceLeDiff → rL, reduceLT → rT, zero_add → zA, le_refl → lR, zero_le → zL, add_zero → aZ
open List renaming length_cons → lC, length_nil → lN, take_succ_cons → tS, length_append → lA, nil_append → nA, cons_append → cA, append_assoc → aA, take_nil → tN, take_zero → tZ, length_map → lM
open Bool renaming not_false → nFq, not_true → nT
namespace Go.Proofs.YtingdebioipemaaGreatDoor
open Go Go.Am Go.Cl
set_option maxRecDepth 100000
variable {G:Nat→Option V}
theorem c_Grow {base t n:Nat} {o:List (Option Ob)} (hn:0<n) (hl:n≤1000000) :
 C Tryz.prog G base YC [.lst 0 [] true,.int .i64 n] ⟨t,o⟩ fun r σ'=>r=.sl o.length t 0 1 0 none∧σ'=⟨t+1,o++[some (.arr t 3 [])]⟩:=by
 obtain ⟨i0,hi0,hz0,hs0,hb0⟩:∃ i0,Tryz.prog.info? 3=some i0∧i0.zero=some (.int .i64 0)∧i0.size=1∧i0.bytes=8:=⟨_,rfl,rfl,rfl,rfl⟩
 refine C_grow fun a w=>?_
 refine (Any8.slices_Grow_grow Tryz.growI i0 (.int .i64 0) hi0 hz0 (by omega) a 0 0 n [] w (lR _) (by omega) (by rw [hb0]; omega) (by omega) (by simp) (fun _=>rfl) (fun a _ j v h=>by simp at h)).mono fun e w' ⟨h1,h2⟩=>?_
 have hge:=grownCap_ge w (0+n) 0 3
 refine ⟨_,_,?_,h2⟩
 rw [h1]
 congr 2
 simp only [Array.size_append,size_zeroCells,List.size_toArray,lN]
 show _=0+(0+n - 0) * 1+(_ - (0+n)) * 1
 have:Tryz.growI_ren.t 25=3:=rfl
 rw [this]
 omega
section
attribute [local go_sem] nT lM lR Nat.mul_one Nat.succ_ne_zero zA and_true decide_false decide_true Qh Qs QM Qrt Qrs Qmh Qmg Qmf Qme Qmd Qmc Qrr Qrq Qrp Qro Qrn Qrm Qrl Qrk true_and true_implies
variable {L:List (List Int)}
theorem Qhc {i:Nat} {c:List Int} (h:L[i]?=some c):(L.take (i+1)).flatten=(L.take i).flatten++c:=by
 rw [QB h,List.flatten_append]; simp
theorem Qng (i:Nat):(L.take i).flatten.length≤L.flatten.length:=by
 have:=congrArg List.length (congrArg List.flatten (List.take_append_drop i L))
 rw [List.flatten_append,lA] at this
 omega
theorem Qo3 (hT:Qq Tryz.prog tab) {base t:Nat} {o:List (Option Ob)} {tight:Bool} (hb:base≤o.length) (h0:0<L.flatten.length) (hl:L.flatten.length≤1000000) (hL:L.length≤1000) :
 C Tryz.prog G base Yd [.lst 1 (L.map row) tight] ⟨t,o⟩ fun v σ=>∃ t' w,t≤t'∧v=.sl o.length w 0 1 L.flatten.length none∧σ=⟨t',o++[some (.arr w 3 (ints L.flatten))]⟩:=by
 refine Xf hT Ya (by simp [QM]) (QH 1000 ?_)
 simp -implicitDefEqProofs (disch:=omega) only [go_sem,↓reduceIte,reduceCtorEq,rq]
 refine Qa1 L (fun i fr σ=>Qi fr 0=.lst 1 (L.map row) tight∧Qi fr 3=.int .i64 ((L.take i).flatten.length:Nat)∧Qi fr 9=.lst 1 (L.map row) tight∧Qi fr 10=.int .i64 L.length∧Qi fr 11=.int .i64 ((i:Nat):Int)∧σ=⟨t,o⟩) (fun e fr σ=>e=.ex 0∧Qi fr 0=.lst 1 (L.map row) tight∧Qi fr 3=.int .i64 L.flatten.length∧σ=⟨t,o⟩) ?_ (fun i c hci fr σ hJ=>?_) (fun i hi fr σ hJ=>?_) (fun e fr σ hE=>?_)
 ·simp -implicitDefEqProofs (disch:=omega) only [go_sem,↓reduceIte,reduceCtorEq,rq]
  simp
 ·obtain ⟨f0,f3,f9,f10,f11,rfl⟩:=hJ
  obtain ⟨hlt,hD,e2⟩:=QeU hci (by omega)
  have hfl:=Qhc hci
  have hle:=Qng (L:=L) (i+1)
  rw [hfl,lA] at hle
  have e4:IntKind.i64.wrap (((L.take i).flatten.length:Int)+(c.length:Int))=(((L.take i).flatten.length+c.length:Nat):Int):=by
   rw [wself (by omega)]; omega
  have h5:¬ (((L.take i).flatten.length+c.length:Nat):Int)<0:=by omega
  refine Qj [(0,.lst 1 (L.map row) tight),(3,.int .i64 ((L.take i).flatten.length:Nat)),(9,.lst 1 (L.map row) tight),(10,.int .i64 L.length),(11,.int .i64 ((i:Nat):Int))] ⟨f0,f3,f9,f10,f11,trivial⟩  1000 ?_
  simp -implicitDefEqProofs (disch:=omega) only [go_sem,↓reduceIte,reduceCtorEq,rq,hlt,hD,e4,h5]
  refine ⟨_,_,Shift.refl _ _ _ _,?_⟩
  simp -implicitDefEqProofs (disch:=omega) only [go_sem,↓reduceIte,reduceCtorEq,rq,e2,hfl,lA]
 ·obtain ⟨f0,f3,f9,f10,f11,rfl⟩:=hJ
  refine Qj [(0,.lst 1 (L.map row) tight),(3,.int .i64 ((L.take i).flatten.length:Nat)),(9,.lst 1 (L.map row) tight),(10,.int .i64 L.length),(11,.int .i64 ((i:Nat):Int))] ⟨f0,f3,f9,f10,f11,trivial⟩  1000 ?_
  simp -implicitDefEqProofs (disch:=omega) only [go_sem,↓reduceIte,reduceCtorEq,rq,hi,Nat.lt_irrefl,List.take_length]
 ·obtain ⟨rfl,f0,f3,rfl⟩:=hE
  refine Qe 1000 ?_
  simp -implicitDefEqProofs (disch:=omega) only [go_sem,↓reduceIte,f3]
  refine call hT QaW (c_Grow h0 hl) 1000 fun u σ hu=>?_
  obtain ⟨rfl,rfl⟩:=hu
  simp -implicitDefEqProofs (disch:=omega) only [go_sem,↓reduceIte,reduceCtorEq,f0]
  refine Qa1 L (fun i fr σ=>∃ t' w,t≤t'∧Qi fr 6=.sl o.length w 0 1 (L.take i).flatten.length none∧Qi fr 25=.lst 1 (L.map row) tight∧Qi fr 26=.int .i64 L.length∧Qi fr 27=.int .i64 ((i:Nat):Int)∧σ=⟨t',o++[some (.arr w 3 (ints (L.take i).flatten))]⟩) (fun e fr σ=>∃ t' w,t≤t'∧e=.ex 2∧Qi fr 6=.sl o.length w 0 1 L.flatten.length none∧σ=⟨t',o++[some (.arr w 3 (ints L.flatten))]⟩) ⟨t+1,t,by omega,?_⟩ (fun i c hci fr σ hJ=>?_) (fun i hi fr σ hJ=>?_) (fun e fr σ hE=>?_)
  ·simp -implicitDefEqProofs (disch:=omega) only [go_sem,↓reduceIte,rq]
   simp [ints]
  ·obtain ⟨t',w,ht,f6,f25,f26,f27,rfl⟩:=hJ
   obtain ⟨hlt,hD,e2⟩:=QeU hci (by omega)
   have hfl:=Qhc hci
   have hap:ints (L.take i).flatten++ints c=ints ((L.take i).flatten++c):=by simp [ints]
   have q1:∀ x:Option Ob,(o++[x])[o.length]?=some x:=fun x=>by simp
   have q2:∀ x y:Option Ob,(o++[x]).set o.length y=o++[y]:=fun x y=>by simp
   have q3:(List.map V.cells (ints c)).flatten=ints c:=by
    clear hap hfl e2 hD hlt hci
    induction c with
    | nil=>rfl
    | cons n c ih=>simpa [ints,V.cells] using ih
   have hle:=Qng (L:=L) (i+1)
   rw [hfl,lA] at hle
   have h8:((L.take i).flatten.length+c.length) * 8≤140737488355328:=by omega
   have h9:(L.take i).flatten.length+c.length≤9223372036854775807:=by omega
   refine Qj [(6,.sl o.length w 0 1 (L.take i).flatten.length none),(25,.lst 1 (L.map row) tight),(26,.int .i64 L.length),(27,.int .i64 ((i:Nat):Int))] ⟨f6,f25,f26,f27,trivial⟩  1000 ?_
   simp -implicitDefEqProofs (disch:=omega) only [go_sem,↓reduceIte,rq,hlt,hD,hb,q1,q2,q3,h8,h9]
   refine ⟨_,_,Shift.refl _ _ _ _,t'+1,t',by omega,?_⟩
   simp -implicitDefEqProofs (disch:=omega) only [go_sem,↓reduceIte,rq,e2,hfl,hap,lA]
  ·obtain ⟨t',w,ht,f6,f25,f26,f27,rfl⟩:=hJ
   refine Qj [(6,.sl o.length w 0 1 (L.take i).flatten.length none),(25,.lst 1 (L.map row) tight),(26,.int .i64 L.length),(27,.int .i64 ((i:Nat):Int))] ⟨f6,f25,f26,f27,trivial⟩  1000 ?_
   simp -implicitDefEqProofs (disch:=omega) only [go_sem,↓reduceIte,rq,hi,Nat.lt_irrefl,List.take_length]
   exact ⟨t',w,ht,rfl,rfl,rfl⟩
  ·obtain ⟨t',w,ht,rfl,f6,rfl⟩:=hE
   refine Qe 1000 ?_
   simp -implicitDefEqProofs (disch:=omega) only [go_sem,↓reduceIte,rq,f6]
   exact ⟨t',w,ht,rfl,rfl,rfl⟩
end
section
attribute [local go_sem] nFq nT aZ lR Nat.mul_one Nat.one_mul Nat.succ_ne_zero zA zL Nat.zero_mul Option.getD_none Option.getD_some Option.isSome_none Option.isSome_some beq_self_eq_true bne_self_eq_false X0 Xh Qrj Qri zqg_0 zqg_1 zqg_2 zqg_3 decide_false decide_true ge_iff_le gt_iff_lt Qs
variable {v:Int}
theorem Qi0 (h:0<v∧v≤9223372036854775807):IntKind.i64.wrap (0 - v)=-v:=by
 rw [wself (by omega)]; omega
variable {c:List Int} {tb:Nat} {P:Program}
theorem Qg7 (hT:Qq P tab) {base kb T:Nat} {o:List (Option Ob)} (hv:0<v∧v≤9223372036854775807) (h1:o[kb]?=some (some (.arr tb T [.int .i64 v]))) :
 Qdu P G base (.fn (.func X4) [] [.ptr kb tb 0]) o (fun n=>decide (n=v∨n=-v)) c:=fun t n hn=>by
 refine CV.of hT Za (Xf hT Za (by simp [Xh]) (QH 1000 ?_))
 have h5:=Qi0 hv
 by_cases e:n=v
 ·have e':(n==v)=true:=by simpa using e
  have hd:(n=v∨n=-v)=True:=eq_true (.inl e)
  simp -implicitDefEqProofs (disch:=omega) only [go_sem,↓reduceIte,reduceCtorEq,rq,h1,e',hd]
  exact ⟨t,lR _,rfl⟩
 ·have e':(n==v)=false:=by simpa using e
  by_cases e2:n=-v
  ·have e2':(n==-v)=true:=by simpa using e2
   have hd:(n=v∨n=-v)=True:=eq_true (.inr e2)
   simp -implicitDefEqProofs (disch:=omega) only [go_sem,↓reduceIte,reduceCtorEq,rA,rq,h1,h5,e',hd,e2']
   exact ⟨t,lR _,rfl⟩
  ·have e2':(n==-v)=false:=by simpa using e2
   have hd:(n=v∨n=-v)=False:=eq_false (by simp [e,e2])
   simp -implicitDefEqProofs (disch:=omega) only [go_sem,↓reduceIte,reduceCtorEq,rA,rq,h1,h5,e',hd,e2']
   exact ⟨t,lR _,rfl⟩
theorem Qo0 (hT:Qq P tab) {w t:Nat} (hv:0<v∧v≤9223372036854775807) (hl:c.length≤1000000) :
 C P G 0 QY [.sl 1 w 0 1 c.length none,.fn (.func X4) [] [.ptr 0 tb 0]] ⟨t,[some (.arr tb 3 [.int .i64 v]),some (.arr w 3 (ints c))]⟩
   fun u σ=>u=.lst 1 (ints (c.filter fun n=>!decide (n=v∨n=-v))) false∧∃ t',σ=⟨t',[some (.arr tb 3 [.int .i64 v]),none]⟩:=by
 have h:=QdD (P:=P) (G:=G) (base:=1) (t:=t) (w:=w) hT (o:=[some (.arr tb 3 [.int .i64 v])]) (c:=c) (lR _) (fun w' cells=>Qg7 hT (kb:=0) hv rfl) hl
 refine C.wk (base':=1) (zL _) (by simp) (Qpd h fun u σ ⟨t',cells,ht,hn,e1,e2⟩=>?_)
 subst e1 e2
 refine ⟨1,w,3,_,lR _,rfl,X2 (Xd _) hn,?_,t',?_⟩
 ·simp [Yp,Qb1,Qh]
 ·simp [QL]
theorem QnF (hT:Qq Tryz.prog tab) (a b:List Int) (v:Int) (ha:a.length≤1000) (hb:b.length≤1000) (ba:∀ n∈a,-9223372036854775808≤n∧n≤9223372036854775807) (bb:∀ n∈b,-9223372036854775808≤n∧n≤9223372036854775807) (hv:v≤9223372036854775807) :
 Pure Tryz.prog G YN [row a,row b,.int .i64 v] fun u=>u=.tup [row (X1 a b v).1,.bool (X1 a b v).2]:=by
 have hA:=fun x=>QfP (P:=Tryz.prog) (G:=G) hT a x (by omega)
 have hB:=fun x=>QfP (P:=Tryz.prog) (G:=G) hT b x (by omega)
 have na:∀ x:Int,Qc [V.lst 1 (ints a) false,V.int .i64 x]=true:=fun x=>by simp [Qc,Qd]
 have nb:∀ x:Int,Qc [V.lst 1 (ints b) false,V.int .i64 x]=true:=fun x=>by simp [Qc,Qd]
 simp only [row] at hA hB
 intro t
 refine QgF (Q:=fun u _=>Qd u=true∧((X1 a b v=([],false)∧u=.tup [.lst 0 [] true,.bool false])∨u=.tup [row (X1 a b v).1,.bool (X1 a b v).2])) ?_ fun u σ hu=>?_
 ·simp only [row]
  refine Xk 0 (zL _) (Xf hT Qax (by simp [X0]) (QH 12 ?_))
  by_cases h0:v≤0
  ·have h0':decide (v≤0)=true:=decide_eq_true h0
   have hr:X1 a b v=([],false):=if_pos (.inl h0)
   simp -implicitDefEqProofs (disch:=omega) only [go_sem,↓reduceIte,reduceCtorEq,rA,rq,true_implies,and_true,lC,lN,lN,h0]
   iterate 30 (try (refine Qe 2 ?_; simp -implicitDefEqProofs (disch:=omega) only [go_sem,↓reduceIte,reduceCtorEq,rq,true_and,and_true,lC,lN,lN]))
   try refine Qe 1000 ?_
   try simp -implicitDefEqProofs (disch:=omega) only [go_sem,↓reduceIte,reduceCtorEq,rA,rq,rL,rT,Nat.reduceSub,Nat.reduceMul,Int.reduceToNat,Int.reduceLE,Int.reduceLT,Int.reduceEq,Int.reduceNe,Nat.reduceBEq,Nat.reduceBNe,false_implies,true_implies,true_and,and_true,not_true_eq_false,not_false_eq_true,lC,lN,lN]
   exact .inl hr
  have h0':decide (v≤0)=false:=decide_eq_false h0
  have hng:=Qi0 (v:=v) ⟨by omega,hv⟩
  have k1:=hA v
  by_cases h1:v∈a
  rotate_left
  ·rw [decide_eq_false h1] at k1
   have hr:X1 a b v=([],false):=if_pos (by simp [h0,h1])
   simp -implicitDefEqProofs (disch:=omega) only [go_sem,↓reduceIte,reduceCtorEq,rA,rq,true_implies,and_true,lC,lN,lN,h0]
   iterate 12 (try (refine Qe 2 ?_; simp -implicitDefEqProofs (disch:=omega) only [go_sem,↓reduceIte,reduceCtorEq,rA,rq,true_implies,and_true,lC,lN,lN]))
   refine Ql hT Qg k1 (na v) 2 ?_
   simp -implicitDefEqProofs (disch:=omega) only [go_sem,↓reduceIte,reduceCtorEq,rA,rq]
   iterate 24 (try (refine Qe 2 ?_; simp -implicitDefEqProofs (disch:=omega) only [go_sem,↓reduceIte,reduceCtorEq,rq,true_and,and_true,lC,lN,lN]))
   try refine Qe 1000 ?_
   try simp -implicitDefEqProofs (disch:=omega) only [go_sem,↓reduceIte,reduceCtorEq,rA,rq,rL,rT,Nat.reduceSub,Nat.reduceMul,Int.reduceToNat,Int.reduceLE,Int.reduceLT,Int.reduceEq,Int.reduceNe,Nat.reduceBEq,Nat.reduceBNe,false_implies,true_implies,true_and,and_true,not_true_eq_false,not_false_eq_true,lC,lN,lN,hng]
   exact .inl hr
  rw [decide_eq_true h1] at k1
  have k2:=hB (-v)
  by_cases h2:-v∈b
  rotate_left
  ·rw [decide_eq_false h2] at k2
   have hr:X1 a b v=([],false):=if_pos (by simp [h0,h1,h2])
   simp -implicitDefEqProofs (disch:=omega) only [go_sem,↓reduceIte,reduceCtorEq,rA,rq,true_implies,and_true,lC,lN,lN,h0]
   iterate 12 (try (refine Qe 2 ?_; simp -implicitDefEqProofs (disch:=omega) only [go_sem,↓reduceIte,reduceCtorEq,rA,rq,true_implies,and_true,lC,lN,lN]))
   refine Ql hT Qg k1 (na v) 2 ?_
   simp -implicitDefEqProofs (disch:=omega) only [go_sem,↓reduceIte,reduceCtorEq,rA,rq]
   iterate 12 (try (refine Qe 2 ?_; simp -implicitDefEqProofs (disch:=omega) only [go_sem,↓reduceIte,reduceCtorEq,rA,rq,true_implies,and_true,lC,lN,lN,hng]))
   refine Ql hT Qg k2 (nb (-v)) 2 ?_
   simp -implicitDefEqProofs (disch:=omega) only [go_sem,↓reduceIte,reduceCtorEq,rA,rq]
   iterate 24 (try (refine Qe 2 ?_; simp -implicitDefEqProofs (disch:=omega) only [go_sem,↓reduceIte,reduceCtorEq,rq,true_and,and_true,lC,lN,lN]))
   try refine Qe 1000 ?_
   try simp -implicitDefEqProofs (disch:=omega) only [go_sem,↓reduceIte,reduceCtorEq,rA,rq,rL,rT,Nat.reduceSub,Nat.reduceMul,Int.reduceToNat,Int.reduceLE,Int.reduceLT,Int.reduceEq,Int.reduceNe,Nat.reduceBEq,Nat.reduceBNe,false_implies,true_implies,true_and,and_true,not_true_eq_false,not_false_eq_true,lC,lN,lN,hng]
   exact .inl hr
  rw [decide_eq_true h2] at k2
  have k3:=hA (-v)
  by_cases h3:-v∈a
  ·rw [decide_eq_true h3] at k3
   have hr:X1 a b v=([],false):=if_pos (by simp [h0,h1,h2,h3])
   simp -implicitDefEqProofs (disch:=omega) only [go_sem,↓reduceIte,reduceCtorEq,rA,rq,true_implies,and_true,lC,lN,lN,h0]
   iterate 12 (try (refine Qe 2 ?_; simp -implicitDefEqProofs (disch:=omega) only [go_sem,↓reduceIte,reduceCtorEq,rA,rq,true_implies,and_true,lC,lN,lN]))
   refine Ql hT Qg k1 (na v) 2 ?_
   simp -implicitDefEqProofs (disch:=omega) only [go_sem,↓reduceIte,reduceCtorEq,rA,rq]
   iterate 12 (try (refine Qe 2 ?_; simp -implicitDefEqProofs (disch:=omega) only [go_sem,↓reduceIte,reduceCtorEq,rA,rq,true_implies,and_true,lC,lN,lN,hng]))
   refine Ql hT Qg k2 (nb (-v)) 2 ?_
   simp -implicitDefEqProofs (disch:=omega) only [go_sem,↓reduceIte,reduceCtorEq,rA,rq]
   iterate 12 (try (refine Qe 2 ?_; simp -implicitDefEqProofs (disch:=omega) only [go_sem,↓reduceIte,reduceCtorEq,rA,rq,true_implies,and_true,lC,lN,lN,hng]))
   refine Ql hT Qg k3 (na (-v)) 2 ?_
   simp -implicitDefEqProofs (disch:=omega) only [go_sem,↓reduceIte,reduceCtorEq,rq]
   iterate 24 (try (refine Qe 2 ?_; simp -implicitDefEqProofs (disch:=omega) only [go_sem,↓reduceIte,reduceCtorEq,rq,true_and,and_true,lC,lN,lN]))
   try refine Qe 1000 ?_
   try simp -implicitDefEqProofs (disch:=omega) only [go_sem,↓reduceIte,reduceCtorEq,rA,rq,rL,rT,Nat.reduceSub,Nat.reduceMul,Int.reduceToNat,Int.reduceLE,Int.reduceLT,Int.reduceEq,Int.reduceNe,Nat.reduceBEq,Nat.reduceBNe,false_implies,true_implies,true_and,and_true,not_true_eq_false,not_false_eq_true,lC,lN,lN,hng]
   exact .inl hr
  rw [decide_eq_false h3] at k3
  have k4:=hB v
  by_cases h4:v∈b
  ·rw [decide_eq_true h4] at k4
   have hr:X1 a b v=([],false):=if_pos (by simp [h0,h1,h2,h3,h4])
   simp -implicitDefEqProofs (disch:=omega) only [go_sem,↓reduceIte,reduceCtorEq,rA,rq,true_implies,and_true,lC,lN,lN,h0]
   iterate 12 (try (refine Qe 2 ?_; simp -implicitDefEqProofs (disch:=omega) only [go_sem,↓reduceIte,reduceCtorEq,rA,rq,true_implies,and_true,lC,lN,lN]))
   refine Ql hT Qg k1 (na v) 2 ?_
   simp -implicitDefEqProofs (disch:=omega) only [go_sem,↓reduceIte,reduceCtorEq,rA,rq]
   iterate 12 (try (refine Qe 2 ?_; simp -implicitDefEqProofs (disch:=omega) only [go_sem,↓reduceIte,reduceCtorEq,rA,rq,true_implies,and_true,lC,lN,lN,hng]))
   refine Ql hT Qg k2 (nb (-v)) 2 ?_
   simp -implicitDefEqProofs (disch:=omega) only [go_sem,↓reduceIte,reduceCtorEq,rA,rq]
   iterate 12 (try (refine Qe 2 ?_; simp -implicitDefEqProofs (disch:=omega) only [go_sem,↓reduceIte,reduceCtorEq,rA,rq,true_implies,and_true,lC,lN,lN,hng]))
   refine Ql hT Qg k3 (na (-v)) 2 ?_
   simp -implicitDefEqProofs (disch:=omega) only [go_sem,↓reduceIte,reduceCtorEq,rq]
   iterate 12 (try (refine Qe 2 ?_; simp -implicitDefEqProofs (disch:=omega) only [go_sem,↓reduceIte,reduceCtorEq,rA,rq,true_implies,and_true,lC,lN,lN]))
   refine Ql hT Qg k4 (nb v) 2 ?_
   simp -implicitDefEqProofs (disch:=omega) only [go_sem,↓reduceIte,reduceCtorEq,rq]
   iterate 24 (try (refine Qe 2 ?_; simp -implicitDefEqProofs (disch:=omega) only [go_sem,↓reduceIte,reduceCtorEq,rq,true_and,and_true,lC,lN,lN]))
   try refine Qe 1000 ?_
   try simp -implicitDefEqProofs (disch:=omega) only [go_sem,↓reduceIte,reduceCtorEq,rA,rq,rL,rT,Nat.reduceSub,Nat.reduceMul,Int.reduceToNat,Int.reduceLE,Int.reduceLT,Int.reduceEq,Int.reduceNe,Nat.reduceBEq,Nat.reduceBNe,false_implies,true_implies,true_and,and_true,not_true_eq_false,not_false_eq_true,lC,lN,lN,hng]
   exact .inl hr
  rw [decide_eq_false h4] at k4
  have hr:X1 a b v=ZA ((a++b).filter fun n=>decide (n≠v∧n≠-v)):=if_neg (by simp [h0,h1,h2,h3,h4])
  simp -implicitDefEqProofs (disch:=omega) only [go_sem,↓reduceIte,reduceCtorEq,rA,rq,true_implies,and_true,lC,lN,lN,h0]
  iterate 12 (try (refine Qe 2 ?_; simp -implicitDefEqProofs (disch:=omega) only [go_sem,↓reduceIte,reduceCtorEq,rA,rq,true_implies,and_true,lC,lN,lN]))
  refine Ql hT Qg k1 (na v) 2 ?_
  simp -implicitDefEqProofs (disch:=omega) only [go_sem,↓reduceIte,reduceCtorEq,rA,rq]
  iterate 12 (try (refine Qe 2 ?_; simp -implicitDefEqProofs (disch:=omega) only [go_sem,↓reduceIte,reduceCtorEq,rA,rq,true_implies,and_true,lC,lN,lN,hng]))
  refine Ql hT Qg k2 (nb (-v)) 2 ?_
  simp -implicitDefEqProofs (disch:=omega) only [go_sem,↓reduceIte,reduceCtorEq,rA,rq]
  iterate 12 (try (refine Qe 2 ?_; simp -implicitDefEqProofs (disch:=omega) only [go_sem,↓reduceIte,reduceCtorEq,rA,rq,true_implies,and_true,lC,lN,lN,hng]))
  refine Ql hT Qg k3 (na (-v)) 2 ?_
  simp -implicitDefEqProofs (disch:=omega) only [go_sem,↓reduceIte,reduceCtorEq,rq]
  iterate 12 (try (refine Qe 2 ?_; simp -implicitDefEqProofs (disch:=omega) only [go_sem,↓reduceIte,reduceCtorEq,rA,rq,true_implies,and_true,lC,lN,lN]))
  refine Ql hT Qg k4 (nb v) 2 ?_
  simp -implicitDefEqProofs (disch:=omega) only [go_sem,↓reduceIte,reduceCtorEq,rq]
  iterate 24 (try (refine Qe 2 ?_; simp -implicitDefEqProofs (disch:=omega) only [go_sem,↓reduceIte,reduceCtorEq,rA,rq,rL,and_true,lC,lN,lN]))
  try refine Qe 1000 ?_
  try simp -implicitDefEqProofs (disch:=omega) only [go_sem,↓reduceIte,reduceCtorEq,rA,rq,rL,rT,Nat.reduceSub,Nat.reduceMul,Int.reduceToNat,Int.reduceLE,Int.reduceLT,Int.reduceEq,Int.reduceNe,Nat.reduceBEq,Nat.reduceBNe,false_implies,true_implies,true_and,and_true,not_true_eq_false,not_false_eq_true,lC,lN,lN,hng]
  have hl:([a,b]:List (List Int)).flatten=a++b:=by simp
  have hne:0<([a,b]:List (List Int)).flatten.length:=by rw [hl,lA]; have:=List.length_pos_of_mem h1; omega
  have hCc:=fun t'=>Qo3 (G:=G) (base:=0) (t:=t') (o:=[some (.arr t 3 [.int .i64 v])]) (L:=[a,b]) (tight:=true) hT (zL _) hne (by rw [hl,lA]; omega) (by simp)
  simp only [hl,List.map_cons,List.map_nil,row,cA,nA,lC,lN] at hCc
  refine call hT Ya (hCc _) 1000 fun u σ hu=>?_
  obtain ⟨t1,w1,ht1,rfl,rfl⟩:=hu
  simp -implicitDefEqProofs (disch:=omega) only [go_sem,↓reduceIte,reduceCtorEq,rq]
  refine call hT QF (Qo0 (P:=Tryz.prog) (G:=G) hT ⟨by omega,hv⟩ (by rw [lA]; omega)) 1000 fun u σ hu=>?_
  obtain ⟨rfl,t2,rfl⟩:=hu
  simp -implicitDefEqProofs (disch:=omega) only [go_sem,↓reduceIte,reduceCtorEq,rq]
  have hmem:∀ n∈(a++b).filter (fun n=>!decide (n=v∨n=-v)),-9223372036854775808≤n∧n≤9223372036854775807:=fun n hn=>by
   rcases List.mem_append.1 (List.mem_filter.1 hn).1 with h | h
   ·exact ba n h
   ·exact bb n h
  have hlen:((a++b).filter (fun n=>!decide (n=v∨n=-v))).length≤1000000:=by
   have:=List.length_filter_le (fun n=>!decide (n=v∨n=-v)) (a++b)
   rw [lA] at this; omega
  have hK:=QiA (G:=G) hT _ hmem hlen
  simp only [row] at hK
  have he:(a++b).filter (fun n=>!decide (n=v∨n=-v))=(a++b).filter fun n=>decide (n≠v∧n≠-v):=by
   congr 1; funext n; by_cases e1:n=v <;> by_cases e2:n=-v <;> simp [e1,e2]
  refine Qaq hT Yx hK (by simp [Qc,Qd]) 1000 fun u hu=>?_
  subst hu
  rw [he,hr]
  simp -implicitDefEqProofs (disch:=omega) only [go_sem,↓reduceIte,reduceCtorEq,rA,rq,rT,and_true,lC,lN,lN]
 ·rcases hu with ⟨hn,⟨hr,rfl⟩ | rfl⟩
  ·exact ⟨.tup [row [],.bool false],.tup _ _ (.cons _ _ _ _ (.lst _ _ _ _ _ .nil (.inl rfl)) (.cons _ _ _ _ (.refl _) .nil)),rfl,by rw [hr]⟩
  ·exact ⟨_,.refl _,hn,rfl⟩
end
section
attribute [local go_sem] nFq lR zA beq_self_eq_true QU zq3_0 zq3_1 zq3_2 zq3_3 zq3_4 zq3_5 zq3_6
def QrU (c:List Int):V:=.lst 1 (ints c) true
def Qmx (F:List (List Int)):V:=.lst 1 (F.map QrU) true
theorem QcH (c:List Int):Wk (QrU c) (row c):=.lst 1 1 _ _ true (WkL.refl _) (.inr rfl)
theorem Qn6 (F:List (List Int)):Wk (Qmx F) (rows F):=.lst 1 1 _ _ true (WkL.map fun c _=>QcH c) (.inr rfl)
theorem Qmq (v:Int) (F:List (List Int)):Wk (.agg [.int .i64 v,Qmx F]) (fml v F):=.agg _ _ (.cons _ _ _ _ (.refl _) (.cons _ _ _ _ (Qn6 F) .nil))
def kF:List (List Int):=[[1],[-1,2],[-2,3,4]]
theorem put_k:Qad 2 [[1,-2]]=[112,32,99,110,102,32,50,32,49,10,49,32,45,50,32,48,10]:=by kernel_rfl
theorem QtW (hT:Qq Tryz.prog tab) (K:Quu Tryz.prog) (It:QdU Tryz.prog G):Am.Pure Tryz.prog G Yn [] fun u=>u=.bool true:=by
 have h1:Am.Pure Tryz.prog G Yy [QrU [3,-1,3]] fun u=>u=.tup [row [-1,3],.bool true]:=by
  have h:=QiA (G:=G) hT [3,-1,3] (by decide) (by decide)
  rw [show ZA [3,-1,3]=([-1,3],true) by decide +kernel] at h
  exact Pure.args (.cons _ _ _ _ (QcH _) .nil) h
 have h2:Am.Pure Tryz.prog G Yy [QrU [1,-1]] fun u=>u=.tup [row [],.bool false]:=by
  have h:=QiA (G:=G) hT [1,-1] (by decide) (by decide)
  rw [show ZA [1,-1]=([],false) by decide +kernel] at h
  exact Pure.args (.cons _ _ _ _ (QcH _) .nil) h
 have h4:Am.Pure Tryz.prog G YN [QrU [1,2],QrU [-1,3],.int .i64 1] fun u=>u=.tup [row [2,3],.bool true]:=by
  have h:=QnF (G:=G) hT [1,2] [-1,3] 1 (by decide) (by decide) (by decide) (by decide) (by decide)
  rw [show X1 [1,2] [-1,3] 1=([2,3],true) by decide +kernel] at h
  exact Pure.args (.cons _ _ _ _ (QcH _) (.cons _ _ _ _ (QcH _) (.cons _ _ _ _ (.refl _) .nil))) h
 have h5:Am.Pure Tryz.prog G YD [.agg [.int .i64 2,Qmx [[1,-2]]]] fun u=>u=.tup [.lst 1 (Qf [112,32,99,110,102,32,50,32,49,10,49,32,45,50,32,48,10]) false,.int .i64 0]:=by
  have h:=Qt0 (G:=G) hT K It 2 [[1,-2]] (by decide) (by decide)
  rw [show right 2 [[1,-2]]=true by decide +kernel,if_pos rfl,put_k] at h
  exact Pure.args (.cons _ _ _ _ (Qmq _ _) .nil) h
 have h3:Am.Pure Tryz.prog G ZG [.agg [.int .i64 4,Qmx kF]] fun u=>u=.tup [row [1,2],.bool true]:=by
  have h:=QtY (G:=G) hT sortU 4 kF (by decide) (by decide)
  rw [show right 4 kF=true by decide +kernel,if_pos rfl,show Qen kF=some [1,2] by decide +kernel] at h
  exact Pure.args (.cons _ _ _ _ (Qmq _ _) .nil) h
 have hs:=fun (a:List Int) (ha:a.length≤9223372036854775807)=>(Pure.args (.cons _ _ _ _ (.refl _) (.cons _ _ _ _ (QcH _) .nil)) (QfO (P:=Tryz.prog) (G:=G) hT a a ha ha):Am.Pure Tryz.prog G Xn [row a,QrU a] fun u=>u=.bool (decide (a=a)))
 have hs1:=hs [-1,3] (by decide)
 have hs2:=hs [1,2] (by decide)
 have hs3:=hs [2,3] (by decide)
 simp only [decide_true] at hs1 hs2 hs3
 simp only [Qmx,QrU,row,ints,kF,List.map_cons,List.map_nil] at h1 h2 h3 h4 h5 hs1 hs2 hs3
 intro t
 refine Xk 0 (zL _) (Xf hT QK (by simp [QU]) (QH 60 ?_))
 simp -implicitDefEqProofs (disch:=omega) only [go_sem,↓reduceIte,reduceCtorEq,rA,rL]
 refine Ql hT Yx h1 (by simp [Qc,Qd]) 60 ?_
 simp -implicitDefEqProofs (disch:=omega) only [go_sem,↓reduceIte,reduceCtorEq,rA,rq,rL,rT]
 refine Ql hT Yx h2 (by simp [Qc,Qd]) 60 ?_
 simp -implicitDefEqProofs (disch:=omega) only [go_sem,↓reduceIte,reduceCtorEq,rA,rq,rL,rT]
 refine Ql hT QbP h3 (by simp [Qc,Qd]) 60 ?_
 simp -implicitDefEqProofs (disch:=omega) only [go_sem,↓reduceIte,reduceCtorEq,rA,rq,rL,rT]
 refine Ql hT Qax h4 (by simp [Qc,Qd]) 60 ?_
 simp -implicitDefEqProofs (disch:=omega) only [go_sem,↓reduceIte,reduceCtorEq,rA,rq,rL,rT]
 refine Ql hT Xj h5 (by simp [Qc,Qd]) 10 ?_
 simp -implicitDefEqProofs (disch:=omega) only [go_sem,↓reduceIte,reduceCtorEq,rA,rq,rT]
 iterate 8 (try (refine Qe 2 ?_; simp -implicitDefEqProofs (disch:=omega) only [go_sem,↓reduceIte,reduceCtorEq,rA,rq,rL,and_true]))
 refine Ql hT Qu hs1 (by simp [Qc,Qd]) 2 ?_
 simp -implicitDefEqProofs (disch:=omega) only [go_sem,↓reduceIte,reduceCtorEq,rq]
 iterate 16 (try (refine Qe 2 ?_; simp -implicitDefEqProofs (disch:=omega) only [go_sem,↓reduceIte,reduceCtorEq,rA,rq,rL,and_true]))
 refine Ql hT Qu hs2 (by simp [Qc,Qd]) 2 ?_
 simp -implicitDefEqProofs (disch:=omega) only [go_sem,↓reduceIte,reduceCtorEq,rq]
 iterate 16 (try (refine Qe 2 ?_; simp -implicitDefEqProofs (disch:=omega) only [go_sem,↓reduceIte,reduceCtorEq,rA,rq,rL,and_true]))
 refine Ql hT Qu hs3 (by simp [Qc,Qd]) 2 ?_
 simp -implicitDefEqProofs (disch:=omega) only [go_sem,↓reduceIte,reduceCtorEq,rq]
 iterate 16 (try (refine Qe 2 ?_; simp -implicitDefEqProofs (disch:=omega) only [go_sem,↓reduceIte,reduceCtorEq,rA,rq]))
 simp only [evW]
 have e1:=XL [112,32,99,110,102,32,50,32,49,10,49,32,45,50,32,48,10]
 have e2:(∀ c,c∈Qf [112,32,99,110,102,32,50,32,49,10,49,32,45,50,32,48,10]→isByte c=true)=True:=eq_true (XM _)
 have e3:=YK [112,32,99,110,102,32,50,32,49,10,49,32,45,50,32,48,10]
 simp -implicitDefEqProofs (disch:=omega) only [go_sem,↓reduceIte,reduceCtorEq,rq,Qc6,e1,e2,e3]
 iterate 8 (try (refine Qe 2 ?_; simp -implicitDefEqProofs (disch:=omega) only [go_sem,↓reduceIte,reduceCtorEq,rA,rq,and_true]))
end
end Go.Proofs.YtingdebioipemaaGreatDoor
namespace Go.Proofs.YtingdebioipemaaGreatDoor
open Go Go.Am Go.Cl Go.Ct
set_option maxRecDepth 100000
variable {G:Nat→Option V}
theorem Qnd {m n:Int} (hm:Sml m) (hn:Sml n) (h:Qn m=Qn n):m=n:=by
 have h1:=Qee hm
 rw [h,Qee hn] at h1
 injection h1 with h1; exact h1.symm
theorem Qjl:∀ {a b:List Int},(∀ n∈a,Sml n)→(∀ n∈b,Sml n)→a.map Qn=b.map Qn→a=b
 | [],[],_,_,_=>rfl
 | [],_::_,_,_,h=>by simp at h
 | _::_,[],_,_,h=>by simp at h
 | m::a,n::b,ha,hb,h=>by
   rw [List.map_cons,List.map_cons] at h
   injection h with h1 h2
   rw [Qnd (ha m (by simp)) (hb n (by simp)) h1,Qjl (fun n hn=>ha n (by simp [hn])) (fun n hn=>hb n (by simp [hn])) h2]
variable {F:List (List Int)} {v:Int} {b:List UInt8}
theorem Qg9 {w:Int} {H:List (List Int)} (h1:Good b v F) (h2:Good b w H):v=w∧F=H:=by
 obtain ⟨r1,p1⟩:=h1
 obtain ⟨r2,p2⟩:=h2
 have e1:=Qa4 r1
 have e2:=Qa4 r2
 rw [p1] at e1
 rw [p2] at e2
 rw [e1] at e2
 injection e2 with _ e2; injection e2 with _ e2; injection e2 with e3 e2; injection e2 with _ e4
 have hv:=Qnd (Q7 r1).1 (Q7 r2).1 e3
 have hn:=Qjl (Qf7 r1) (Qf7 r2) e4
 have f1:=Qcu F [] (fun c hc n hn=>((Q7 r1).2.2 c hc n hn).1)
 have f2:=Qcu H [] (fun c hc n hn=>((Q7 r2).2.2 c hc n hn).1)
 rw [hn,f2] at f1
 simp at f1
 exact ⟨hv,f1.symm⟩
theorem Qmt:∀ (l cur:List UInt8),(wD cur l).length≤l.length
 | [],cur=>by simp [wD]
 | b::r,cur=>by
   unfold wD
   split
   ·have:=Qmt r []; simp; omega
   ·have:=Qmt r (cur++[b]); simp; omega
theorem Qi9:∀ (F:List (List Int)),F.length≤(ZE F).length∧∀ c∈F,c.length≤(ZE F).length
 | []=>⟨by simp,fun c h=>by cases h⟩
 | c::F=>by
   obtain ⟨h1,h2⟩:=Qi9 F
   have e:ZE (c::F)=(c++[0])++ZE F:=by simp [ZE]
   rw [e]
   simp only [lA,lC,lN]
   refine ⟨by omega,fun d hd=>?_⟩
   rcases List.mem_cons.1 hd with rfl | hd
   ·omega
   ·have:=h2 d hd; omega
theorem Qox (h:Good b v F):F.length≤b.length∧∀ c∈F,c.length≤b.length:=by
 obtain ⟨r1,p1⟩:=h
 have e1:=Qa4 r1
 rw [p1] at e1
 have h1:=Qmt b []
 rw [e1] at h1
 simp only [lC,lM] at h1
 obtain ⟨h2,h3⟩:=Qi9 F
 exact ⟨by omega,fun c hc=>by have:=h3 c hc; omega⟩
theorem Qhu:∀ {F:List (List Int)},(∀ c∈F,c.length≤30)→(∀ c∈F,∀ n∈c,n≠0∧-16777216≤n∧n≤16777216)→(clB F).length≤662 * F.length
 | [],_,_=>by simp [clB]
 | c::F,hc,h=>by
   have h1:=Z3 (h c (by simp))
   have h2:=hc c (by simp)
   have h3:=Qhu (F:=F) (fun d hd=>hc d (by simp [hd])) fun d hd=>h d (by simp [hd])
   simp only [clB,List.map_cons,List.flatten_cons,lA,lC,lN] at *
   omega
theorem QmI (hr:right v F=true) (hF:F.length≤60) (hc:∀ c∈F,c.length≤30):(Qad v F).length≤100000∧(Qad v F).count 10≤1000∧∀ l∈splitB 10 (Qad v F),l.length≤1000:=by
 obtain ⟨hs1,hs2,hs3⟩:=Q7 hr
 have hnz:∀ c∈F,∀ n∈c,n≠0∧-16777216≤n∧n≤16777216:=fun c h n hn=>hs3 c h n hn
 have l1:=Ze (n:=v) (by unfold Sml at hs1; omega)
 have l2:=Ze (n:=(F.length:Int)) (by omega)
 have hcl:=Qhu hc hnz
 have hls:=Qex hr
 have hsl:=QcN 10 (Qad v F)
 refine ⟨?_,?_,fun l hl=>?_⟩
 ·unfold Qad X9; simp; omega
 ·rw [hls] at hsl; simp at hsl; omega
 ·rw [hls] at hl
  rcases List.mem_cons.1 hl with rfl | hl
  ·unfold Qe4; simp; omega
  ·rcases List.mem_append.1 hl with hl | hl
   ·obtain ⟨c,hcm,rfl⟩:=List.mem_map.1 hl
    have:=Z3 (hnz c hcm)
    have:=hc c hcm
    unfold Qcr; simp; omega
   ·rw [List.mem_singleton] at hl; subst hl; simp
section
attribute [local go_sem] nFq nT cA nA lR zA zL and_true beq_self_eq_true bne_self_eq_false Q3 decide_false decide_true false_implies gt_iff_lt Qs not_false_eq_true Qy zq0_0 zq0_1 QrR QrQ QrP QrO zq0_2 zq0_3 zq0_4 zq0_5 zq0_6 zq0_7 zq0_8 zq0_9 true_and true_implies
structure TextK (G:Nat→Option V):Prop where
 buf:Quu Tryz.prog
 ito:QdU Tryz.prog G
 ato:QnX Tryz.prog
 err:QnU G
 txt:Qpa G
variable {u:V} {b:List UInt8}
theorem Qhx (hT:Qq Tryz.prog tab) (hl:b.length≤1000) {u':V} (h:Qpb b u) (h':Qpb b u') :
 ∃ (X:V) (k:Int),u=.tup [X,.int .i64 k]∧u'=.tup [X,.int .i64 k]∧Qd X=true∧(∃ y0 z C S,X=.agg [y0,.lst z C S])∧Am.Pure Tryz.prog G XF [X,X] fun r=>r=.bool true:=by
 rcases h with ⟨v,F,hg,rfl⟩ | ⟨hn,rfl⟩
 ·rcases h' with ⟨w,H,hg',rfl⟩ | ⟨hn',rfl⟩
  ·obtain ⟨rfl,rfl⟩:=Qg9 hg hg'
   obtain ⟨h1,h2⟩:=Qox hg
   have hS:=Qiw (P:=Tryz.prog) (G:=G) hT v v F F (by omega) (by omega) (fun c h=>by have:=h2 c h; omega) (fun c h=>by have:=h2 c h; omega)
   simp only [and_self,decide_true] at hS
   exact ⟨fml v F,0,rfl,rfl,by simp [fml,rows,Qd,Qc],⟨_,_,_,_,rfl⟩,hS⟩
  ·exact absurd hg (hn' _ _)
 ·rcases h' with ⟨w,H,hg',rfl⟩ | ⟨hn',rfl⟩
  ·exact absurd hg' (hn _ _)
  ·have hS:=Qiw (P:=Tryz.prog) (G:=G) hT 0 0 [] [] (by simp) (by simp) (by simp) (by simp)
   simp only [and_self,decide_true] at hS
   have hw:Wk (.agg [.int .i64 0,.lst 0 [] true]) (fml 0 []):=.agg _ _ (.cons _ _ _ _ (.refl _) (.cons _ _ _ _ (.lst 0 1 [] [] true .nil (.inl rfl)) .nil))
   exact ⟨_,2,rfl,rfl,rfl,⟨_,_,_,_,rfl⟩,Pure.args (.cons _ _ _ _ hw (.cons _ _ _ _ hw .nil)) hS⟩
theorem Qjj (h:Qpb b u):∃ (y0:Int) (z:Nat) (C:List V) (S:Bool) (k:Int),u=.tup [.agg [.int .i64 y0,.lst z C S],.int .i64 k]:=by
 rcases h with ⟨v,F,_,rfl⟩ | ⟨_,rfl⟩
 ·exact ⟨_,_,_,_,_,rfl⟩
 ·exact ⟨_,_,_,_,_,rfl⟩
theorem Qhz (hT:Qq Tryz.prog tab) (K:TextK G) (v:Int) (F:List (List Int)) (b:List UInt8) (T:Bool) (hF:F.length≤9223372036854775807) (hFc:∀ c∈F,c.length≤9223372036854775807) (hb:b.length≤9223372036854775807) :
 Am.Pure Tryz.prog G XG [fml v F,.lst 1 (Qf b) T] fun u=>u=.bool true:=by
 have hW:=QtW (G:=G) hT K.buf K.ito
 have hf:=c_few5 (P:=Tryz.prog) (G:=G) hT v F 60 (by omega) hF hFc
 have hp:=QtX (P:=Tryz.prog) (G:=G) hT v F
 have hnr:=QmH F
 have nF:Qc [fml v F]=true:=by simp [fml,rows,Qc,Qd]
 have nF60:Qc [fml v F,.int .i64 60]=true:=by simp [fml,rows,Qc,Qd]
 have c60:((60:Nat):Int)=60:=rfl
 intro t
 simp only [fml,rows,c60] at hf hp nF nF60 ⊢
 refine Xk 0 (zL _) (Xf hT Y9 (by simp [Qy]) (QH 1000 ?_))
 simp -implicitDefEqProofs (disch:=omega) only [go_sem,↓reduceIte,reduceCtorEq,rA,rq]
 refine Ql hT YV hf nF60 1000 ?_
 cases h1:QtD F 60 with
 | false =>
   simp -implicitDefEqProofs (disch:=omega) only [go_sem,↓reduceIte,reduceCtorEq,rq]
   refine Ql hT QK hW rfl 1000 ?_
   simp -implicitDefEqProofs (disch:=omega) only [go_sem,↓reduceIte,reduceCtorEq,rq]
 | true =>
   by_cases h2:(1000:Int)<(b.length:Int)
   ·simp -implicitDefEqProofs (disch:=omega) only [go_sem,↓reduceIte,reduceCtorEq,rA,rq,h2]
    refine Ql hT QK hW rfl 1000 ?_
    simp -implicitDefEqProofs (disch:=omega) only [go_sem,↓reduceIte,reduceCtorEq,rq]
   have hfw:F.length≤60∧∀ c∈F,c.length≤30:=by
    unfold QtD at h1
    simp only [Bool.and_eq_true,decide_eq_true_eq,List.all_eq_true] at h1
    exact h1
   have hP:=Qt0 (G:=G) hT K.buf K.ito v F (by omega) (fun c h=>by have:=hfw.2 c h; omega)
   have hP2:=Qsp (G:=G) hT K.ito v F (by omega) (fun c h=>by have:=hfw.2 c h; omega)
   have hbc:b.count 10≤b.length:=List.count_le_length
   have hG:=c_Get (G:=G) hT K.buf K.ito K.ato K.err K.txt b T (by omega) (by omega) (fun l h=>by have:=QaX 10 b l h; omega)
   have hG2:=c_rGet (G:=G) hT K.ito b T (by omega)
   have nb:Qc [V.lst 1 (Qf b) T]=true:=by simp [Qc,Qd]
   simp -implicitDefEqProofs (disch:=omega) only [go_sem,↓reduceIte,reduceCtorEq,rA,rq,h2]
   cases hr:right v F with
   | false =>
     rw [hr,if_neg (by simp)] at hP hP2
     simp only [fml,rows] at hP hP2
     refine Ql hT Xj hP nF 1000 ?_
     simp -implicitDefEqProofs (disch:=omega) only [go_sem,↓reduceIte,reduceCtorEq,rA,rq,rT]
     refine Ql hT QZ hp nF 1000 ?_
     simp -implicitDefEqProofs (disch:=omega) only [go_sem,↓reduceIte,reduceCtorEq,rq]
     refine Ql hT Qw hP2 nF 1000 ?_
     simp -implicitDefEqProofs (disch:=omega) only [go_sem,↓reduceIte,reduceCtorEq,rA,rq,rT]
     simp only [evW]
     simp -implicitDefEqProofs (disch:=omega) only [go_sem,↓reduceIte,reduceCtorEq,rA,rq,Int.reduceEq]
     refine ⟨(fun c h=>by cases h),?_⟩
     refine Qaq hT Zw hG nb 1000 fun u hu=>?_
     obtain ⟨y0,z,C,S,k,rfl⟩:=Qjj hu
     simp -implicitDefEqProofs (disch:=omega) only [go_sem,↓reduceIte,reduceCtorEq,rA,rq,rT]
     refine Qaq hT XS hG2 nb 1000 fun u' hu'=>?_
     obtain ⟨X,k2,e1,e2,hnx,_,hS⟩:=Qhx (G:=G) hT (by omega) hu hu'
     injection e1 with e1
     injection e1 with e1 e3
     injection e3 with e3
     injection e3 with _ e3
     subst e1; subst e3; subst e2
     have nX:Qc [V.agg [.int .i64 y0,.lst z C S],V.agg [.int .i64 y0,.lst z C S]]=true:=by simp only [Qc,hnx]; rfl
     simp -implicitDefEqProofs (disch:=omega) only [go_sem,↓reduceIte,reduceCtorEq,rA,rq,rT]
     refine Ql hT Q4 hS nX 1000 ?_
     simp -implicitDefEqProofs (disch:=omega) only [go_sem,↓reduceIte,reduceCtorEq,rA,rq]
     refine Ql hT QK hW rfl 1000 ?_
     simp -implicitDefEqProofs (disch:=omega) only [go_sem,↓reduceIte,reduceCtorEq,rA,rq]
   | true =>
     rw [hr,if_pos rfl] at hP hP2
     simp only [fml,rows] at hP hP2
     refine Ql hT Xj hP nF 1000 ?_
     simp -implicitDefEqProofs (disch:=omega) only [go_sem,↓reduceIte,reduceCtorEq,rA,rq,rT]
     refine Ql hT QZ hp nF 1000 ?_
     simp -implicitDefEqProofs (disch:=omega) only [go_sem,↓reduceIte,reduceCtorEq,rq]
     refine Ql hT Qw hP2 nF 1000 ?_
     simp -implicitDefEqProofs (disch:=omega) only [go_sem,↓reduceIte,reduceCtorEq,rA,rq,rT]
     have hfl:=XL (Qad v F)
     have hof:=YK (Qad v F)
     have hby:=XM (Qad v F)
     simp only [evW]
     simp -implicitDefEqProofs (disch:=omega) only [go_sem,↓reduceIte,reduceCtorEq,rA,rq,hfl,hof]
     obtain ⟨s1,s2,s3⟩:=QmI hr hfw.1 hfw.2
     have hGx:=c_Get (G:=G) hT K.buf K.ito K.ato K.err K.txt (Qad v F) false s1 s2 s3
     have nx:Qc [V.lst 1 (Qf (Qad v F)) false]=true:=by simp [Qc,Qd]
     refine Qaq hT Zw hGx nx 1000 fun u hu=>?_
     have hux:u=.tup [fml v F,.int .i64 0]:=by
      rcases hu with ⟨w,H,hg,rfl⟩ | ⟨hn,_⟩
      ·obtain ⟨rfl,rfl⟩:=Qg9 hg ⟨hr,rfl⟩
       rfl
      ·exact absurd ⟨hr,rfl⟩ (hn v F)
     have hS0:=Qiw (P:=Tryz.prog) (G:=G) hT v v F F (by omega) (by omega) (fun c h=>by have:=hfw.2 c h; omega) (fun c h=>by have:=hfw.2 c h; omega)
     simp only [and_self,decide_true,fml,rows] at hS0
     simp only [fml,rows] at hux
     subst hux
     have nS:Qc [V.agg [.int .i64 v,.lst 1 (F.map row) false],V.agg [.int .i64 v,.lst 1 (F.map row) false]]=true:=by simp [Qc,Qd]
     simp -implicitDefEqProofs (disch:=omega) only [go_sem,↓reduceIte,reduceCtorEq,rA,rq,rT]
     refine Ql hT QZ hp nF 1000 ?_
     simp -implicitDefEqProofs (disch:=omega) only [go_sem,↓reduceIte,reduceCtorEq,rA,rq]
     refine Ql hT Q4 hS0 nS 1000 ?_
     simp -implicitDefEqProofs (disch:=omega) only [go_sem,↓reduceIte,reduceCtorEq,rA,rq]
     refine Qaq hT Zw hG nb 1000 fun u hu=>?_
     obtain ⟨y0,z,C,S,k,rfl⟩:=Qjj hu
     simp -implicitDefEqProofs (disch:=omega) only [go_sem,↓reduceIte,reduceCtorEq,rA,rq,rT]
     refine Qaq hT XS hG2 nb 1000 fun u' hu'=>?_
     obtain ⟨X,k2,e1,e2,hnx,_,hS⟩:=Qhx (G:=G) hT (by omega) hu hu'
     injection e1 with e1
     injection e1 with e1 e3
     injection e3 with e3
     injection e3 with _ e3
     subst e1; subst e3; subst e2
     have nX:Qc [V.agg [.int .i64 y0,.lst z C S],V.agg [.int .i64 y0,.lst z C S]]=true:=by simp only [Qc,hnx]; rfl
     simp -implicitDefEqProofs (disch:=omega) only [go_sem,↓reduceIte,reduceCtorEq,rA,rq,rT]
     refine Ql hT Q4 hS nX 1000 ?_
     simp -implicitDefEqProofs (disch:=omega) only [go_sem,↓reduceIte,reduceCtorEq,rA,rq]
     refine Ql hT QK hW rfl 1000 ?_
     simp -implicitDefEqProofs (disch:=omega) only [go_sem,↓reduceIte,reduceCtorEq,rA,rq]
end
end Go.Proofs.YtingdebioipemaaGreatDoor
