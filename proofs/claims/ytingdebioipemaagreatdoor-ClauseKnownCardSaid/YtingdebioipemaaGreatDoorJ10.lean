/- slices.Grow, of nothing. -/
import Derived.Test.YtingdebioipemaaGreatDoorJ9
import Derived.Test.YtingdebioipemaaGreatDoorShG
import Derived.Laws.AppendOwn
import Derived.Test.YtingdebioipemaaGreatDoorJ4
import Derived.Test.YtingdebioipemaaGreatDoorJ5
import Derived.Test.YtingdebioipemaaGreatDoorSh2
import Derived.Test.YtingdebioipemaaGreatDoorJ8
import Derived.Test.YtingdebioipemaaGreatDoorJ3
open Nat renaming reduceEqDiff → rq, reduceAdd → rA, reduceLeDiff → rL, reduceLT → rT, zero_add → zA, le_refl → lR, zero_le → zL, add_zero → aZ
open List renaming length_cons → lC, length_nil → lN, take_succ_cons → tS, length_append → lAq, nil_append → nAq, cons_append → cAq, append_assoc → aA, take_nil → tN, take_zero → tZ, length_map → lM
open Bool renaming not_false → nFq, not_true → nT
namespace Go.Proofs.YtingdebioipemaaGreatDoor
open Go Go.Am Go.Cl
set_option maxRecDepth 100000
variable {G:Nat→Option V}
theorem c_Grow {base t n:Nat} {o:List (Option Ob)} (hn:0<n) (hl:n≤1000000) :
 C Tryz.prog G base Z5 [.lst 0 [] true,.int .i64 n] ⟨t,o⟩ fun r σ'=>r=.sl o.length t 0 1 0 none∧σ'=⟨t+1,o++[some (.arr t 3 [])]⟩:=by
 obtain ⟨i0,hi0,hz0,hs0,hb0⟩:∃ i0,Tryz.prog.info? 3=some i0∧i0.zero=some (.int .i64 0)∧i0.size=1∧i0.bytes=8:=⟨_,rfl,rfl,rfl,rfl⟩
 refine C_grow fun a w=>?_
 refine (Any8.slices_Grow_grow Tryz.growI i0 (.int .i64 0) hi0 hz0 (by omega) a 0 0 n [] w (lR _) (by omega) (by rw [hb0]; omega) (by omega) (by simp) (fun _=>rfl) (fun a _ j v h=>by simp at h)).mono fun e w' ⟨h1,h2⟩=>?_
 have hge:=grownCap_ge w (0+n) 0 3
 refine ⟨_,_,?_,h2⟩
 rw [h1]
 congr 2
 simp only [Array.size_append,size_zeroCells,List.size_toArray,lN]
 show _=0+(0+n - 0) * 1+(_ - (0+n)) * 1
 have:Tryz.growI_ren.t 25=3:=rfl
 rw [this]
 omega
section
attribute [local go_sem] nT lM lR Nat.mul_one Nat.succ_ne_zero zA and_true decide_false decide_true Qe Qt Xn QxT QxS Qrl Qrk Qrj Qri Qrh Qrg QxR QxQ QxP QxO QxN QxM QxL QxK true_and true_implies
variable {L:List (List Int)}
theorem Qll {i:Nat} {c:List Int} (h:L[i]?=some c):(L.take (i+1)).flatten=(L.take i).flatten++c:=by
 rw [Qp h,List.flatten_append]; simp
theorem QsF (i:Nat):(L.take i).flatten.length≤L.flatten.length:=by
 have:=congrArg List.length (congrArg List.flatten (List.take_append_drop i L))
 rw [List.flatten_append,lAq] at this
 omega
theorem QuN (hT:Qn Tryz.prog tab) {base t:Nat} {o:List (Option Ob)} {tight:Bool} (hb:base≤o.length) (h0:0<L.flatten.length) (hl:L.flatten.length≤1000000) (hL:L.length≤1000) :
 C Tryz.prog G base Zn [.lst 1 (L.map row) tight] ⟨t,o⟩ fun v σ=>∃ t' w,t≤t'∧v=.sl o.length w 0 1 L.flatten.length none∧σ=⟨t',o++[some (.arr w 3 (ints L.flatten))]⟩:=by
 refine QM hT Zi (by simp [Xn]) (Qx 1000 ?_)
 simp -implicitDefEqProofs (disch:=omega) only [go_sem,↓reduceIte,reduceCtorEq,rq]
 refine XZ L (fun i fr σ=>Qi fr 0=.lst 1 (L.map row) tight∧Qi fr 3=.int .i64 ((L.take i).flatten.length:Nat)∧Qi fr 9=.lst 1 (L.map row) tight∧Qi fr 10=.int .i64 L.length∧Qi fr 11=.int .i64 ((i:Nat):Int)∧σ=⟨t,o⟩) (fun e fr σ=>e=.ex 0∧Qi fr 0=.lst 1 (L.map row) tight∧Qi fr 3=.int .i64 L.flatten.length∧σ=⟨t,o⟩) ?_ (fun i c hci fr σ hJ=>?_) (fun i hi fr σ hJ=>?_) (fun e fr σ hE=>?_)
 ·simp -implicitDefEqProofs (disch:=omega) only [go_sem,↓reduceIte,reduceCtorEq,rq]
  simp
 ·obtain ⟨f0,f3,f9,f10,f11,rfl⟩:=hJ
  obtain ⟨hlt,hD,e2⟩:=Zz hci (by omega)
  have hfl:=Qll hci
  have hle:=QsF (L:=L) (i+1)
  rw [hfl,lAq] at hle
  have e4:IntKind.i64.wrap (((L.take i).flatten.length:Int)+(c.length:Int))=(((L.take i).flatten.length+c.length:Nat):Int):=by
   rw [QcT (by omega)]; omega
  have h5:¬ (((L.take i).flatten.length+c.length:Nat):Int)<0:=by omega
  refine Qh [(0,.lst 1 (L.map row) tight),(3,.int .i64 ((L.take i).flatten.length:Nat)),(9,.lst 1 (L.map row) tight),(10,.int .i64 L.length),(11,.int .i64 ((i:Nat):Int))] ⟨f0,f3,f9,f10,f11,trivial⟩  1000 ?_
  simp -implicitDefEqProofs (disch:=omega) only [go_sem,↓reduceIte,reduceCtorEq,rq,hlt,hD,e4,h5]
  refine ⟨_,_,Shift.refl _ _ _ _,?_⟩
  simp -implicitDefEqProofs (disch:=omega) only [go_sem,↓reduceIte,reduceCtorEq,rq,e2,hfl,lAq]
 ·obtain ⟨f0,f3,f9,f10,f11,rfl⟩:=hJ
  refine Qh [(0,.lst 1 (L.map row) tight),(3,.int .i64 ((L.take i).flatten.length:Nat)),(9,.lst 1 (L.map row) tight),(10,.int .i64 L.length),(11,.int .i64 ((i:Nat):Int))] ⟨f0,f3,f9,f10,f11,trivial⟩  1000 ?_
  simp -implicitDefEqProofs (disch:=omega) only [go_sem,↓reduceIte,reduceCtorEq,rq,hi,Nat.lt_irrefl,List.take_length]
 ·obtain ⟨rfl,f0,f3,rfl⟩:=hE
  refine Qc 1000 ?_
  simp -implicitDefEqProofs (disch:=omega) only [go_sem,↓reduceIte,f3]
  refine call hT Qdl (c_Grow h0 hl) 1000 fun u σ hu=>?_
  obtain ⟨rfl,rfl⟩:=hu
  simp -implicitDefEqProofs (disch:=omega) only [go_sem,↓reduceIte,reduceCtorEq,f0]
  refine XZ L (fun i fr σ=>∃ t' w,t≤t'∧Qi fr 6=.sl o.length w 0 1 (L.take i).flatten.length none∧Qi fr 25=.lst 1 (L.map row) tight∧Qi fr 26=.int .i64 L.length∧Qi fr 27=.int .i64 ((i:Nat):Int)∧σ=⟨t',o++[some (.arr w 3 (ints (L.take i).flatten))]⟩) (fun e fr σ=>∃ t' w,t≤t'∧e=.ex 2∧Qi fr 6=.sl o.length w 0 1 L.flatten.length none∧σ=⟨t',o++[some (.arr w 3 (ints L.flatten))]⟩) ⟨t+1,t,by omega,?_⟩ (fun i c hci fr σ hJ=>?_) (fun i hi fr σ hJ=>?_) (fun e fr σ hE=>?_)
  ·simp -implicitDefEqProofs (disch:=omega) only [go_sem,↓reduceIte,rq]
   simp [ints]
  ·obtain ⟨t',w,ht,f6,f25,f26,f27,rfl⟩:=hJ
   obtain ⟨hlt,hD,e2⟩:=Zz hci (by omega)
   have hfl:=Qll hci
   have hap:ints (L.take i).flatten++ints c=ints ((L.take i).flatten++c):=by simp [ints]
   have q1:∀ x:Option Ob,(o++[x])[o.length]?=some x:=fun x=>by simp
   have q2:∀ x y:Option Ob,(o++[x]).set o.length y=o++[y]:=fun x y=>by simp
   have q3:(List.map V.cells (ints c)).flatten=ints c:=by
    clear hap hfl e2 hD hlt hci
    induction c with
    | nil=>rfl
    | cons n c ih=>simpa [ints,V.cells] using ih
   have hle:=QsF (L:=L) (i+1)
   rw [hfl,lAq] at hle
   have h8:((L.take i).flatten.length+c.length) * 8≤140737488355328:=by omega
   have h9:(L.take i).flatten.length+c.length≤9223372036854775807:=by omega
   refine Qh [(6,.sl o.length w 0 1 (L.take i).flatten.length none),(25,.lst 1 (L.map row) tight),(26,.int .i64 L.length),(27,.int .i64 ((i:Nat):Int))] ⟨f6,f25,f26,f27,trivial⟩  1000 ?_
   simp -implicitDefEqProofs (disch:=omega) only [go_sem,↓reduceIte,rq,hlt,hD,hb,q1,q2,q3,h8,h9]
   refine ⟨_,_,Shift.refl _ _ _ _,t'+1,t',by omega,?_⟩
   simp -implicitDefEqProofs (disch:=omega) only [go_sem,↓reduceIte,rq,e2,hfl,hap,lAq]
  ·obtain ⟨t',w,ht,f6,f25,f26,f27,rfl⟩:=hJ
   refine Qh [(6,.sl o.length w 0 1 (L.take i).flatten.length none),(25,.lst 1 (L.map row) tight),(26,.int .i64 L.length),(27,.int .i64 ((i:Nat):Int))] ⟨f6,f25,f26,f27,trivial⟩  1000 ?_
   simp -implicitDefEqProofs (disch:=omega) only [go_sem,↓reduceIte,rq,hi,Nat.lt_irrefl,List.take_length]
   exact ⟨t',w,ht,rfl,rfl,rfl⟩
  ·obtain ⟨t',w,ht,rfl,f6,rfl⟩:=hE
   refine Qc 1000 ?_
   simp -implicitDefEqProofs (disch:=omega) only [go_sem,↓reduceIte,rq,f6]
   exact ⟨t',w,ht,rfl,rfl,rfl⟩
end
section
attribute [local go_sem] nFq nT aZ lR Nat.mul_one Nat.one_mul Nat.succ_ne_zero zA zL Nat.zero_mul Option.getD_none Option.getD_some Option.isSome_none Option.isSome_some beq_self_eq_true bne_self_eq_false Y5 X6 QxJ QxI zqg_0 zqg_1 zqg_2 zqg_3 decide_false decide_true ge_iff_le gt_iff_lt Qt
variable {v:Int}
theorem QnF (h:0<v∧v≤9223372036854775807):IntKind.i64.wrap (0 - v)=-v:=by
 rw [QcT (by omega)]; omega
variable {c:List Int} {tb:Nat} {P:Program}
theorem Qlf (hT:Qn P tab) {base kb T:Nat} {o:List (Option Ob)} (hv:0<v∧v≤9223372036854775807) (h1:o[kb]?=some (some (.arr tb T [.int .i64 v]))) :
 QdN P G base (.fn (.func Za) [] [.ptr kb tb 0]) o (fun n=>decide (n=v∨n=-v)) c:=fun t n hn=>by
 refine CV.of hT QaT (QM hT QaT (by simp [X6]) (Qx 1000 ?_))
 have h5:=QnF hv
 by_cases e:n=v
 ·have e':(n==v)=true:=by simpa using e
  have hd:(n=v∨n=-v)=True:=eq_true (.inl e)
  simp -implicitDefEqProofs (disch:=omega) only [go_sem,↓reduceIte,reduceCtorEq,rq,h1,e',hd]
  exact ⟨t,lR _,rfl⟩
 ·have e':(n==v)=false:=by simpa using e
  by_cases e2:n=-v
  ·have e2':(n==-v)=true:=by simpa using e2
   have hd:(n=v∨n=-v)=True:=eq_true (.inr e2)
   simp -implicitDefEqProofs (disch:=omega) only [go_sem,↓reduceIte,reduceCtorEq,rA,rq,h1,h5,e',hd,e2']
   exact ⟨t,lR _,rfl⟩
  ·have e2':(n==-v)=false:=by simpa using e2
   have hd:(n=v∨n=-v)=False:=eq_false (by simp [e,e2])
   simp -implicitDefEqProofs (disch:=omega) only [go_sem,↓reduceIte,reduceCtorEq,rA,rq,h1,h5,e',hd,e2']
   exact ⟨t,lR _,rfl⟩
theorem QuI (hT:Qn P tab) {w t:Nat} (hv:0<v∧v≤9223372036854775807) (hl:c.length≤1000000) :
 C P G 0 Xi [.sl 1 w 0 1 c.length none,.fn (.func Za) [] [.ptr 0 tb 0]] ⟨t,[some (.arr tb 3 [.int .i64 v]),some (.arr w 3 (ints c))]⟩
   fun u σ=>u=.lst 1 (ints (c.filter fun n=>!decide (n=v∨n=-v))) false∧∃ t',σ=⟨t',[some (.arr tb 3 [.int .i64 v]),none]⟩:=by
 have h:=QdF (P:=P) (G:=G) (base:=1) (t:=t) (w:=w) hT (o:=[some (.arr tb 3 [.int .i64 v])]) (c:=c) (lR _) (fun w' cells=>Qlf hT (kb:=0) hv rfl) hl
 refine C.wk (base':=1) (zL _) (by simp) (Qoo h fun u σ ⟨t',cells,ht,hn,e1,e2⟩=>?_)
 subst e1 e2
 refine ⟨1,w,3,_,lR _,rfl,Yl (QQ _) hn,?_,t',?_⟩
 ·simp [X3,Qbc,Qe]
 ·simp [Q5]
theorem Qfx (hT:Qn Tryz.prog tab) (a b:List Int) (v:Int) (ha:a.length≤1000) (hb:b.length≤1000) (ba:∀ n∈a,-9223372036854775808≤n∧n≤9223372036854775807) (bb:∀ n∈b,-9223372036854775808≤n∧n≤9223372036854775807) (hv:v≤9223372036854775807) :
 Pure Tryz.prog G Qai [row a,row b,.int .i64 v] fun u=>u=.tup [row (Qr a b v).1,.bool (Qr a b v).2]:=by
 have hA:=fun x=>Qjy (P:=Tryz.prog) (G:=G) hT a x (by omega)
 have hB:=fun x=>Qjy (P:=Tryz.prog) (G:=G) hT b x (by omega)
 have na:∀ x:Int,Qb [V.lst 1 (ints a) false,V.int .i64 x]=true:=fun x=>by simp [Qb,Qd]
 have nb:∀ x:Int,Qb [V.lst 1 (ints b) false,V.int .i64 x]=true:=fun x=>by simp [Qb,Qd]
 simp only [row] at hA hB
 intro t
 refine QfG (Q:=fun u _=>Qd u=true∧((Qr a b v=([],false)∧u=.tup [.lst 0 [] true,.bool false])∨u=.tup [row (Qr a b v).1,.bool (Qr a b v).2])) ?_ fun u σ hu=>?_
 ·simp only [row]
  refine Xa 0 (zL _) (QM hT Yk (by simp [Y5]) (Qx 12 ?_))
  by_cases h0:v≤0
  ·have h0':decide (v≤0)=true:=decide_eq_true h0
   have hr:Qr a b v=([],false):=if_pos (.inl h0)
   simp -implicitDefEqProofs (disch:=omega) only [go_sem,↓reduceIte,reduceCtorEq,rA,rq,true_implies,and_true,lC,lN,lN,h0]
   iterate 30 (try (refine Qc 2 ?_; simp -implicitDefEqProofs (disch:=omega) only [go_sem,↓reduceIte,reduceCtorEq,rq,true_and,and_true,lC,lN,lN]))
   try refine Qc 1000 ?_
   try simp -implicitDefEqProofs (disch:=omega) only [go_sem,↓reduceIte,reduceCtorEq,rA,rq,rL,rT,Nat.reduceSub,Nat.reduceMul,Int.reduceToNat,Int.reduceLE,Int.reduceLT,Int.reduceEq,Int.reduceNe,Nat.reduceBEq,Nat.reduceBNe,false_implies,true_implies,true_and,and_true,not_true_eq_false,not_false_eq_true,lC,lN,lN]
   exact .inl hr
  have h0':decide (v≤0)=false:=decide_eq_false h0
  have hng:=QnF (v:=v) ⟨by omega,hv⟩
  have k1:=hA v
  by_cases h1:v∈a
  rotate_left
  ·rw [decide_eq_false h1] at k1
   have hr:Qr a b v=([],false):=if_pos (by simp [h0,h1])
   simp -implicitDefEqProofs (disch:=omega) only [go_sem,↓reduceIte,reduceCtorEq,rA,rq,true_implies,and_true,lC,lN,lN,h0]
   iterate 12 (try (refine Qc 2 ?_; simp -implicitDefEqProofs (disch:=omega) only [go_sem,↓reduceIte,reduceCtorEq,rA,rq,true_implies,and_true,lC,lN,lN]))
   refine Qj hT Ql k1 (na v) 2 ?_
   simp -implicitDefEqProofs (disch:=omega) only [go_sem,↓reduceIte,reduceCtorEq,rA,rq]
   iterate 24 (try (refine Qc 2 ?_; simp -implicitDefEqProofs (disch:=omega) only [go_sem,↓reduceIte,reduceCtorEq,rq,true_and,and_true,lC,lN,lN]))
   try refine Qc 1000 ?_
   try simp -implicitDefEqProofs (disch:=omega) only [go_sem,↓reduceIte,reduceCtorEq,rA,rq,rL,rT,Nat.reduceSub,Nat.reduceMul,Int.reduceToNat,Int.reduceLE,Int.reduceLT,Int.reduceEq,Int.reduceNe,Nat.reduceBEq,Nat.reduceBNe,false_implies,true_implies,true_and,and_true,not_true_eq_false,not_false_eq_true,lC,lN,lN,hng]
   exact .inl hr
  rw [decide_eq_true h1] at k1
  have k2:=hB (-v)
  by_cases h2:-v∈b
  rotate_left
  ·rw [decide_eq_false h2] at k2
   have hr:Qr a b v=([],false):=if_pos (by simp [h0,h1,h2])
   simp -implicitDefEqProofs (disch:=omega) only [go_sem,↓reduceIte,reduceCtorEq,rA,rq,true_implies,and_true,lC,lN,lN,h0]
   iterate 12 (try (refine Qc 2 ?_; simp -implicitDefEqProofs (disch:=omega) only [go_sem,↓reduceIte,reduceCtorEq,rA,rq,true_implies,and_true,lC,lN,lN]))
   refine Qj hT Ql k1 (na v) 2 ?_
   simp -implicitDefEqProofs (disch:=omega) only [go_sem,↓reduceIte,reduceCtorEq,rA,rq]
   iterate 12 (try (refine Qc 2 ?_; simp -implicitDefEqProofs (disch:=omega) only [go_sem,↓reduceIte,reduceCtorEq,rA,rq,true_implies,and_true,lC,lN,lN,hng]))
   refine Qj hT Ql k2 (nb (-v)) 2 ?_
   simp -implicitDefEqProofs (disch:=omega) only [go_sem,↓reduceIte,reduceCtorEq,rA,rq]
   iterate 24 (try (refine Qc 2 ?_; simp -implicitDefEqProofs (disch:=omega) only [go_sem,↓reduceIte,reduceCtorEq,rq,true_and,and_true,lC,lN,lN]))
   try refine Qc 1000 ?_
   try simp -implicitDefEqProofs (disch:=omega) only [go_sem,↓reduceIte,reduceCtorEq,rA,rq,rL,rT,Nat.reduceSub,Nat.reduceMul,Int.reduceToNat,Int.reduceLE,Int.reduceLT,Int.reduceEq,Int.reduceNe,Nat.reduceBEq,Nat.reduceBNe,false_implies,true_implies,true_and,and_true,not_true_eq_false,not_false_eq_true,lC,lN,lN,hng]
   exact .inl hr
  rw [decide_eq_true h2] at k2
  have k3:=hA (-v)
  by_cases h3:-v∈a
  ·rw [decide_eq_true h3] at k3
   have hr:Qr a b v=([],false):=if_pos (by simp [h0,h1,h2,h3])
   simp -implicitDefEqProofs (disch:=omega) only [go_sem,↓reduceIte,reduceCtorEq,rA,rq,true_implies,and_true,lC,lN,lN,h0]
   iterate 12 (try (refine Qc 2 ?_; simp -implicitDefEqProofs (disch:=omega) only [go_sem,↓reduceIte,reduceCtorEq,rA,rq,true_implies,and_true,lC,lN,lN]))
   refine Qj hT Ql k1 (na v) 2 ?_
   simp -implicitDefEqProofs (disch:=omega) only [go_sem,↓reduceIte,reduceCtorEq,rA,rq]
   iterate 12 (try (refine Qc 2 ?_; simp -implicitDefEqProofs (disch:=omega) only [go_sem,↓reduceIte,reduceCtorEq,rA,rq,true_implies,and_true,lC,lN,lN,hng]))
   refine Qj hT Ql k2 (nb (-v)) 2 ?_
   simp -implicitDefEqProofs (disch:=omega) only [go_sem,↓reduceIte,reduceCtorEq,rA,rq]
   iterate 12 (try (refine Qc 2 ?_; simp -implicitDefEqProofs (disch:=omega) only [go_sem,↓reduceIte,reduceCtorEq,rA,rq,true_implies,and_true,lC,lN,lN,hng]))
   refine Qj hT Ql k3 (na (-v)) 2 ?_
   simp -implicitDefEqProofs (disch:=omega) only [go_sem,↓reduceIte,reduceCtorEq,rq]
   iterate 24 (try (refine Qc 2 ?_; simp -implicitDefEqProofs (disch:=omega) only [go_sem,↓reduceIte,reduceCtorEq,rq,true_and,and_true,lC,lN,lN]))
   try refine Qc 1000 ?_
   try simp -implicitDefEqProofs (disch:=omega) only [go_sem,↓reduceIte,reduceCtorEq,rA,rq,rL,rT,Nat.reduceSub,Nat.reduceMul,Int.reduceToNat,Int.reduceLE,Int.reduceLT,Int.reduceEq,Int.reduceNe,Nat.reduceBEq,Nat.reduceBNe,false_implies,true_implies,true_and,and_true,not_true_eq_false,not_false_eq_true,lC,lN,lN,hng]
   exact .inl hr
  rw [decide_eq_false h3] at k3
  have k4:=hB v
  by_cases h4:v∈b
  ·rw [decide_eq_true h4] at k4
   have hr:Qr a b v=([],false):=if_pos (by simp [h0,h1,h2,h3,h4])
   simp -implicitDefEqProofs (disch:=omega) only [go_sem,↓reduceIte,reduceCtorEq,rA,rq,true_implies,and_true,lC,lN,lN,h0]
   iterate 12 (try (refine Qc 2 ?_; simp -implicitDefEqProofs (disch:=omega) only [go_sem,↓reduceIte,reduceCtorEq,rA,rq,true_implies,and_true,lC,lN,lN]))
   refine Qj hT Ql k1 (na v) 2 ?_
   simp -implicitDefEqProofs (disch:=omega) only [go_sem,↓reduceIte,reduceCtorEq,rA,rq]
   iterate 12 (try (refine Qc 2 ?_; simp -implicitDefEqProofs (disch:=omega) only [go_sem,↓reduceIte,reduceCtorEq,rA,rq,true_implies,and_true,lC,lN,lN,hng]))
   refine Qj hT Ql k2 (nb (-v)) 2 ?_
   simp -implicitDefEqProofs (disch:=omega) only [go_sem,↓reduceIte,reduceCtorEq,rA,rq]
   iterate 12 (try (refine Qc 2 ?_; simp -implicitDefEqProofs (disch:=omega) only [go_sem,↓reduceIte,reduceCtorEq,rA,rq,true_implies,and_true,lC,lN,lN,hng]))
   refine Qj hT Ql k3 (na (-v)) 2 ?_
   simp -implicitDefEqProofs (disch:=omega) only [go_sem,↓reduceIte,reduceCtorEq,rq]
   iterate 12 (try (refine Qc 2 ?_; simp -implicitDefEqProofs (disch:=omega) only [go_sem,↓reduceIte,reduceCtorEq,rA,rq,true_implies,and_true,lC,lN,lN]))
   refine Qj hT Ql k4 (nb v) 2 ?_
   simp -implicitDefEqProofs (disch:=omega) only [go_sem,↓reduceIte,reduceCtorEq,rq]
   iterate 24 (try (refine Qc 2 ?_; simp -implicitDefEqProofs (disch:=omega) only [go_sem,↓reduceIte,reduceCtorEq,rq,true_and,and_true,lC,lN,lN]))
   try refine Qc 1000 ?_
   try simp -implicitDefEqProofs (disch:=omega) only [go_sem,↓reduceIte,reduceCtorEq,rA,rq,rL,rT,Nat.reduceSub,Nat.reduceMul,Int.reduceToNat,Int.reduceLE,Int.reduceLT,Int.reduceEq,Int.reduceNe,Nat.reduceBEq,Nat.reduceBNe,false_implies,true_implies,true_and,and_true,not_true_eq_false,not_false_eq_true,lC,lN,lN,hng]
   exact .inl hr
  rw [decide_eq_false h4] at k4
  have hr:Qr a b v=XM ((a++b).filter fun n=>decide (n≠v∧n≠-v)):=if_neg (by simp [h0,h1,h2,h3,h4])
  simp -implicitDefEqProofs (disch:=omega) only [go_sem,↓reduceIte,reduceCtorEq,rA,rq,true_implies,and_true,lC,lN,lN,h0]
  iterate 12 (try (refine Qc 2 ?_; simp -implicitDefEqProofs (disch:=omega) only [go_sem,↓reduceIte,reduceCtorEq,rA,rq,true_implies,and_true,lC,lN,lN]))
  refine Qj hT Ql k1 (na v) 2 ?_
  simp -implicitDefEqProofs (disch:=omega) only [go_sem,↓reduceIte,reduceCtorEq,rA,rq]
  iterate 12 (try (refine Qc 2 ?_; simp -implicitDefEqProofs (disch:=omega) only [go_sem,↓reduceIte,reduceCtorEq,rA,rq,true_implies,and_true,lC,lN,lN,hng]))
  refine Qj hT Ql k2 (nb (-v)) 2 ?_
  simp -implicitDefEqProofs (disch:=omega) only [go_sem,↓reduceIte,reduceCtorEq,rA,rq]
  iterate 12 (try (refine Qc 2 ?_; simp -implicitDefEqProofs (disch:=omega) only [go_sem,↓reduceIte,reduceCtorEq,rA,rq,true_implies,and_true,lC,lN,lN,hng]))
  refine Qj hT Ql k3 (na (-v)) 2 ?_
  simp -implicitDefEqProofs (disch:=omega) only [go_sem,↓reduceIte,reduceCtorEq,rq]
  iterate 12 (try (refine Qc 2 ?_; simp -implicitDefEqProofs (disch:=omega) only [go_sem,↓reduceIte,reduceCtorEq,rA,rq,true_implies,and_true,lC,lN,lN]))
  refine Qj hT Ql k4 (nb v) 2 ?_
  simp -implicitDefEqProofs (disch:=omega) only [go_sem,↓reduceIte,reduceCtorEq,rq]
  iterate 24 (try (refine Qc 2 ?_; simp -implicitDefEqProofs (disch:=omega) only [go_sem,↓reduceIte,reduceCtorEq,rA,rq,rL,and_true,lC,lN,lN]))
  try refine Qc 1000 ?_
  try simp -implicitDefEqProofs (disch:=omega) only [go_sem,↓reduceIte,reduceCtorEq,rA,rq,rL,rT,Nat.reduceSub,Nat.reduceMul,Int.reduceToNat,Int.reduceLE,Int.reduceLT,Int.reduceEq,Int.reduceNe,Nat.reduceBEq,Nat.reduceBNe,false_implies,true_implies,true_and,and_true,not_true_eq_false,not_false_eq_true,lC,lN,lN,hng]
  have hl:([a,b]:List (List Int)).flatten=a++b:=by simp
  have hne:0<([a,b]:List (List Int)).flatten.length:=by rw [hl,lAq]; have:=List.length_pos_of_mem h1; omega
  have hCc:=fun t'=>QuN (G:=G) (base:=0) (t:=t') (o:=[some (.arr t 3 [.int .i64 v])]) (L:=[a,b]) (tight:=true) hT (zL _) hne (by rw [hl,lAq]; omega) (by simp)
  simp only [hl,List.map_cons,List.map_nil,row,cAq,nAq,lC,lN] at hCc
  refine call hT Zi (hCc _) 1000 fun u σ hu=>?_
  obtain ⟨t1,w1,ht1,rfl,rfl⟩:=hu
  simp -implicitDefEqProofs (disch:=omega) only [go_sem,↓reduceIte,reduceCtorEq,rq]
  refine call hT QK (QuI (P:=Tryz.prog) (G:=G) hT ⟨by omega,hv⟩ (by rw [lAq]; omega)) 1000 fun u σ hu=>?_
  obtain ⟨rfl,t2,rfl⟩:=hu
  simp -implicitDefEqProofs (disch:=omega) only [go_sem,↓reduceIte,reduceCtorEq,rq]
  have hmem:∀ n∈(a++b).filter (fun n=>!decide (n=v∨n=-v)),-9223372036854775808≤n∧n≤9223372036854775807:=fun n hn=>by
   rcases List.mem_append.1 (List.mem_filter.1 hn).1 with h | h
   ·exact ba n h
   ·exact bb n h
  have hlen:((a++b).filter (fun n=>!decide (n=v∨n=-v))).length≤1000000:=by
   have:=List.length_filter_le (fun n=>!decide (n=v∨n=-v)) (a++b)
   rw [lAq] at this; omega
  have hK:=Qkn (G:=G) hT _ hmem hlen
  simp only [row] at hK
  have he:(a++b).filter (fun n=>!decide (n=v∨n=-v))=(a++b).filter fun n=>decide (n≠v∧n≠-v):=by
   congr 1; funext n; by_cases e1:n=v <;> by_cases e2:n=-v <;> simp [e1,e2]
  refine Qcc hT YZ hK (by simp [Qb,Qd]) 1000 fun u hu=>?_
  subst hu
  rw [he,hr]
  simp -implicitDefEqProofs (disch:=omega) only [go_sem,↓reduceIte,reduceCtorEq,rA,rq,rT,and_true,lC,lN,lN]
 ·rcases hu with ⟨hn,⟨hr,rfl⟩ | rfl⟩
  ·exact ⟨.tup [row [],.bool false],.tup _ _ (.cons _ _ _ _ (.lst _ _ _ _ _ .nil (.inl rfl)) (.cons _ _ _ _ (.refl _) .nil)),rfl,by rw [hr]⟩
  ·exact ⟨_,.refl _,hn,rfl⟩
end
section
attribute [local go_sem] nFq lR zA beq_self_eq_true XF zq3_0 zq3_1 zq3_2 zq3_3 zq3_4 zq3_5 zq3_6
def Qkv (c:List Int):V:=.lst 1 (ints c) true
def QhB (F:List (List Int)):V:=.lst 1 (F.map Qkv) true
theorem ZP (c:List Int):Wk (Qkv c) (row c):=.lst 1 1 _ _ true (WkL.refl _) (.inr rfl)
theorem QtG (F:List (List Int)):Wk (QhB F) (rows F):=.lst 1 1 _ _ true (WkL.map fun c _=>ZP c) (.inr rfl)
theorem Qby (v:Int) (F:List (List Int)):Wk (.agg [.int .i64 v,QhB F]) (fml v F):=.agg _ _ (.cons _ _ _ _ (.refl _) (.cons _ _ _ _ (QtG F) .nil))
def kF:List (List Int):=[[1],[-1,2],[-2,3,4]]
theorem put_k:QbU 2 [[1,-2]]=[112,32,99,110,102,32,50,32,49,10,49,32,45,50,32,48,10]:=by kernel_rfl
theorem Qig (hT:Qn Tryz.prog tab) (K:QuX Tryz.prog) (It:QeR Tryz.prog G):Am.Pure Tryz.prog G ZN [] fun u=>u=.bool true:=by
 have h1:Am.Pure Tryz.prog G Z0 [Qkv [3,-1,3]] fun u=>u=.tup [row [-1,3],.bool true]:=by
  have h:=Qkn (G:=G) hT [3,-1,3] (by decide) (by decide)
  rw [show XM [3,-1,3]=([-1,3],true) by decide +kernel] at h
  exact Pure.args (.cons _ _ _ _ (ZP _) .nil) h
 have h2:Am.Pure Tryz.prog G Z0 [Qkv [1,-1]] fun u=>u=.tup [row [],.bool false]:=by
  have h:=Qkn (G:=G) hT [1,-1] (by decide) (by decide)
  rw [show XM [1,-1]=([],false) by decide +kernel] at h
  exact Pure.args (.cons _ _ _ _ (ZP _) .nil) h
 have h4:Am.Pure Tryz.prog G Qai [Qkv [1,2],Qkv [-1,3],.int .i64 1] fun u=>u=.tup [row [2,3],.bool true]:=by
  have h:=Qfx (G:=G) hT [1,2] [-1,3] 1 (by decide) (by decide) (by decide) (by decide) (by decide)
  rw [show Qr [1,2] [-1,3] 1=([2,3],true) by decide +kernel] at h
  exact Pure.args (.cons _ _ _ _ (ZP _) (.cons _ _ _ _ (ZP _) (.cons _ _ _ _ (.refl _) .nil))) h
 have h5:Am.Pure Tryz.prog G Zg [.agg [.int .i64 2,QhB [[1,-2]]]] fun u=>u=.tup [.lst 1 (Qg [112,32,99,110,102,32,50,32,49,10,49,32,45,50,32,48,10]) false,.int .i64 0]:=by
  have h:=QuL (G:=G) hT K It 2 [[1,-2]] (by decide) (by decide)
  rw [show right 2 [[1,-2]]=true by decide +kernel,if_pos rfl,put_k] at h
  exact Pure.args (.cons _ _ _ _ (Qby _ _) .nil) h
 have h3:Am.Pure Tryz.prog G Y3 [.agg [.int .i64 4,QhB kF]] fun u=>u=.tup [row [1,2],.bool true]:=by
  have h:=QmQ (G:=G) hT QAh 4 kF (by decide) (by decide)
  rw [show right 4 kF=true by decide +kernel,if_pos rfl,show YV kF=some [1,2] by decide +kernel] at h
  exact Pure.args (.cons _ _ _ _ (Qby _ _) .nil) h
 have hs:=fun (a:List Int) (ha:a.length≤9223372036854775807)=>(Pure.args (.cons _ _ _ _ (.refl _) (.cons _ _ _ _ (ZP _) .nil)) (Qcd (P:=Tryz.prog) (G:=G) hT a a ha ha):Am.Pure Tryz.prog G Ye [row a,Qkv a] fun u=>u=.bool (decide (a=a)))
 have hs1:=hs [-1,3] (by decide)
 have hs2:=hs [1,2] (by decide)
 have hs3:=hs [2,3] (by decide)
 simp only [decide_true] at hs1 hs2 hs3
 simp only [QhB,Qkv,row,ints,kF,List.map_cons,List.map_nil] at h1 h2 h3 h4 h5 hs1 hs2 hs3
 intro t
 refine Xa 0 (zL _) (QM hT Qm (by simp [XF]) (Qx 60 ?_))
 simp -implicitDefEqProofs (disch:=omega) only [go_sem,↓reduceIte,reduceCtorEq,rA,rL]
 refine Qj hT YZ h1 (by simp [Qb,Qd]) 60 ?_
 simp -implicitDefEqProofs (disch:=omega) only [go_sem,↓reduceIte,reduceCtorEq,rA,rq,rL,rT]
 refine Qj hT YZ h2 (by simp [Qb,Qd]) 60 ?_
 simp -implicitDefEqProofs (disch:=omega) only [go_sem,↓reduceIte,reduceCtorEq,rA,rq,rL,rT]
 refine Qj hT ZY h3 (by simp [Qb,Qd]) 60 ?_
 simp -implicitDefEqProofs (disch:=omega) only [go_sem,↓reduceIte,reduceCtorEq,rA,rq,rL,rT]
 refine Qj hT Yk h4 (by simp [Qb,Qd]) 60 ?_
 simp -implicitDefEqProofs (disch:=omega) only [go_sem,↓reduceIte,reduceCtorEq,rA,rq,rL,rT]
 refine Qj hT XP h5 (by simp [Qb,Qd]) 10 ?_
 simp -implicitDefEqProofs (disch:=omega) only [go_sem,↓reduceIte,reduceCtorEq,rA,rq,rT]
 iterate 8 (try (refine Qc 2 ?_; simp -implicitDefEqProofs (disch:=omega) only [go_sem,↓reduceIte,reduceCtorEq,rA,rq,rL,and_true]))
 refine Qj hT Qu hs1 (by simp [Qb,Qd]) 2 ?_
 simp -implicitDefEqProofs (disch:=omega) only [go_sem,↓reduceIte,reduceCtorEq,rq]
 iterate 16 (try (refine Qc 2 ?_; simp -implicitDefEqProofs (disch:=omega) only [go_sem,↓reduceIte,reduceCtorEq,rA,rq,rL,and_true]))
 refine Qj hT Qu hs2 (by simp [Qb,Qd]) 2 ?_
 simp -implicitDefEqProofs (disch:=omega) only [go_sem,↓reduceIte,reduceCtorEq,rq]
 iterate 16 (try (refine Qc 2 ?_; simp -implicitDefEqProofs (disch:=omega) only [go_sem,↓reduceIte,reduceCtorEq,rA,rq,rL,and_true]))
 refine Qj hT Qu hs3 (by simp [Qb,Qd]) 2 ?_
 simp -implicitDefEqProofs (disch:=omega) only [go_sem,↓reduceIte,reduceCtorEq,rq]
 iterate 16 (try (refine Qc 2 ?_; simp -implicitDefEqProofs (disch:=omega) only [go_sem,↓reduceIte,reduceCtorEq,rA,rq]))
 simp only [evW]
 have e1:=Yf [112,32,99,110,102,32,50,32,49,10,49,32,45,50,32,48,10]
 have e2:(∀ c,c∈Qg [112,32,99,110,102,32,50,32,49,10,49,32,45,50,32,48,10]→isByte c=true)=True:=eq_true (Yg _)
 have e3:=Zy [112,32,99,110,102,32,50,32,49,10,49,32,45,50,32,48,10]
 simp -implicitDefEqProofs (disch:=omega) only [go_sem,↓reduceIte,reduceCtorEq,rq,Qfl,e1,e2,e3]
 iterate 8 (try (refine Qc 2 ?_; simp -implicitDefEqProofs (disch:=omega) only [go_sem,↓reduceIte,reduceCtorEq,rA,rq,and_true]))
end
end Go.Proofs.YtingdebioipemaaGreatDoor
namespace Go.Proofs.YtingdebioipemaaGreatDoor
open Go Go.Am Go.Cl Go.Ct
set_option maxRecDepth 100000
variable {G:Nat→Option V}
theorem QsC {m n:Int} (hm:Sml m) (hn:Sml n) (h:Qw m=Qw n):m=n:=by
 have h1:=Qhh hm
 rw [h,Qhh hn] at h1
 injection h1 with h1; exact h1.symm
theorem Qn0:∀ {a b:List Int},(∀ n∈a,Sml n)→(∀ n∈b,Sml n)→a.map Qw=b.map Qw→a=b
 | [],[],_,_,_=>rfl
 | [],_::_,_,_,h=>by simp at h
 | _::_,[],_,_,h=>by simp at h
 | m::a,n::b,ha,hb,h=>by
   rw [List.map_cons,List.map_cons] at h
   injection h with h1 h2
   rw [QsC (ha m (by simp)) (hb n (by simp)) h1,Qn0 (fun n hn=>ha n (by simp [hn])) (fun n hn=>hb n (by simp [hn])) h2]
variable {F:List (List Int)} {v:Int} {b:List UInt8}
theorem Qlh {w:Int} {H:List (List Int)} (h1:Good b v F) (h2:Good b w H):v=w∧F=H:=by
 obtain ⟨r1,p1⟩:=h1
 obtain ⟨r2,p2⟩:=h2
 have e1:=Qdp r1
 have e2:=Qdp r2
 rw [p1] at e1
 rw [p2] at e2
 rw [e1] at e2
 injection e2 with _ e2; injection e2 with _ e2; injection e2 with e3 e2; injection e2 with _ e4
 have hv:=QsC (XQ r1).1 (XQ r2).1 e3
 have hn:=Qn0 (QjU r1) (QjU r2) e4
 have f1:=Qfj F [] (fun c hc n hn=>((XQ r1).2.2 c hc n hn).1)
 have f2:=Qfj H [] (fun c hc n hn=>((XQ r2).2.2 c hc n hn).1)
 rw [hn,f2] at f1
 simp at f1
 exact ⟨hv,f1.symm⟩
theorem QrF:∀ (l cur:List UInt8),(wD cur l).length≤l.length
 | [],cur=>by simp [wD]
 | b::r,cur=>by
   unfold wD
   split
   ·have:=QrF r []; simp; omega
   ·have:=QrF r (cur++[b]); simp; omega
theorem QnP:∀ (F:List (List Int)),F.length≤(QbA F).length∧∀ c∈F,c.length≤(QbA F).length
 | []=>⟨by simp,fun c h=>by cases h⟩
 | c::F=>by
   obtain ⟨h1,h2⟩:=QnP F
   have e:QbA (c::F)=(c++[0])++QbA F:=by simp [QbA]
   rw [e]
   simp only [lAq,lC,lN]
   refine ⟨by omega,fun d hd=>?_⟩
   rcases List.mem_cons.1 hd with rfl | hd
   ·omega
   ·have:=h2 d hd; omega
theorem Quh (h:Good b v F):F.length≤b.length∧∀ c∈F,c.length≤b.length:=by
 obtain ⟨r1,p1⟩:=h
 have e1:=Qdp r1
 rw [p1] at e1
 have h1:=QrF b []
 rw [e1] at h1
 simp only [lC,lM] at h1
 obtain ⟨h2,h3⟩:=QnP F
 exact ⟨by omega,fun c hc=>by have:=h3 c hc; omega⟩
theorem QlG:∀ {F:List (List Int)},(∀ c∈F,c.length≤30)→(∀ c∈F,∀ n∈c,n≠0∧-16777216≤n∧n≤16777216)→(clB F).length≤662 * F.length
 | [],_,_=>by simp [clB]
 | c::F,hc,h=>by
   have h1:=Qb4 (h c (by simp))
   have h2:=hc c (by simp)
   have h3:=QlG (F:=F) (fun d hd=>hc d (by simp [hd])) fun d hd=>h d (by simp [hd])
   simp only [clB,List.map_cons,List.flatten_cons,lAq,lC,lN] at *
   omega
theorem Qr8 (hr:right v F=true) (hF:F.length≤60) (hc:∀ c∈F,c.length≤30):(QbU v F).length≤100000∧(QbU v F).count 10≤1000∧∀ l∈splitB 10 (QbU v F),l.length≤1000:=by
 obtain ⟨hs1,hs2,hs3⟩:=XQ hr
 have hnz:∀ c∈F,∀ n∈c,n≠0∧-16777216≤n∧n≤16777216:=fun c h n hn=>hs3 c h n hn
 have l1:=Qa1 (n:=v) (by unfold Sml at hs1; omega)
 have l2:=Qa1 (n:=(F.length:Int)) (by omega)
 have hcl:=QlG hc hnz
 have hls:=QhM hr
 have hsl:=QfO 10 (QbU v F)
 refine ⟨?_,?_,fun l hl=>?_⟩
 ·unfold QbU Zh; simp; omega
 ·rw [hls] at hsl; simp at hsl; omega
 ·rw [hls] at hl
  rcases List.mem_cons.1 hl with rfl | hl
  ·unfold Qiw; simp; omega
  ·rcases List.mem_append.1 hl with hl | hl
   ·obtain ⟨c,hcm,rfl⟩:=List.mem_map.1 hl
    have:=Qb4 (hnz c hcm)
    have:=hc c hcm
    unfold Qfc; simp; omega
   ·rw [List.mem_singleton] at hl; subst hl; simp
section
attribute [local go_sem] nFq nT cAq nAq lR zA zL and_true beq_self_eq_true bne_self_eq_false Xu decide_false decide_true false_implies gt_iff_lt Qt not_false_eq_true Q1 zq0_0 zq0_1 QyF QyE QyD QyC zq0_2 zq0_3 zq0_4 zq0_5 zq0_6 zq0_7 zq0_8 zq0_9 true_and true_implies
structure QmW (G:Nat→Option V):Prop where
 buf:QuX Tryz.prog
 ito:QeR Tryz.prog G
 ato:Qtp Tryz.prog
 err:Qtm G
 txt:QuU G
variable {u:V} {b:List UInt8}
theorem QlK (hT:Qn Tryz.prog tab) (hl:b.length≤1000) {u':V} (h:QuV b u) (h':QuV b u') :
 ∃ (X:V) (k:Int),u=.tup [X,.int .i64 k]∧u'=.tup [X,.int .i64 k]∧Qd X=true∧(∃ y0 z C S,X=.agg [y0,.lst z C S])∧Am.Pure Tryz.prog G YG [X,X] fun r=>r=.bool true:=by
 rcases h with ⟨v,F,hg,rfl⟩ | ⟨hn,rfl⟩
 ·rcases h' with ⟨w,H,hg',rfl⟩ | ⟨hn',rfl⟩
  ·obtain ⟨rfl,rfl⟩:=Qlh hg hg'
   obtain ⟨h1,h2⟩:=Quh hg
   have hS:=Qkm (P:=Tryz.prog) (G:=G) hT v v F F (by omega) (by omega) (fun c h=>by have:=h2 c h; omega) (fun c h=>by have:=h2 c h; omega)
   simp only [and_self,decide_true] at hS
   exact ⟨fml v F,0,rfl,rfl,by simp [fml,rows,Qd,Qb],⟨_,_,_,_,rfl⟩,hS⟩
  ·exact absurd hg (hn' _ _)
 ·rcases h' with ⟨w,H,hg',rfl⟩ | ⟨hn',rfl⟩
  ·exact absurd hg' (hn _ _)
  ·have hS:=Qkm (P:=Tryz.prog) (G:=G) hT 0 0 [] [] (by simp) (by simp) (by simp) (by simp)
   simp only [and_self,decide_true] at hS
   have hw:Wk (.agg [.int .i64 0,.lst 0 [] true]) (fml 0 []):=.agg _ _ (.cons _ _ _ _ (.refl _) (.cons _ _ _ _ (.lst 0 1 [] [] true .nil (.inl rfl)) .nil))
   exact ⟨_,2,rfl,rfl,rfl,⟨_,_,_,_,rfl⟩,Pure.args (.cons _ _ _ _ hw (.cons _ _ _ _ hw .nil)) hS⟩
theorem QnY (h:QuV b u):∃ (y0:Int) (z:Nat) (C:List V) (S:Bool) (k:Int),u=.tup [.agg [.int .i64 y0,.lst z C S],.int .i64 k]:=by
 rcases h with ⟨v,F,_,rfl⟩ | ⟨_,rfl⟩
 ·exact ⟨_,_,_,_,_,rfl⟩
 ·exact ⟨_,_,_,_,_,rfl⟩
theorem QdG (hT:Qn Tryz.prog tab) (K:QmW G) (v:Int) (F:List (List Int)) (b:List UInt8) (T:Bool) (hF:F.length≤9223372036854775807) (hFc:∀ c∈F,c.length≤9223372036854775807) (hb:b.length≤9223372036854775807) :
 Am.Pure Tryz.prog G QL [fml v F,.lst 1 (Qg b) T] fun u=>u=.bool true:=by
 have hW:=Qig (G:=G) hT K.buf K.ito
 have hf:=Qoi (P:=Tryz.prog) (G:=G) hT v F 60 (by omega) hF hFc
 have hp:=QmP (P:=Tryz.prog) (G:=G) hT v F
 have hnr:=Qr1 F
 have nF:Qb [fml v F]=true:=by simp [fml,rows,Qb,Qd]
 have nF60:Qb [fml v F,.int .i64 60]=true:=by simp [fml,rows,Qb,Qd]
 have c60:((60:Nat):Int)=60:=rfl
 intro t
 simp only [fml,rows,c60] at hf hp nF nF60 ⊢
 refine Xa 0 (zL _) (QM hT Qy (by simp [Q1]) (Qx 1000 ?_))
 simp -implicitDefEqProofs (disch:=omega) only [go_sem,↓reduceIte,reduceCtorEq,rA,rq]
 refine Qj hT Xy hf nF60 1000 ?_
 cases h1:QmG F 60 with
 | false =>
   simp -implicitDefEqProofs (disch:=omega) only [go_sem,↓reduceIte,reduceCtorEq,rq]
   refine Qj hT Qm hW rfl 1000 ?_
   simp -implicitDefEqProofs (disch:=omega) only [go_sem,↓reduceIte,reduceCtorEq,rq]
 | true =>
   by_cases h2:(1000:Int)<(b.length:Int)
   ·simp -implicitDefEqProofs (disch:=omega) only [go_sem,↓reduceIte,reduceCtorEq,rA,rq,h2]
    refine Qj hT Qm hW rfl 1000 ?_
    simp -implicitDefEqProofs (disch:=omega) only [go_sem,↓reduceIte,reduceCtorEq,rq]
   have hfw:F.length≤60∧∀ c∈F,c.length≤30:=by
    unfold QmG at h1
    simp only [Bool.and_eq_true,decide_eq_true_eq,List.all_eq_true] at h1
    exact h1
   have hP:=QuL (G:=G) hT K.buf K.ito v F (by omega) (fun c h=>by have:=hfw.2 c h; omega)
   have hP2:=Qy9 (G:=G) hT K.ito v F (by omega) (fun c h=>by have:=hfw.2 c h; omega)
   have hbc:b.count 10≤b.length:=List.count_le_length
   have hG:=c_Get (G:=G) hT K.buf K.ito K.ato K.err K.txt b T (by omega) (by omega) (fun l h=>by have:=Qdm 10 b l h; omega)
   have hG2:=c_rGet (G:=G) hT K.ito b T (by omega)
   have nb:Qb [V.lst 1 (Qg b) T]=true:=by simp [Qb,Qd]
   simp -implicitDefEqProofs (disch:=omega) only [go_sem,↓reduceIte,reduceCtorEq,rA,rq,h2]
   cases hr:right v F with
   | false =>
     rw [hr,if_neg (by simp)] at hP hP2
     simp only [fml,rows] at hP hP2
     refine Qj hT XP hP nF 1000 ?_
     simp -implicitDefEqProofs (disch:=omega) only [go_sem,↓reduceIte,reduceCtorEq,rA,rq,rT]
     refine Qj hT QZ hp nF 1000 ?_
     simp -implicitDefEqProofs (disch:=omega) only [go_sem,↓reduceIte,reduceCtorEq,rq]
     refine Qj hT QW hP2 nF 1000 ?_
     simp -implicitDefEqProofs (disch:=omega) only [go_sem,↓reduceIte,reduceCtorEq,rA,rq,rT]
     simp only [evW]
     simp -implicitDefEqProofs (disch:=omega) only [go_sem,↓reduceIte,reduceCtorEq,rA,rq,Int.reduceEq]
     refine ⟨(fun c h=>by cases h),?_⟩
     refine Qcc hT Qbl hG nb 1000 fun u hu=>?_
     obtain ⟨y0,z,C,S,k,rfl⟩:=QnY hu
     simp -implicitDefEqProofs (disch:=omega) only [go_sem,↓reduceIte,reduceCtorEq,rA,rq,rT]
     refine Qcc hT YT hG2 nb 1000 fun u' hu'=>?_
     obtain ⟨X,k2,e1,e2,hnx,_,hS⟩:=QlK (G:=G) hT (by omega) hu hu'
     injection e1 with e1
     injection e1 with e1 e3
     injection e3 with e3
     injection e3 with _ e3
     subst e1; subst e3; subst e2
     have nX:Qb [V.agg [.int .i64 y0,.lst z C S],V.agg [.int .i64 y0,.lst z C S]]=true:=by simp only [Qb,hnx]; rfl
     simp -implicitDefEqProofs (disch:=omega) only [go_sem,↓reduceIte,reduceCtorEq,rA,rq,rT]
     refine Qj hT Xm hS nX 1000 ?_
     simp -implicitDefEqProofs (disch:=omega) only [go_sem,↓reduceIte,reduceCtorEq,rA,rq]
     refine Qj hT Qm hW rfl 1000 ?_
     simp -implicitDefEqProofs (disch:=omega) only [go_sem,↓reduceIte,reduceCtorEq,rA,rq]
   | true =>
     rw [hr,if_pos rfl] at hP hP2
     simp only [fml,rows] at hP hP2
     refine Qj hT XP hP nF 1000 ?_
     simp -implicitDefEqProofs (disch:=omega) only [go_sem,↓reduceIte,reduceCtorEq,rA,rq,rT]
     refine Qj hT QZ hp nF 1000 ?_
     simp -implicitDefEqProofs (disch:=omega) only [go_sem,↓reduceIte,reduceCtorEq,rq]
     refine Qj hT QW hP2 nF 1000 ?_
     simp -implicitDefEqProofs (disch:=omega) only [go_sem,↓reduceIte,reduceCtorEq,rA,rq,rT]
     have hfl:=Yf (QbU v F)
     have hof:=Zy (QbU v F)
     have hby:=Yg (QbU v F)
     simp only [evW]
     simp -implicitDefEqProofs (disch:=omega) only [go_sem,↓reduceIte,reduceCtorEq,rA,rq,hfl,hof]
     obtain ⟨s1,s2,s3⟩:=Qr8 hr hfw.1 hfw.2
     have hGx:=c_Get (G:=G) hT K.buf K.ito K.ato K.err K.txt (QbU v F) false s1 s2 s3
     have nx:Qb [V.lst 1 (Qg (QbU v F)) false]=true:=by simp [Qb,Qd]
     refine Qcc hT Qbl hGx nx 1000 fun u hu=>?_
     have hux:u=.tup [fml v F,.int .i64 0]:=by
      rcases hu with ⟨w,H,hg,rfl⟩ | ⟨hn,_⟩
      ·obtain ⟨rfl,rfl⟩:=Qlh hg ⟨hr,rfl⟩
       rfl
      ·exact absurd ⟨hr,rfl⟩ (hn v F)
     have hS0:=Qkm (P:=Tryz.prog) (G:=G) hT v v F F (by omega) (by omega) (fun c h=>by have:=hfw.2 c h; omega) (fun c h=>by have:=hfw.2 c h; omega)
     simp only [and_self,decide_true,fml,rows] at hS0
     simp only [fml,rows] at hux
     subst hux
     have nS:Qb [V.agg [.int .i64 v,.lst 1 (F.map row) false],V.agg [.int .i64 v,.lst 1 (F.map row) false]]=true:=by simp [Qb,Qd]
     simp -implicitDefEqProofs (disch:=omega) only [go_sem,↓reduceIte,reduceCtorEq,rA,rq,rT]
     refine Qj hT QZ hp nF 1000 ?_
     simp -implicitDefEqProofs (disch:=omega) only [go_sem,↓reduceIte,reduceCtorEq,rA,rq]
     refine Qj hT Xm hS0 nS 1000 ?_
     simp -implicitDefEqProofs (disch:=omega) only [go_sem,↓reduceIte,reduceCtorEq,rA,rq]
     refine Qcc hT Qbl hG nb 1000 fun u hu=>?_
     obtain ⟨y0,z,C,S,k,rfl⟩:=QnY hu
     simp -implicitDefEqProofs (disch:=omega) only [go_sem,↓reduceIte,reduceCtorEq,rA,rq,rT]
     refine Qcc hT YT hG2 nb 1000 fun u' hu'=>?_
     obtain ⟨X,k2,e1,e2,hnx,_,hS⟩:=QlK (G:=G) hT (by omega) hu hu'
     injection e1 with e1
     injection e1 with e1 e3
     injection e3 with e3
     injection e3 with _ e3
     subst e1; subst e3; subst e2
     have nX:Qb [V.agg [.int .i64 y0,.lst z C S],V.agg [.int .i64 y0,.lst z C S]]=true:=by simp only [Qb,hnx]; rfl
     simp -implicitDefEqProofs (disch:=omega) only [go_sem,↓reduceIte,reduceCtorEq,rA,rq,rT]
     refine Qj hT Xm hS nX 1000 ?_
     simp -implicitDefEqProofs (disch:=omega) only [go_sem,↓reduceIte,reduceCtorEq,rA,rq]
     refine Qj hT Qm hW rfl 1000 ?_
     simp -implicitDefEqProofs (disch:=omega) only [go_sem,↓reduceIte,reduceCtorEq,rA,rq]
end
end Go.Proofs.YtingdebioipemaaGreatDoor
