/- BlastTold at one graph: its first loops. -/
import Derived.Test.YtoeicjlflmmmcaaGreatDoorJ15
import Derived.Test.YtoeicjlflmmmcaaGreatDoorAmD
open Nat renaming reduceEqDiff → rq, reduceAdd → rA, reduceLeDiff → rL, reduceLT → rT, zero_add → zA, le_refl → lR, zero_le → zL, add_zero → aZ
open List renaming length_cons → lC, length_nil → lN, take_succ_cons → tSq, length_append → lA, nil_append → nA, cons_append → cA, append_assoc → aA, take_nil → tN, take_zero → tZ, length_map → lM
open Bool renaming not_false → nFq, not_true → nT
namespace Go.Proofs.YtoeicjlflmmmcaaGreatDoor
open Go Go.Am Go.Bl
set_option maxRecDepth 100000
variable {P:Program} {G:Nat→Option V}
set_option maxHeartbeats 1000000
section
attribute [local go_sem] nFq nT aZ lR Nat.mul_one zA zL beq_self_eq_true decide_false decide_true ge_iff_le gt_iff_lt Q3 Qor Qoq Qop Qoo Qon Qom Qol Qok Qoj Qoi Qoh Qog Qof Qoe Qod Qoc Qu8 Qu7 Qu6 Qu5
def cL:List Nd:=[⟨2,0,0,0,0,0⟩,⟨1,4,0,0,0,0⟩,⟨3,0,0,0,0,0⟩,⟨3,0,0,0,0,1⟩,⟨3,1,0,0,0,0⟩,⟨3,0,1,0,0,0⟩,⟨4,0,0,16,2,3⟩]
theorem cL_i:∀ d∈cL,i64 d.n∧i64 d.a:=by
 intro d hd
 simp only [cL,List.mem_cons,List.not_mem_nil,or_false] at hd
 rcases hd with rfl | rfl | rfl | rfl | rfl | rfl | rfl <;> exact ⟨⟨by decide,by decide⟩,⟨by decide,by decide⟩⟩
theorem QrW:Qh3 cL=cL:=by decide
theorem cL_ok:okN cL:=QrW▸Qm4 cL cL_i
theorem QIE:QeA cL:=fun id h0 h1=>by
 have h1:id<7:=h1
 rcases (show id=0∨id=1∨id=2∨id=3∨id=4∨id=5∨id=6 by omega) with rfl | rfl | rfl | rfl | rfl | rfl | rfl <;> rfl
theorem cL_op:∀ d∈cL,¬ d.op=3∧¬ (d.kind=2∧65536<d.n):=by
 intro d hd
 simp only [cL,List.mem_cons,List.not_mem_nil,or_false] at hd
 rcases hd with rfl | rfl | rfl | rfl | rfl | rfl | rfl <;> exact ⟨by decide,by decide⟩
theorem cL_kd (i:Nat) (h:i<7):(((nd cL i).kind=2∨(nd cL i).kind=3)∧True)∨(nd cL i).kind=1∨((nd cL i).kind=4∧(nd cL i).op=16):=by
 rcases (show i=0∨i=1∨i=2∨i=3∨i=4∨i=5∨i=6 by omega) with rfl | rfl | rfl | rfl | rfl | rfl | rfl <;> decide
variable {s:Bs}
theorem blB_bT {L:List Nd} (hwf:gwf L) (hf:QeA L) {i:Int} (h0:0≤i) (h1:i<L.length) (hk:∀ j:Int,0≤j→j<i→(kL s.K j).isSome=true):blB L s i=bT L s i:=by
 have hn:(XP L [i]).any (QgZ L)=false:=by
  rw [List.any_eq_false]
  intro x hx
  have:=QaF x hx
  rw [hf x this.1 this.2]; decide
 unfold blB
 rw [hn,if_neg (by decide)]
 have key:∀ (U:List Int),U.Pairwise (·<·)→(∀ u∈U,0≤u∧u≤i)→i∈U→bF L U s=bT L s i:=fun U=>by
  induction U with
  | nil=>intro _ _ h; cases h
  | cons u U ih =>
    intro hs hr hm
    rw [List.pairwise_cons] at hs
    by_cases e:u=i
    ·have hU:U=[]:=by
      cases U with
      | nil=>rfl
      | cons v V =>
        have h2:=hs.1 v (by simp)
        have h3:=(hr v (by simp)).2
        omega
     rw [hU,e]; rfl
    ·have hu:=hr u (by simp)
     have e2:bT L s u=s:=by rw [bT,if_pos (hk u hu.1 (by omega))]
     show bF L U (bT L s u)=_
     rw [e2]
     refine ih hs.2 (fun v hv=>hr v (by simp [hv])) ?_
     rcases List.mem_cons.1 hm with h | h
     ·exact absurd h.symm e
     ·exact h
 exact key _ QbZ (fun u hu=>⟨(QaF u hu).1,QKx hwf u hu⟩) (QeI hwf h0 h1)
variable {x:Option Ob} {e t i cap w:Nat} {B:Bv} {g:Gr}
theorem QtJ {y w:Option Ob} {ex:List (Option Ob)}:(bT' g B s e++x::y::ex).set 13 w=bT' g B s e++x::w::ex:=rfl
variable {σ:H} {fr:Fr} {ev:V} {wl:List V} {tl:Bool} {l:List Nd}
theorem Qzn (hT:Qe P tab) (hl:∀ d∈l,¬ d.op=3∧¬ (d.kind=2∧65536<d.n)) (hll:l.length≤1000) {wt:Bool} {d:Nd} (hd:l[i]?=some d) (hJ:σ=⟨t,[]⟩∧Qd fr 0=.lst 6 (l.map fun d=>.agg d.cells) tl∧Qd fr 2=.lst 1 wl wt∧Qd fr 4=ev∧Qd fr 7=.int .i64 ((i:Nat):Int)) :
 W P G 219 0 wm fr σ (Qbb (fun fr' σ=>∃ fr σ',Shift G 219 0 fr' σ fr σ'∧σ'=⟨t,[]⟩∧Qd fr 0=.lst 6 (l.map fun d=>.agg d.cells) tl∧Qd fr 2=.lst 1 wl wt∧Qd fr 4=ev∧Qd fr 7=.int .i64 ((i+1:Nat):Int)) (fun e fr σ=>e=.ex 0∧σ=⟨t,[]⟩∧Qd fr 0=.lst 6 (l.map fun d=>.agg d.cells) tl∧Qd fr 2=.lst 1 wl wt∧Qd fr 4=ev)):=by
 obtain ⟨rfl,f0,f2,f4,f7⟩:=hJ
 have hlt:=(List.getElem?_eq_some_iff.1 hd).1
 have hki:(i:Int)<l.length:=by omega
 have hk0:(0:Int)≤(i:Int):=by omega
 have hw:=QhJ hlt (by omega)
 obtain ⟨h3,h2⟩:=hl d (List.mem_of_getElem? hd)
 have gd:(l.map fun d=>V.agg d.cells).getD i V.any=.agg d.cells:=by simp [List.getD_eq_getElem?_getD,hd]
 have g0:d.cells.getD 0 V.any=.int .u8 d.kind:=rfl
 have g1:d.cells.getD 1 V.any=.int .i64 d.n:=rfl
 have g3:d.cells.getD 3 V.any=.int .u8 d.op:=rfl
 have g6:d.cells.length=6:=rfl
 refine Qh [(0,.lst 6 (l.map fun d=>.agg d.cells) tl),(2,.lst 1 wl wt),(4,ev),(7,.int .i64 ((i:Nat):Int))] ⟨f0,f2,f4,f7,trivial⟩  1000 ?_
 by_cases hk:d.kind=2
 ·have hn:¬ 65536<d.n:=fun h=>h2 ⟨hk,h⟩
  simp -implicitDefEqProofs (disch:=omega) only [go_sem,↓reduceIte,reduceCtorEq,rA,rq,rL,lM,false_implies,true_implies,true_and,and_true,not_false_eq_true,hki,hk0,hlt,Int.toNat_natCast,gd,g0,g1,g3,g6,h3,hk,hn,hw]
  refine ⟨_,_,Shift.refl _ _ _ _,rfl,?_⟩
  simp -implicitDefEqProofs (disch:=omega) only [go_sem,↓reduceIte,reduceCtorEq,rq]
 ·simp -implicitDefEqProofs (disch:=omega) only [go_sem,↓reduceIte,reduceCtorEq,rA,rq,rL,lM,false_implies,true_implies,true_and,and_true,not_false_eq_true,hki,hk0,hlt,Int.toNat_natCast,gd,g0,g1,g3,g6,h3,hk,hw]
  refine ⟨_,_,Shift.refl _ _ _ _,rfl,?_⟩
  simp -implicitDefEqProofs (disch:=omega) only [go_sem,↓reduceIte,reduceCtorEq,rq]
theorem QKD (hT:Qe P tab) {wt:Bool} (hi:i=l.length) (hJ:σ=⟨t,[]⟩∧Qd fr 0=.lst 6 (l.map fun d=>.agg d.cells) tl∧Qd fr 2=.lst 1 wl wt∧Qd fr 4=ev∧Qd fr 7=.int .i64 ((i:Nat):Int)) :
 W P G 219 0 wm fr σ (Qbb (fun _ _=>False) (fun e fr σ=>e=.ex 0∧σ=⟨t,[]⟩∧Qd fr 0=.lst 6 (l.map fun d=>.agg d.cells) tl∧Qd fr 2=.lst 1 wl wt∧Qd fr 4=ev)):=by
 obtain ⟨rfl,f0,f2,f4,f7⟩:=hJ
 refine Qh [(0,.lst 6 (l.map fun d=>.agg d.cells) tl),(2,.lst 1 wl wt),(4,ev),(7,.int .i64 ((i:Nat):Int))] ⟨f0,f2,f4,f7,trivial⟩  1000 ?_
 simp -implicitDefEqProofs (disch:=omega) only [go_sem,↓reduceIte,reduceCtorEq,rq,lM,and_true,hi,Int.lt_irrefl]
 try exact ⟨rfl,rfl,rfl,rfl,rfl⟩
def t1J (I:Int→Int→Bool) (val:Int→Int) (cap:Nat) (g:Gr) (wl:List V) (wt:Bool) (ev:V) (i:Nat) (fr:Fr) (σ:H):Prop :=
 ∃ t s B e w,σ=⟨t,bT' g B s e++[some (.arr w 3 (Qb (frT s.S.gs)))]⟩∧BInv I g.L val cap s∧0<s.S.cs.length∧(∀ j:Int,0≤j→j<i→(kL s.K j).isSome=true)∧(∀ j:Int,i≤j→kL s.K j=none)∧(∀ p∈inP s.S,p.2.a<i)∧Qd fr 2=.lst 1 wl wt∧Qd fr 4=ev∧Qd fr 8=.ptr 1 g.v0 0∧Qd fr 10=.ptr 7 g.b 0∧Qd fr 11=.sl 12 w 0 1 (frT s.S.gs).length none∧Qd fr 12=.int .i64 ((i:Nat):Int)
def t1E (I:Int→Int→Bool) (val:Int→Int) (cap:Nat) (g:Gr) (wl:List V) (wt:Bool) (ev:V) (ae:AE) (fr:Fr) (σ:H):Prop :=
 ae=.ex 2∧∃ t s B e w,σ=⟨t,bT' g B s e++[some (.arr w 3 (Qb (frT s.S.gs)))]⟩∧BInv I g.L val cap s∧0<s.S.cs.length∧Qd fr 2=.lst 1 wl wt∧Qd fr 4=ev∧Qd fr 10=.ptr 7 g.b 0∧Qd fr 11=.sl 12 w 0 1 (frT s.S.gs).length none
theorem Qip {n:Nat} {ex:List (Option Ob)}:Shift G n 0 fr ⟨t,bT' g B s e++x::ex⟩ fr ⟨t,bT' g B s e++[x]⟩:=by
 have h:=Xd 13 (bT' g B s e++x::ex)
 have e2:List.take 13 (bT' g B s e++x::ex)=bT' g B s e++[x]:=rfl
 rw [e2] at h
 exact Shift.drop h (lR _) (zL _)
theorem t_Node (hT:Qe P tab) {base:Nat} {ex:List (Option Ob)} {id:Int} (hid:0≤id∧id<g.L.length) :
 C P G base X1 [.ptr 1 g.v0 0,.int .i64 id] ⟨t,bT' g B s e++ex⟩ fun v σ=>v=.tup [.agg (nd g.L id).cells,.bool true]∧∃ t',t≤t'∧σ=⟨t',bT' g B s e++ex⟩:=QoR hT hid base t B ex
variable {I:Int→Int→Bool}
theorem Qzm (hT:Qe P tab) (SO:Q1 P) (hgL:g.L=cL) {val:Int→Int} (cx:Ctx I g.L val) {wt:Bool} (hi:i<7) (hJ:t1J I val cap g wl wt ev i fr σ) :
 W P G 219 0 wn fr σ (Qbb (fun fr σ=>∃ fr' σ',Shift G 219 0 fr σ fr' σ'∧t1J I val cap g wl wt ev (i+1) fr' σ') (t1E I val cap g wl wt ev)):=by
 obtain ⟨t,s,B,e,w,rfl,hs,hcs,hk,hun,hin,f2,f4,f8,f10,f11,f12⟩:=hJ
 have hLl:g.L.length=7:=by rw [hgL]; rfl
 have hnf:QeA g.L:=by rw [hgL]; exact QIE
 have hki:(i:Int)<g.L.length:=by omega
 have hk0:(0:Int)≤(i:Int):=by omega
 have hki7:(i:Int)<7:=by omega
 have hw:IntKind.i64.wrap ((i:Int)+1)=((i+1:Nat):Int):=by rw [wrap_i64 (by omega) (by omega)]; omega
 obtain ⟨i1,u1,k1,n1,-⟩:=QMp cx hnf hs hk0 hki
 have h64:(kx (blB g.L s i).K i).length=64:=n1.len
 have hbT:=blB_bT cx.wf hnf hk0 hki hk
 obtain ⟨bi2,bi1⟩:=bT_in (L:=g.L) (s:=s) (u:=i) (hun i (Int.le_refl _)) (fun p hp=>by have:=hin p hp; omega)
 rw [← hbT] at bi2 bi1
 have hfl:(frT s.S.gs).length≤8000000:=by have h1:=Qtr s.S.gs; have h2:=hs.g; have h3:=hs.hc; omega
 have hkn:∀ j:Int,((i+1:Nat):Int)≤j→kL (blB g.L s i).K j=none:=fun j hj=>by
  cases hh:kL (blB g.L s i).K j with
  | none=>rfl
  | some x =>
    rw [hbT] at hh
    have hu:=hun j (by omega)
    have:kL (bT g.L s i).K j=none:=by
     unfold bT
     split
     ·exact hu
     ·split <;> (simp only; rw [Qe9,hu,if_neg (by omega)]; rfl)
    rw [this] at hh; cases hh
 have hkk:∀ j:Int,0≤j→j<((i+1:Nat):Int)→(kL (blB g.L s i).K j).isSome=true:=fun j j0 j1=>by
  rcases (show j<i∨j=i by omega) with h | h
  ·exact u1.some (hk j j0 h)
  ·rw [h]; exact k1
 have hc2:=Nat.lt_of_lt_of_le hcs u1.c.length_le
 have ho:ones (nd g.L i).cells:=QbP rfl
 have g0:(nd g.L i).cells.getD 0 V.any=.int .u8 (nd g.L i).kind:=rfl
 have g3:(nd g.L i).cells.getD 3 V.any=.int .u8 (nd g.L i).op:=rfl
 have g6:(nd g.L i).cells.length=6:=rfl
 have gt6:List.take 6 (nd g.L i).cells=(nd g.L i).cells:=rfl
 have gd6:List.drop 6 (nd g.L i).cells=[]:=rfl
 have hkd:=cL_kd i hi
 rw [← hgL] at hkd
 refine Qh [(2,.lst 1 wl wt),(4,ev),(8,.ptr 1 g.v0 0),(10,.ptr 7 g.b 0),(11,.sl 12 w 0 1 (frT s.S.gs).length none),(12,.int .i64 ((i:Nat):Int))] ⟨f2,f4,f8,f10,f11,f12,trivial⟩ 1000 ?_
 simp -implicitDefEqProofs (disch:=omega) only [go_sem,↓reduceIte,rq]
 refine call hT QB (QHX hT) 1000 fun v σ hv=>?_
 obtain ⟨rfl,t1,ht1,rfl⟩:=hv
 simp -implicitDefEqProofs (disch:=omega) only [go_sem,↓reduceIte,rq,hki]
 refine call hT QR (Xj (by decide) (by rw [QlH]; exact Nat.le_add_left _ _) (t_Bits hT SO cx hnf hs (by omega) hk0 hki)) 1000 fun v σ hv=>?_
 obtain ⟨rfl,t2,B2,e2,ht2,rfl⟩:=hv
 simp -implicitDefEqProofs (disch:=omega) only [go_sem,↓reduceIte,rA,rq,rT,lC,lN]
 refine call hT XE (t_Node hT ⟨hk0,hki⟩) 1000 fun v σ hv=>?_
 obtain ⟨rfl,t3,ht3,rfl⟩:=hv
 rcases hkd with ⟨hd,-⟩ | h1 | ⟨h4,h16⟩
 ·obtain ⟨a1,a2⟩:=bi2 hd
  have a1':frT (blB g.L s i).S.gs=frT s.S.gs++kx (blB g.L s i).K i:=a1
  have hin':∀ p∈inP (blB g.L s i).S,p.2.a<((i+1:Nat):Int):=fun p hp=>by
   rcases a2 p hp with h | h
   ·have:=hin p h; omega
   ·omega
  by_cases hd2:(nd g.L i).kind=2
  ·simp -implicitDefEqProofs (disch:=omega) only [go_sem,↓reduceIte,rA,rq,rL,rT,QlH,QqD,Qiq,Qcq,QA4,QtJ,lC,lN,nA,cA,true_implies,true_and,and_true,g0,g6,ho,hd2,Qi,QG n1.len,hw,Qre]
   refine ⟨_,_,Qip,t3+1+1,blB g.L s i,B2,e2,t3+1,?_,i1,hc2,hkk,hkn,hin',?_⟩
   ·rw [a1']; simp [Qb]
   ·rw [a1',lA,h64]
    simp -implicitDefEqProofs (disch:=omega) only [go_sem,↓reduceIte,rq]
  ·have hd3:(nd g.L i).kind=3:=by omega
   simp -implicitDefEqProofs (disch:=omega) only [go_sem,↓reduceIte,rA,rq,rL,rT,Int.reduceEq,QlH,QqD,Qiq,Qcq,QA4,QtJ,lC,lN,nA,cA,false_implies,true_implies,true_and,and_true,not_false_eq_true,g0,g6,ho,hd3,Qi,QG n1.len,hw,Qre]
   refine ⟨_,_,Qip,t3+1+1,blB g.L s i,B2,e2,t3+1,?_,i1,hc2,hkk,hkn,hin',?_⟩
   ·rw [a1']; simp [Qb]
   ·rw [a1',lA,h64]
    simp -implicitDefEqProofs (disch:=omega) only [go_sem,↓reduceIte,rq]
 ·have a1:=bi1 (.inl h1)
  have a1':frT (blB g.L s i).S.gs=frT s.S.gs:=congrArg (List.map (Prod.fst:Int × Gt→Int)) a1
  have hin':∀ p∈inP (blB g.L s i).S,p.2.a<((i+1:Nat):Int):=fun p hp=>by
   rw [a1] at hp
   have:=hin p hp; omega
  simp -implicitDefEqProofs (disch:=omega) only [go_sem,↓reduceIte,rA,rq,rL,rT,Int.reduceEq,QlH,QqD,Qiq,Qcq,QA4,QtJ,lC,lN,nA,cA,false_implies,true_implies,true_and,and_true,not_false_eq_true,g0,g3,g6,ho,h1,hw]
  refine ⟨_,_,Qip,t3+1,blB g.L s i,B2,e2,w,by rw [a1'],i1,hc2,hkk,hkn,hin',?_⟩
  rw [a1']
  simp -implicitDefEqProofs (disch:=omega) only [go_sem,↓reduceIte,rq]
 ·have a1:=bi1 (.inr ⟨h4,h16⟩)
  have a1':frT (blB g.L s i).S.gs=frT s.S.gs:=congrArg (List.map (Prod.fst:Int × Gt→Int)) a1
  have hin':∀ p∈inP (blB g.L s i).S,p.2.a<((i+1:Nat):Int):=fun p hp=>by
   rw [a1] at hp
   have:=hin p hp; omega
  simp -implicitDefEqProofs (disch:=omega) only [go_sem,↓reduceIte,rA,rq,rL,rT,Int.reduceLE,Int.reduceEq,QlH,QqD,Qiq,Qcq,QA4,QtJ,lC,lN,nA,cA,false_implies,true_implies,true_and,and_true,not_false_eq_true,g0,g3,g6,ho,h4,h16,hw]
  refine ⟨_,_,Qip,t3+1,blB g.L s i,B2,e2,w,by rw [a1'],i1,hc2,hkk,hkn,hin',?_⟩
  rw [a1']
  simp -implicitDefEqProofs (disch:=omega) only [go_sem,↓reduceIte,rq]
theorem QKC (hT:Qe P tab) {val:Int→Int} {wt:Bool} (hi:i=g.L.length) (hJ:t1J I val cap g wl wt ev i fr σ) :
 W P G 219 0 wn fr σ (Qbb (fun _ _=>False) (t1E I val cap g wl wt ev)):=by
 obtain ⟨t,s,B,e,w,rfl,hs,hcs,hk,hun,hin,f2,f4,f8,f10,f11,f12⟩:=hJ
 refine Qh [(2,.lst 1 wl wt),(4,ev),(8,.ptr 1 g.v0 0),(10,.ptr 7 g.b 0),(11,.sl 12 w 0 1 (frT s.S.gs).length none),(12,.int .i64 ((i:Nat):Int))] ⟨f2,f4,f8,f10,f11,f12,trivial⟩ 1000 ?_
 simp -implicitDefEqProofs (disch:=omega) only [go_sem,↓reduceIte,rq]
 refine call hT QB (QHX hT) 1000 fun v σ hv=>?_
 obtain ⟨rfl,t1,ht1,rfl⟩:=hv
 simp -implicitDefEqProofs (disch:=omega) only [go_sem,↓reduceIte,rq,hi,Int.lt_irrefl]
 exact ⟨rfl,_,s,B,e,w,rfl,hs,hcs,rfl,rfl,rfl,rfl⟩
def t2H (g:Gr) (B:Bv) (s:Bs) (e w:Nat) (Fl:List Int):List (Option Ob):=bT' g B s e++[some (.arr w 3 (Qb Fl))]
def t2E (g:Gr) (B:Bv) (s:Bs) (e w t:Nat) (Fl:List Int) (wl:List V) (wt:Bool) (ev:V) (x:Nat) (ae:AE) (fr:Fr) (σ:H):Prop :=
 ae=.ex x∧σ=⟨t,t2H g B s e w Fl⟩∧Qd fr 2=.lst 1 wl wt∧Qd fr 4=ev∧Qd fr 10=.ptr 7 g.b 0∧Qd fr 11=.sl 12 w 0 1 Fl.length none∧Qd fr 17=.lst 1 (Qb Fl) false
variable {Fl:List Int}
theorem Qzl (hT:Qe P tab) (hFl:Fl.length≤8000000) (hso:Fl.Pairwise (·<·)) {wt:Bool} {x:Int} (hx:Fl[i]?=some x) (hJ:σ=⟨t,t2H g B s e w Fl⟩∧Qd fr 2=.lst 1 wl wt∧Qd fr 4=ev∧Qd fr 10=.ptr 7 g.b 0∧Qd fr 11=.sl 12 w 0 1 Fl.length none∧Qd fr 17=.lst 1 (Qb Fl) false∧Qd fr 18=.int .i64 ((i:Nat):Int)) :
 W P G 219 0 wo fr σ (Qbb (fun fr' σ=>∃ fr σ',Shift G 219 0 fr' σ fr σ'∧σ'=⟨t,t2H g B s e w Fl⟩∧Qd fr 2=.lst 1 wl wt∧Qd fr 4=ev∧Qd fr 10=.ptr 7 g.b 0∧Qd fr 11=.sl 12 w 0 1 Fl.length none∧Qd fr 17=.lst 1 (Qb Fl) false∧Qd fr 18=.int .i64 ((i+1:Nat):Int)) (t2E g B s e w t Fl wl wt ev 4)):=by
 obtain ⟨rfl,f2,f4,f10,f11,f17,f18⟩:=hJ
 have hlt:=(List.getElem?_eq_some_iff.1 hx).1
 have hki:(i:Int)<Fl.length:=by omega
 have hk0:(0:Int)≤(i:Int):=by omega
 have hw:=QhJ hlt (by omega)
 have gl:=Qb9 hx
 have hF:=QL8 (P:=P) (G:=G) hT (l:=Fl) (n:=x) (by omega)
 rw [decide_eq_true (List.mem_of_getElem? hx)] at hF
 have hsee:SeenL (t2H g B s e w Fl) [V.sl 12 w 0 1 Fl.length none,.int .i64 x] [.lst 1 (Qb Fl) false,.int .i64 x]:=.cons _ _ _ _ (Qzw (T:=3) rfl rfl) (.cons _ _ _ _ (.same _ rfl) .nil)
 by_cases hi0:i=0
 ·have hki0:¬ (0:Int)<(i:Int):=by omega
  refine Qh [(2,.lst 1 wl wt),(4,ev),(10,.ptr 7 g.b 0),(11,.sl 12 w 0 1 Fl.length none),(17,.lst 1 (Qb Fl) false),(18,.int .i64 ((i:Nat):Int))] ⟨f2,f4,f10,f11,f17,f18,trivial⟩  1000 ?_
  simp -implicitDefEqProofs (disch:=omega) only [go_sem,↓reduceIte,rq,lC,lN,true_implies,and_true,hki,hk0,hlt,Int.toNat_natCast,gl,Qi]
  refine QkB hT Yc hF hsee rfl 1000 ?_
  simp -implicitDefEqProofs (disch:=omega) only [go_sem,↓reduceIte,rA,rq,hki0,hw]
  exact ⟨_,_,Shift.refl _ _ _ _,rfl,by simp -implicitDefEqProofs (disch:=omega) only [go_sem,↓reduceIte],by simp -implicitDefEqProofs (disch:=omega) only [go_sem,↓reduceIte,rq],by simp -implicitDefEqProofs (disch:=omega) only [go_sem,↓reduceIte,rq],by simp -implicitDefEqProofs (disch:=omega) only [go_sem,↓reduceIte,rq],by simp -implicitDefEqProofs (disch:=omega) only [go_sem,↓reduceIte,rq],by simp -implicitDefEqProofs (disch:=omega) only [go_sem,↓reduceIte,rq]⟩
 ·have hki0:(0:Int)<(i:Int):=by omega
  have e1:IntKind.i64.wrap ((i:Int) - 1)=((i - 1:Nat):Int):=by rw [wrap_i64 (by omega) (by omega)]; omega
  obtain ⟨y,hy⟩:∃ y,Fl[i - 1]?=some y:=⟨_,List.getElem?_eq_getElem (by omega)⟩
  have gy:=Qb9 hy
  have hk1:(0:Int)≤((i - 1:Nat):Int):=by omega
  have hl1:((i - 1:Nat):Int)<Fl.length:=by omega
  have hl2:i - 1<Fl.length:=by omega
  have hxy:¬ x≤y:=by
   have h1:=List.pairwise_iff_getElem.1 hso (i - 1) i (by omega) hlt (by omega)
   rw [List.getElem?_eq_getElem (by omega)] at hy
   rw [List.getElem?_eq_getElem hlt] at hx
   cases hy; cases hx
   omega
  refine Qh [(2,.lst 1 wl wt),(4,ev),(10,.ptr 7 g.b 0),(11,.sl 12 w 0 1 Fl.length none),(17,.lst 1 (Qb Fl) false),(18,.int .i64 ((i:Nat):Int))] ⟨f2,f4,f10,f11,f17,f18,trivial⟩  1000 ?_
  simp -implicitDefEqProofs (disch:=omega) only [go_sem,↓reduceIte,rq,lC,lN,true_implies,and_true,hki,hk0,hlt,Int.toNat_natCast,gl,Qi]
  refine QkB hT Yc hF hsee rfl 1000 ?_
  simp -implicitDefEqProofs (disch:=omega) only [go_sem,↓reduceIte,rA,rq,lC,lN,true_implies,and_true,hki0,hk0,hlt,Int.toNat_natCast,gl,Qi,e1,hk1,hl2,gy,hxy,hw]
  exact ⟨_,_,Shift.refl _ _ _ _,rfl,by simp -implicitDefEqProofs (disch:=omega) only [go_sem,↓reduceIte],by simp -implicitDefEqProofs (disch:=omega) only [go_sem,↓reduceIte,rq],by simp -implicitDefEqProofs (disch:=omega) only [go_sem,↓reduceIte,rq],by simp -implicitDefEqProofs (disch:=omega) only [go_sem,↓reduceIte,rq],by simp -implicitDefEqProofs (disch:=omega) only [go_sem,↓reduceIte,rq],by simp -implicitDefEqProofs (disch:=omega) only [go_sem,↓reduceIte,rq]⟩
theorem QKB (hT:Qe P tab) {wt:Bool} (hi:i=Fl.length) (hJ:σ=⟨t,t2H g B s e w Fl⟩∧Qd fr 2=.lst 1 wl wt∧Qd fr 4=ev∧Qd fr 10=.ptr 7 g.b 0∧Qd fr 11=.sl 12 w 0 1 Fl.length none∧Qd fr 17=.lst 1 (Qb Fl) false∧Qd fr 18=.int .i64 ((i:Nat):Int)) :
 W P G 219 0 wo fr σ (Qbb (fun _ _=>False) (t2E g B s e w t Fl wl wt ev 4)):=by
 obtain ⟨rfl,f2,f4,f10,f11,f17,f18⟩:=hJ
 refine Qh [(2,.lst 1 wl wt),(4,ev),(10,.ptr 7 g.b 0),(11,.sl 12 w 0 1 Fl.length none),(17,.lst 1 (Qb Fl) false),(18,.int .i64 ((i:Nat):Int))] ⟨f2,f4,f10,f11,f17,f18,trivial⟩  1000 ?_
 simp -implicitDefEqProofs (disch:=omega) only [go_sem,↓reduceIte,rq,hi,Qi,Int.lt_irrefl]
 exact ⟨rfl,rfl,by simp -implicitDefEqProofs (disch:=omega) only [go_sem,↓reduceIte],by simp -implicitDefEqProofs (disch:=omega) only [go_sem,↓reduceIte,rq],by simp -implicitDefEqProofs (disch:=omega) only [go_sem,↓reduceIte,rq],by simp -implicitDefEqProofs (disch:=omega) only [go_sem,↓reduceIte,rq],by simp -implicitDefEqProofs (disch:=omega) only [go_sem,↓reduceIte,rq]⟩
theorem Qzk (hT:Qe P tab) (hFl:Fl.length≤8000000) {wt:Bool} {x:Int} (hx:Fl[i]?=some x) (hJ:σ=⟨t,t2H g B s e w Fl⟩∧Qd fr 2=.lst 1 wl wt∧Qd fr 4=ev∧Qd fr 10=.ptr 7 g.b 0∧Qd fr 11=.sl 12 w 0 1 Fl.length none∧Qd fr 17=.lst 1 (Qb Fl) false∧Qd fr 19=.int .i64 ((i:Nat):Int)) :
 W P G 219 0 wq fr σ (Qbb (fun fr' σ=>∃ fr σ',Shift G 219 0 fr' σ fr σ'∧σ'=⟨t,t2H g B s e w Fl⟩∧Qd fr 2=.lst 1 wl wt∧Qd fr 4=ev∧Qd fr 10=.ptr 7 g.b 0∧Qd fr 11=.sl 12 w 0 1 Fl.length none∧Qd fr 17=.lst 1 (Qb Fl) false∧Qd fr 19=.int .i64 ((i+1:Nat):Int)) (t2E g B s e w t Fl wl wt ev 6)):=by
 obtain ⟨rfl,f2,f4,f10,f11,f17,f19⟩:=hJ
 have hlt:=(List.getElem?_eq_some_iff.1 hx).1
 have hki:(i:Int)<Fl.length:=by omega
 have hk0:(0:Int)≤(i:Int):=by omega
 have hw:=QhJ hlt (by omega)
 have gl:=Qb9 hx
 have hF:=QL8 (P:=P) (G:=G) hT (l:=Fl) (n:=x) (by omega)
 rw [decide_eq_true (List.mem_of_getElem? hx)] at hF
 unfold t2H
 refine Qh [(2,.lst 1 wl wt),(4,ev),(10,.ptr 7 g.b 0),(11,.sl 12 w 0 1 Fl.length none),(17,.lst 1 (Qb Fl) false),(19,.int .i64 ((i:Nat):Int))] ⟨f2,f4,f10,f11,f17,f19,trivial⟩  1000 ?_
 simp -implicitDefEqProofs (disch:=omega) only [go_sem,↓reduceIte,rq,Qiq,true_implies,true_and,and_true,hki,hk0,hlt,Int.toNat_natCast,gl,Qi]
 refine Qy hT Yc hF (by simp [Qc,Qf]) 1000 ?_
 simp -implicitDefEqProofs (disch:=omega) only [go_sem,↓reduceIte,rq,hw]
 exact ⟨_,_,Shift.refl _ _ _ _,rfl,by simp -implicitDefEqProofs (disch:=omega) only [go_sem,↓reduceIte],by simp -implicitDefEqProofs (disch:=omega) only [go_sem,↓reduceIte,rq],by simp -implicitDefEqProofs (disch:=omega) only [go_sem,↓reduceIte,rq],by simp -implicitDefEqProofs (disch:=omega) only [go_sem,↓reduceIte,rq],by simp -implicitDefEqProofs (disch:=omega) only [go_sem,↓reduceIte,rq],by simp -implicitDefEqProofs (disch:=omega) only [go_sem,↓reduceIte,rq]⟩
theorem QKA (hT:Qe P tab) {wt:Bool} (hi:i=Fl.length) (hJ:σ=⟨t,t2H g B s e w Fl⟩∧Qd fr 2=.lst 1 wl wt∧Qd fr 4=ev∧Qd fr 10=.ptr 7 g.b 0∧Qd fr 11=.sl 12 w 0 1 Fl.length none∧Qd fr 17=.lst 1 (Qb Fl) false∧Qd fr 19=.int .i64 ((i:Nat):Int)) :
 W P G 219 0 wq fr σ (Qbb (fun _ _=>False) (t2E g B s e w t Fl wl wt ev 6)):=by
 obtain ⟨rfl,f2,f4,f10,f11,f17,f19⟩:=hJ
 refine Qh [(2,.lst 1 wl wt),(4,ev),(10,.ptr 7 g.b 0),(11,.sl 12 w 0 1 Fl.length none),(17,.lst 1 (Qb Fl) false),(19,.int .i64 ((i:Nat):Int))] ⟨f2,f4,f10,f11,f17,f19,trivial⟩  1000 ?_
 simp -implicitDefEqProofs (disch:=omega) only [go_sem,↓reduceIte,rq,hi,Int.lt_irrefl]
 exact ⟨rfl,rfl,by simp -implicitDefEqProofs (disch:=omega) only [go_sem,↓reduceIte],by simp -implicitDefEqProofs (disch:=omega) only [go_sem,↓reduceIte,rq],by simp -implicitDefEqProofs (disch:=omega) only [go_sem,↓reduceIte,rq],by simp -implicitDefEqProofs (disch:=omega) only [go_sem,↓reduceIte,rq],by simp -implicitDefEqProofs (disch:=omega) only [go_sem,↓reduceIte,rq]⟩
end
end Go.Proofs.YtoeicjlflmmmcaaGreatDoor
namespace Go.Proofs.YtoeicjlflmmmcaaGreatDoor
open Go Go.Am Go.Bl
set_option maxRecDepth 100000
variable {G:Nat→Option V}
set_option maxHeartbeats 1000000
section
attribute [local go_sem] nT lR zA zL decide_false gt_iff_lt XH zqj_0 zqj_1 QBH QBG Qor Qoq Qop Qoo Qon Qom Qol Qok zqj_2 QBF QBE Qoj Qoi Qoh Qog QBD Qof Qoe Qod zqj_3 Qoc Qr9 QBC Qob Qoa Qn9 Qn8 Qn7 Qn6 Qn5 Qu8 Qn4 QBB Qu7 Qu6 Qu5 zqj_8 zqj_9
theorem Qo1 {P:Program} {n base:Nat} {c:AC} {s:List KI} {Q:AE→Fr→H→Prop} {fr:Fr} {σ:H} (l:Fr) (h:Qh8 fr l) (k:sem P G n base Q (.ac c::s) .nrm l σ):sem P G n base Q (.ac c::s) .nrm fr σ:=QnH l h k
theorem c_Told (hT:Qe Tryz.prog tab) (F:Fmt Tryz.prog G) (SO:Q1 Tryz.prog) {tl:Bool} {Sy:List Int} {tS:Bool} {C':List Cl} {tC:Bool} (hSl:Sy.length≤60) (hCl:C'.length≤60) (hS:∀ x∈Sy,i64 x) (hCn:∀ c∈C',i64 c.n) {Ws:List Int} (hW:∀ w∈Ws,0≤w∧w≤65535) (hWl:Ws.length≤20) {wt:Bool} :
 Pure Tryz.prog G Z4 [.lst 6 (cL.map fun d=>.agg d.cells) tl,QiX Sy tS 4 C' tC,.lst 1 (Ws.map (V.int .u16)) wt] fun v=>v=.bool true:=by
 intro t
 have hWk:=QlC (P:=Tryz.prog) (G:=G) hT F SO
 have hf:=QL9 (P:=Tryz.prog) (G:=G) (l:=cL) (tl:=tl) (S:=Sy) (tS:=tS) (C':=C') (tC:=tC) (top:=10) hT (by decide)
 have hfb:QLI cL Sy C' 10=true:=by
  unfold QLI
  simp [hSl,hCl]
  decide
 rw [hfb] at hf
 have hWn:¬ (20:Int)<Ws.length:=by omega
 have hcl:((cL.map fun d=>V.agg d.cells)).length=7:=rfl
 refine Qj 0 (zL _) (Qo hT Z2 (by simp [XH]) (Qm 1000 ?_))
 unfold QiX at hf ⊢
 simp -implicitDefEqProofs (disch:=omega) only [go_sem,↓reduceIte,reduceCtorEq,rA,rq,lC,lN,nA,false_implies,and_true]
 refine Qy hT Yd hf (by simp [Qc,Qf]) 9 ?_
 simp -implicitDefEqProofs (disch:=omega) only [go_sem,↓reduceIte,reduceCtorEq,rA,rq,lM,hWn]
 refine QX (Shift.freeze (k:=0) (v:=t) (T:=26) (cs:=[.lst 1 (Qb Sy) tS,.lst 4 (C'.map Cl.v) tC]) (zL _) rfl rfl) ?_
 simp only [List.set_cons_zero,Y4,ZP,Qfc,Qfd,Qfb,Q6,Option.map_none]
 refine QX (Shift.drop (o':=[]) (t':=t+1) (by simp [Zl]) (lR _) (zL _)) (Qg 1000 ?_)
 simp -implicitDefEqProofs (disch:=omega) only [go_sem,↓reduceIte,reduceCtorEq,rq]
 refine Yn cL (fun i fr σ=>σ=⟨t+1,[]⟩∧Qd fr 0=.lst 6 (cL.map fun d=>.agg d.cells) tl∧Qd fr 2=.lst 1 (Ws.map (V.int .u16)) wt∧Qd fr 4=eR Sy tS C' tC∧Qd fr 7=.int .i64 ((i:Nat):Int)) (fun e fr σ=>e=.ex 0∧σ=⟨t+1,[]⟩∧Qd fr 0=.lst 6 (cL.map fun d=>.agg d.cells) tl∧Qd fr 2=.lst 1 (Ws.map (V.int .u16)) wt∧Qd fr 4=eR Sy tS C' tC) ⟨rfl,by simp -implicitDefEqProofs (disch:=omega) only [go_sem,↓reduceIte],by simp -implicitDefEqProofs (disch:=omega) only [go_sem,↓reduceIte,reduceCtorEq,rq],by simp -implicitDefEqProofs (disch:=omega) only [go_sem,↓reduceIte,reduceCtorEq,rq],by simp -implicitDefEqProofs (disch:=omega) only [go_sem,↓reduceIte,reduceCtorEq,rq]; rfl⟩ (fun i d hd fr σ hJ=>Qzn hT cL_op (by decide) hd hJ) (fun i hi fr σ hJ=>QKD hT hi hJ) (fun e fr σ hE=>?_)
 obtain ⟨rfl,rfl,f0,f2,f4⟩:=hE
 refine XN [(0,.lst 6 (cL.map fun d=>.agg d.cells) tl),(2,.lst 1 (Ws.map (V.int .u16)) wt),(4,eR Sy tS C' tC)] ⟨f0,f2,f4,trivial⟩ 1000 ?_
 simp -implicitDefEqProofs (disch:=omega) only [go_sem,↓reduceIte,reduceCtorEq,rq]
 have hMa:=QnA (P:=Tryz.prog) hT F (t:=t+1) cL tl cL_i (by decide)
 rw [QrW] at hMa
 refine call hT Yv hMa 1000 fun v σ hv=>?_
 obtain ⟨v0,v1,v2,v3,v4,t1,ht1,rfl,rfl⟩:=hv
 simp -implicitDefEqProofs (disch:=omega) only [go_sem,↓reduceIte,reduceCtorEq,rA,rq,rT,lC,lN]
 refine call hT Qan (Xj (by decide) (by simp [kG]) (QKN hT)) 6 fun v σ hv=>?_
 obtain ⟨g,t2,B2,e2,hgL,hv0,ht2,rfl,rfl⟩:=hv
 subst hv0
 have hok:okN g.L:=by rw [hgL]; exact cL_ok
 have hLl:g.L.length=7:=by rw [hgL]; rfl
 have cx:=Qjf hok hS hCn
 have i0:BInv (Qbp Sy C' g.L) g.L (val Sy C' g.L) 400000 b0:=inv0 (by omega) (by rw [hgL]; decide)
 simp -implicitDefEqProofs (disch:=omega) only [go_sem,↓reduceIte,reduceCtorEq,rq]
 refine QX (Shift.own (s:=11) (sz:=1) (T:=3) (z:=0) (by simp -implicitDefEqProofs (disch:=omega) only [go_sem,↓reduceIte,reduceCtorEq,rq]) (by decide)) (Qg 1000 ?_)
 simp -implicitDefEqProofs (disch:=omega) only [go_sem,↓reduceIte,reduceCtorEq,rq,Q7,H.push]
 refine XQ 7 (t1J (Qbp Sy C' g.L) (val Sy C' g.L) 400000 g (Ws.map (V.int .u16)) wt (eR Sy tS C' tC)) (t1E (Qbp Sy C' g.L) (val Sy C' g.L) 400000 g (Ws.map (V.int .u16)) wt (eR Sy tS C' tC)) ⟨t2+1,b0,B2,e2,t2,rfl,i0,Nat.one_pos,fun j j0 j1=>absurd j1 (by omega),fun j _=>rfl,fun p hp=>absurd (show p∈([]:List (Int × Gt)) from hp) (by simp),by simp -implicitDefEqProofs (disch:=omega) only [go_sem,↓reduceIte,reduceCtorEq],by simp -implicitDefEqProofs (disch:=omega) only [go_sem,↓reduceIte,reduceCtorEq,rq],by simp -implicitDefEqProofs (disch:=omega) only [go_sem,↓reduceIte,reduceCtorEq,rq],by simp -implicitDefEqProofs (disch:=omega) only [go_sem,↓reduceIte,reduceCtorEq,rq],by simp -implicitDefEqProofs (disch:=omega) only [go_sem,↓reduceIte,reduceCtorEq,rq]; rfl,by simp -implicitDefEqProofs (disch:=omega) only [go_sem,↓reduceIte,reduceCtorEq,rq]; rfl⟩ (fun i hi fr σ hJ=>Qzm hT SO hgL cx hi hJ) (fun i hi fr σ hJ=>QKC hT (by omega) hJ) (fun e fr σ hE=>?_)
 obtain ⟨rfl,t3,s,B3,e3,w3,rfl,hs,hcs,f2,f4,f10,f11⟩:=hE
 refine XN [(2,.lst 1 (Ws.map (V.int .u16)) wt),(4,eR Sy tS C' tC),(10,.ptr 7 g.b 0),(11,.sl 12 w3 0 1 (frT s.S.gs).length none)] ⟨f2,f4,f10,f11,trivial⟩ 1000 ?_
 simp -implicitDefEqProofs (disch:=omega) only [go_sem,↓reduceIte,rq]
 have hgs:s.S.gs.length≤8000000:=by have h2:=hs.g; have h3:=hs.hc; omega
 have hfl:(frT s.S.gs).length≤8000000:=by have h1:=Qtr s.S.gs; omega
 refine call hT YY (Xj (by decide) (by rw [QlH]; exact Nat.le_add_left _ _) (t_Free hT hs)) 1000 fun v σ hv=>?_
 obtain ⟨rfl,t4,ht4,rfl⟩:=hv
 simp -implicitDefEqProofs (disch:=omega) only [go_sem,↓reduceIte,rq]
 refine Yn (frT s.S.gs) (fun i fr σ=>σ=⟨t4,t2H g B3 s e3 w3 (frT s.S.gs)⟩∧Qd fr 2=.lst 1 (Ws.map (V.int .u16)) wt∧Qd fr 4=eR Sy tS C' tC∧Qd fr 10=.ptr 7 g.b 0∧Qd fr 11=.sl 12 w3 0 1 (frT s.S.gs).length none∧Qd fr 17=.lst 1 (Qb (frT s.S.gs)) false∧Qd fr 18=.int .i64 ((i:Nat):Int)) (t2E g B3 s e3 w3 t4 (frT s.S.gs) (Ws.map (V.int .u16)) wt (eR Sy tS C' tC) 4) ⟨rfl,by simp -implicitDefEqProofs (disch:=omega) only [go_sem,↓reduceIte],by simp -implicitDefEqProofs (disch:=omega) only [go_sem,↓reduceIte,rq],by simp -implicitDefEqProofs (disch:=omega) only [go_sem,↓reduceIte,rq],by simp -implicitDefEqProofs (disch:=omega) only [go_sem,↓reduceIte,rq],by simp -implicitDefEqProofs (disch:=omega) only [go_sem,↓reduceIte,rq],by simp -implicitDefEqProofs (disch:=omega) only [go_sem,↓reduceIte,rq]; rfl⟩ (fun i x hx fr σ hJ=>Qzl hT hfl (Qmv _ _).1 hx hJ) (fun i hi fr σ hJ=>QKB hT hi hJ) (fun e fr σ hE=>?_)
 obtain ⟨rfl,rfl,f2,f4,f10,f11,f17⟩:=hE
 refine XN [(2,.lst 1 (Ws.map (V.int .u16)) wt),(4,eR Sy tS C' tC),(10,.ptr 7 g.b 0),(11,.sl 12 w3 0 1 (frT s.S.gs).length none),(17,.lst 1 (Qb (frT s.S.gs)) false)] ⟨f2,f4,f10,f11,f17,trivial⟩ 1000 ?_
 simp -implicitDefEqProofs (disch:=omega) only [go_sem,↓reduceIte,rq]
 refine Yn (frT s.S.gs) (fun i fr σ=>σ=⟨t4,t2H g B3 s e3 w3 (frT s.S.gs)⟩∧Qd fr 2=.lst 1 (Ws.map (V.int .u16)) wt∧Qd fr 4=eR Sy tS C' tC∧Qd fr 10=.ptr 7 g.b 0∧Qd fr 11=.sl 12 w3 0 1 (frT s.S.gs).length none∧Qd fr 17=.lst 1 (Qb (frT s.S.gs)) false∧Qd fr 19=.int .i64 ((i:Nat):Int)) (t2E g B3 s e3 w3 t4 (frT s.S.gs) (Ws.map (V.int .u16)) wt (eR Sy tS C' tC) 6) ⟨rfl,by simp -implicitDefEqProofs (disch:=omega) only [go_sem,↓reduceIte],by simp -implicitDefEqProofs (disch:=omega) only [go_sem,↓reduceIte,rq],by simp -implicitDefEqProofs (disch:=omega) only [go_sem,↓reduceIte,rq],by simp -implicitDefEqProofs (disch:=omega) only [go_sem,↓reduceIte,rq],by simp -implicitDefEqProofs (disch:=omega) only [go_sem,↓reduceIte,rq],by simp -implicitDefEqProofs (disch:=omega) only [go_sem,↓reduceIte,rq]; rfl⟩ (fun i x hx fr σ hJ=>Qzk hT hfl hx hJ) (fun i hi fr σ hJ=>QKA hT hi hJ) (fun e fr σ hE=>?_)
 obtain ⟨rfl,rfl,f2,f4,f10,f11,f17⟩:=hE
 refine QwR [(2,.lst 1 (Ws.map (V.int .u16)) wt),(4,eR Sy tS C' tC),(10,.ptr 7 g.b 0),(17,.lst 1 (Qb (frT s.S.gs)) false)] ⟨f2,f4,f10,f17,trivial⟩ ?_
 refine QX QnF (Qg 1 ?_)
 simp -implicitDefEqProofs (disch:=omega) only [go_sem]
 obtain ⟨M,hM⟩:∃ M,M=mdl (Qbp Sy C' g.L) s.S.gs:=⟨_,rfl⟩
 refine W.conseq (r31_ok hT SO (by omega) hok hS (by omega) hCn hs hcs hM) fun e fr σ hq=>?_
 obtain ⟨rfl,fr',σ',hsh,km,u,t5,ht5,rfl,f2,f17,f20,f21⟩:=hq
 refine QX hsh ?_
 have hml:M.length=s.S.gs.length:=by rw [hM]; exact Zi _
 refine Qo1 [(2,.lst 1 (Ws.map (V.int .u16)) wt),(17,.lst 1 (Qb (frT s.S.gs)) false),(20,.ref (.agg [.int .i64 M.length,.lst 1 (s.S.cs.map row) false]) 0),(21,.sl km u 0 1 M.length none)] ⟨f2,f17,f20,f21,trivial⟩ (Qg 1000 ?_)
 simp -implicitDefEqProofs (disch:=omega) only [go_sem,↓reduceIte,rq]
 refine Yn Ws (l4J (Ws.map (V.int .u16)) wt (frT s.S.gs) s.S.cs M km u) (l4E s.S.cs M km u) ⟨t5,rfl,by simp -implicitDefEqProofs (disch:=omega) only [go_sem,↓reduceIte],by simp -implicitDefEqProofs (disch:=omega) only [go_sem,↓reduceIte,rq],by simp -implicitDefEqProofs (disch:=omega) only [go_sem,↓reduceIte,rq],by simp -implicitDefEqProofs (disch:=omega) only [go_sem,↓reduceIte,rq],by simp -implicitDefEqProofs (disch:=omega) only [go_sem,↓reduceIte,rq]; rfl⟩ (fun i w hw fr σ hJ=>Qz3 hT hs.k.ok hM hgs (by have h2:=hs.c; have h3:=hs.hc; omega) hW hWl hw hJ) (fun i hi fr σ hJ=>QLc hT (by rw [lM]; exact hi) hJ) (fun e fr σ hE=>?_)
 obtain ⟨rfl,t6,rfl,f20,f21⟩:=hE
 have hH:=QmY (P:=Tryz.prog) (G:=G) hT hs hM
 unfold fml at hH
 rw [← hml] at hH
 refine XN [(20,.ref (.agg [.int .i64 M.length,.lst 1 (s.S.cs.map row) false]) 0),(21,.sl km u 0 1 M.length none)] ⟨f20,f21,trivial⟩ 1000 ?_
 simp -implicitDefEqProofs (disch:=omega) only [go_sem,↓reduceIte,reduceCtorEq,rA,rq,lC,lN,false_implies,and_true]
 refine QkB hT Qak hH (.cons _ _ _ _ (.same _ (by simp [Qf,Qc])) (.cons _ _ _ _ (QsS QsT rfl) .nil)) rfl 1000 ?_
 simp -implicitDefEqProofs (disch:=omega) only [go_sem,↓reduceIte,rA,rq]
 refine Qy hT QJ hWk rfl 1000 ?_
 simp -implicitDefEqProofs (disch:=omega) only [go_sem,↓reduceIte,rq,rp_len,and_true]
end
end Go.Proofs.YtoeicjlflmmmcaaGreatDoor
namespace Go.Cl
open Go Go.Am
set_option maxRecDepth 100000
set_option maxHeartbeats 1000000
def neg (n:Int):Int:=if n=-9223372036854775808 then n else -n
inductive UP (F:List (List Int)):Int→Prop
 | mk (c:List Int) (n:Int):c∈F→n∈c→(∀ m∈c,m≠n→UP F (-m))→UP F n
def Confl (F:List (List Int)):Prop:=∃ c∈F,∀ m∈c,UP F (-m)
variable {n:Int} {F:List (List Int)}
theorem UP.mono {G:List (List Int)} (h:∀ c∈F,c∈G) (u:UP F n):UP G n:=by
 induction u with
 | mk c n hc hn _ ih=>exact .mk c n (h c hc) hn ih
theorem Confl.mono {F G:List (List Int)} (h:∀ c∈F,c∈G):Confl F→Confl G:=fun ⟨c,hc,hm⟩=>⟨c,h c hc,fun m x=>(hm m x).mono h⟩
theorem UP.same {G:List (List Int)} (h:∀ c∈F,∃ d∈G,∀ m,m∈d↔m∈c) (u:UP F n):UP G n:=by
 induction u with
 | mk c n hc hn _ ih =>
   obtain ⟨d,hd,e⟩:=h c hc
   exact .mk d n hd ((e n).2 hn) fun m hm hne=>ih m ((e m).1 hm) hne
theorem Confl.same {F G:List (List Int)} (h:∀ c∈F,∃ d∈G,∀ m,m∈d↔m∈c):Confl F→Confl G:=fun ⟨c,hc,hm⟩=>by
 obtain ⟨d,hd,e⟩:=h c hc
 exact ⟨d,hd,fun m x=>(hm m ((e m).1 x)).same h⟩
theorem UP.in (u:UP F n):∃ c∈F,n∈c:=by
 cases u with
 | mk c _ hc hn _=>exact ⟨c,hc,hn⟩
structure Closed (F:List (List Int)) (S:Int→Prop):Prop where
 cons:∀ n,S n→¬ S (-n)
 clause:∀ c∈F,(∃ n∈c,S n)∨∃ n∈c,∃ m∈c,n≠m∧¬ S (-n)∧¬ S (-m)
variable {S:Int→Prop}
theorem Closed.up (h:Closed F S) (u:UP F n):S n:=by
 induction u with
 | mk c n hc hn _ ih =>
   rcases h.clause c hc with ⟨m,hm,hs⟩ | ⟨a,ha,b,hb,hne,sa,sb⟩
   ·by_cases e:m=n
    ·exact e▸hs
    ·exact absurd (ih m hm e) (h.cons m hs)
   ·by_cases e:a=n
    ·exact absurd (ih b hb fun x=>hne (e.trans x.symm)) sb
    ·exact absurd (ih a ha e) sa
theorem Closed.no (h:Closed F S):¬ Confl F:=fun ⟨c,hc,hm⟩=>by
 rcases h.clause c hc with ⟨m,hm',hs⟩ | ⟨a,ha,b,hb,hne,sa,sb⟩
 ·exact h.cons m hs (h.up (hm m hm'))
 ·exact sa (h.up (hm a ha))
def QMx (L:List Int) (c:List Int):List Int:=c.filter fun n=>!decide (-n∈L)
def assign (F:List (List Int)) (L:List Int):List (List Int):=(F.filter fun c=>!c.any fun n=>decide (n∈L)).map (QMx L)
def QKy (L:List Int):List (List Int):=L.map fun n=>[n]
def Sat (S:Int→Prop) (c:List Int):Prop:=∃ n∈c,S n
theorem UP.true (hS:∀ n,S n→¬ S (-n)) (hF:∀ c∈F,Sat S c) (u:UP F n):S n:=by
 induction u with
 | mk c n hc hn _ ih =>
   obtain ⟨m,hm,h⟩:=hF c hc
   by_cases e:m=n
   ·exact e▸h
   ·exact absurd (ih m hm e) (hS m h)
theorem Confl.none (hS:∀ n,S n→¬ S (-n)) (hF:∀ c∈F,Sat S c):¬ Confl F:=fun ⟨c,hc,hm⟩=>by
 obtain ⟨m,hm',h⟩:=hF c hc
 exact hS m h ((hm m hm').true hS hF)
def av (n:Int):Int:=if n<0 then -n else n
def ins (n:Int):List Int→List Int
 | []=>[n]
 | a::l=>if av n<av a then n::a::l else a::ins n l
def sortV:List Int→List Int
 | []=>[]
 | n::l=>ins n (sortV l)
def Once (l:List Int):Prop:=l.Pairwise fun a b=>av a≠av b
def QgS (S c:List Int):Option (List Int) :=
 if c.any fun n=>decide (n∈S) then some S
 else match c.filter fun n=>!decide (-n∈S) with
  | []=>none
  | a::l=>if l.all fun n=>decide (n=a) then some (S++[a]) else some S
def Qdw (S:List Int):List (List Int)→Option (List Int)
 | []=>some S
 | c::F=>(QgS S c).bind fun S=>Qdw S F
def loopU (F:List (List Int)):Nat→List Int→Option (List Int)
 | 0,_=>none
 | k+1,S=>match Qdw S F with
   | none=>none
   | some S'=>if S'.length=S.length then some S' else loopU F k S'
def foundU (F:List (List Int)):Option (List Int):=loopU F (F.flatten.length+1) []
def units (F:List (List Int)):Option (List Int):=(foundU F).map sortV
def Nz (F:List (List Int)):Prop:=∀ c∈F,∀ n∈c,n≠0
structure Inv (F:List (List Int)) (S:List Int):Prop where
 once:Once S
 up:∀ n∈S,UP F n
 nz:∀ n∈S,n≠0
theorem Once.cons {S:List Int} (h:Once S) (hn:n∈S) (h0:n≠0):-n ∉ S:=fun h'=>by
 have hne:n≠-n:=by omega
 obtain ⟨i,hi,e1⟩:=List.mem_iff_getElem.1 hn
 obtain ⟨j,hj,e2⟩:=List.mem_iff_getElem.1 h'
 have key:=List.pairwise_iff_getElem.1 h
 have e:av n=av (-n):=by unfold av; split <;> split <;> omega
 rcases Nat.lt_trichotomy i j with hij | hij | hij
 ·exact key i j hi hj hij (by rw [e1,e2]; exact e)
 ·subst hij; exact hne (e1.symm.trans e2)
 ·exact key j i hj hi hij (by rw [e1,e2]; exact e.symm)
theorem QwQ (hz:Nz F) {S:List Int} (h:Inv F S) {c:List Int} (hc:c∈F) :
 (QgS S c=none→Confl F)∧∀ S',QgS S c=some S'→Inv F S'∧(S'=S∨∃ n∈c,n ∉ S∧S'=S++[n]):=by
 unfold QgS
 split
 ·exact ⟨fun h=>(by cases h),fun S' e=>by cases e; exact ⟨h,.inl rfl⟩⟩
 rename_i hn
 simp only [Bool.not_eq_true,List.any_eq_false,decide_eq_true_eq] at hn
 have hup:∀ m∈c,m ∉ c.filter (fun n=>!decide (-n∈S))→UP F (-m):=fun m hm hx=>by
  have:-m∈S:=by
   refine Classical.byContradiction fun hh=>hx (List.mem_filter.2 ⟨hm,by simpa using hh⟩)
  exact h.up _ this
 generalize hl:c.filter (fun n=>!decide (-n∈S))=left at hup
 cases left with
 | nil=>exact ⟨fun _=>⟨c,hc,fun m hm=>hup m hm (by simp)⟩,fun S' e=>by cases e⟩
 | cons a l =>
   simp only
   have ha:a∈c∧-a ∉ S:=by
    have:a∈c.filter (fun n=>!decide (-n∈S)):=by rw [hl]; simp
    have:=List.mem_filter.1 this
    exact ⟨this.1,by simpa using this.2⟩
   split
   ·rename_i hall
    refine ⟨fun h=>(by cases h),fun S' e=>?_⟩
    cases e
    simp only [List.all_eq_true,decide_eq_true_eq] at hall
    have hu:UP F a:=.mk c a hc ha.1 fun m hm hne=>hup m hm fun hx=>by
     simp only [List.mem_cons] at hx
     exact hne (hx.elim id (hall m))
    refine ⟨⟨?_,fun n hn=>?_,fun n hn=>?_⟩,.inr ⟨a,ha.1,hn a ha.1,rfl⟩⟩
    ·rw [Once,List.pairwise_append]
     refine ⟨h.once,by simp,fun x hx y hy=>?_⟩
     simp at hy
     subst hy
     intro e
     have:x=y∨x=-y:=by
      revert e; unfold av; split <;> split <;> omega
     rcases this with rfl | rfl
     ·exact hn _ ha.1 hx
     ·exact ha.2 hx
    ·simp only [List.mem_append,List.mem_singleton] at hn
     rcases hn with hn | rfl
     ·exact h.up n hn
     ·exact hu
    ·simp only [List.mem_append,List.mem_singleton] at hn
     rcases hn with hn | rfl
     ·exact h.nz n hn
     ·exact hz c hc _ ha.1
   ·exact ⟨fun h=>(by cases h),fun S' e=>by cases e; exact ⟨h,.inl rfl⟩⟩
variable {l:List Int}
theorem Qxe {m:List Int} (h:l.Nodup) (hs:∀ n∈l,n∈m):l.length≤m.length:=by
 induction l generalizing m with
 | nil=>simp
 | cons a l ih =>
   rw [List.nodup_cons] at h
   have ha:=hs a (by simp)
   have:=ih h.2 (m:=m.erase a) fun n hn=>by
    have hne:n≠a:=fun e=>h.1 (e▸hn)
    exact (List.mem_erase_of_ne hne).2 (hs n (by simp [hn]))
   have:=List.length_erase_of_mem ha
   have:=List.length_pos_of_mem ha
   simp
   omega
theorem Once.nodup (h:Once l):l.Nodup:=List.Pairwise.imp (fun {a b} (h:av a≠av b) (e:a=b)=>h (congrArg av e)) h
theorem Inv.len {S:List Int} (h:Inv F S):S.length≤F.flatten.length:=Qxe h.once.nodup fun n hn=>by
 obtain ⟨c,hc,hnc⟩:=(h.up n hn).in
 exact List.mem_flatten.2 ⟨c,hc,hnc⟩
theorem QLz (F:List (List Int)):Inv F []:=⟨.nil,by simp,by simp⟩
end Go.Cl
