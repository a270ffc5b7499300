/- Contracts: the document's clauses. -/
import Derived.Test.YtingdebioipemaaGreatDoorJ7
open Nat renaming reduceEqDiff → rq, reduceAdd → rA, reduceLeDiff → rL, reduceLT → rT, zero_add → zA, le_refl → lR, zero_le → zL, add_zero → aZ
open List renaming length_cons → lC, length_nil → lN, take_succ_cons → tS, length_append → lAq, nil_append → nAq, cons_append → cAq, append_assoc → aA, take_nil → tN, take_zero → tZ, length_map → lM
open Bool renaming not_false → nFq, not_true → nT
namespace Go.Proofs.YtingdebioipemaaGreatDoor
open Go Go.Am Go.Cl Go.Ct
set_option maxRecDepth 100000
variable {G:Nat→Option V}
section
attribute [local go_sem] nFq nT lAq lM lR Nat.mul_one Nat.one_mul zA zL and_true bne_self_eq_false decide_true false_implies Qe Qt not_false_eq_true Qny Qnx Qnw Qnv Qnu Qnt Qns Qnr true_and true_implies
def rwD:List Int→V
 | []=>.lst 0 [] true
 | n::c=>.lst 1 (ints (n::c)) false
def dO (v0 v1 w:Nat) (va:Int):List (List Int)→List (Option Ob)
 | []=>[some (.arr v0 33 [.int .i64 0,.lst 0 [] true]),some (.arr v1 33 [.int .i64 va,.lst 0 [] true])]
 | c::R=>[some (.arr v0 33 [.int .i64 0,.lst 0 [] true]),some (.arr v1 33 [.int .i64 va,.sl 2 w 0 1 (c::R).length none]),some (.arr w 41 ((c::R).map rwD))]
theorem Qy8 (v0 v1 w:Nat) (va:Int) (R:List (List Int)):(dO v0 v1 w va R).length=2∨(dO v0 v1 w va R).length=3:=by
 cases R <;> simp [dO]
def DocI (b:List UInt8) (va:Int) (j:Nat) (R:List (List Int)) (cs:List Int) (ok:Bool):Prop:=R.length≤j∧cs.length≤j∧(∀ c∈R,c.length≤1000)∧∀ v F,Good b v F→(R,cs)=Qf8 ([],[]) ((QbA F).take j)∧ok=true∧va=v
theorem QjU {v:Int} {F:List (List Int)} (h:right v F=true):∀ n∈QbA F,Sml n:=fun n hn=>by
 obtain ⟨_,_,h3⟩:=XQ h
 obtain ⟨x,hx,hn⟩:=List.mem_flatten.1 hn
 obtain ⟨c,hc,rfl⟩:=List.mem_map.1 hx
 rcases List.mem_append.1 hn with hn | hn
 ·exact (h3 c hc n hn).2
 ·rw [List.mem_singleton] at hn; subst hn; exact ⟨by omega,by omega⟩
variable {j:Nat} {va:Int} {b:List UInt8}
theorem QuC {R:List (List Int)} {cs:List Int} {ok:Bool} (hj1:j<1000) (hj:j+4<(wD [] b).length) (hI:DocI b va j R cs ok) {k:Int} {is:Bool} (hk:∀ m,Sml m→(wD [] b)[j+4]=Qw m→k=m∧is=true) :
 (k≠0→DocI b va (j+1) R (cs++[k]) (ok&&is))∧(k=0→DocI b va (j+1) (R++[cs]) [] (ok&&is)):=by
 obtain ⟨h1,h2,h3,h4⟩:=hI
 have good:∀ v F,Good b v F→ok=true∧is=true∧va=v∧Qf8 ([],[]) ((QbA F).take (j+1))=(if k=0 then (R++[cs],[]) else (R,cs++[k])):=fun v F hg=>by
  obtain ⟨g1,g2,g3⟩:=h4 v F hg
  obtain ⟨hr,hp⟩:=hg
  have hw:=Qdp hr
  rw [hp] at hw
  have hjn:j<(QbA F).length:=by have:=hj; rw [hw] at this; simp at this; omega
  have hwj:(wD [] b)[j+4]=Qw (QbA F)[j]:=by simp [hw]
  obtain ⟨k1,k2⟩:=hk _ (QjU hr _ (List.getElem_mem hjn)) hwj
  refine ⟨g2,k2,g3,?_⟩
  rw [List.take_add_one,List.getElem?_eq_getElem hjn,Qh5,← g1,k1]
  rfl
 refine ⟨fun hz=>⟨by omega,by simp; omega,h3,fun v F hg=>?_⟩,fun hz=>⟨by simp; omega,by simp,fun c hc=>?_,fun v F hg=>?_⟩⟩
 ·obtain ⟨g1,g2,g3,g4⟩:=good v F hg
  rw [if_neg hz] at g4
  exact ⟨g4.symm,by rw [g1,g2]; rfl,g3⟩
 ·rcases List.mem_append.1 hc with hc | hc
  ·exact h3 c hc
  ·rw [List.mem_singleton] at hc; subst hc; omega
 ·obtain ⟨g1,g2,g3,g4⟩:=good v F hg
  rw [if_pos hz] at g4
  exact ⟨g4.symm,by rw [g1,g2]; rfl,g3⟩
abbrev dcJ (b:List UInt8) (T:Bool) (v0 v1:Nat) (va:Int):Nat→Fr→H→Prop:=fun j fr σ=>∃ (R:List (List Int)) (cs:List Int) (ok:Bool) (w w' t:Nat),DocI b va j R cs ok∧Qi fr 0=.lst 1 (Qg b) T∧Qi fr 2=.ptr 0 v0 0∧Qi fr 4=.lst 1 ((wD [] b).map V.str) false∧Qi fr 8=.bool ok∧Qi fr 9=.ptr 1 v1 0∧Qi fr 10=Qip (dO v0 v1 w va R).length w' cs∧Qi fr 11=.int .i64 ((j+4:Nat):Int)∧σ=⟨t,dO v0 v1 w va R++Qit w' cs⟩
abbrev dcE (b:List UInt8) (T:Bool) (v0 v1:Nat) (va:Int):AE→Fr→H→Prop:=fun e fr σ=>e=.ex 2∧dcJ b T v0 v1 va ((wD [] b).length - 4) fr σ
theorem Qy7 (v0 v1 w w' t:Nat) (va:Int) (R:List (List Int)) (q:List Int) (fr:Fr) :
 Shift G 118 0 fr ⟨t,dO v0 v1 w va R++[some (.arr w' 3 (ints q))]⟩ (Qd4 (dO v0 v1 w va R).length w' (ints q) fr) ⟨t,dO v0 v1 w va R⟩:=by
 have h:=Shift.freeze (G:=G) (n:=118) (base:=0) (fr:=fr) (σ:=⟨t,dO v0 v1 w va R++[some (.arr w' 3 (ints q))]⟩) (k:=(dO v0 v1 w va R).length) (v:=w') (T:=3) (cs:=ints q) (zL _) (by simp) (QQ q)
 refine h.trans ?_
 refine Shift.drop ?_ (lR _) (zL _)
 cases R with
 | nil=>simp [dO,Q5,Ob.mapV,XJ,X3]
 | cons c R =>
   have:∀ k x,X3 k w' (ints q) (rwD x)=rwD x:=fun k x=>by cases x <;> simp [rwD,X3]
   simp [dO,Q5,Ob.mapV,XJ,X3,this]
theorem QuE (hT:Qn Tryz.prog tab) (It:QeR Tryz.prog G) {T:Bool} {v0 v1:Nat} (hl:b.length≤1000) (hwl:(wD [] b).length≤1000) (hj:j<(wD [] b).length - 4) {fr:Fr} {σ:H} (hJ:dcJ b T v0 v1 va j fr σ) :
 W Tryz.prog G 118 0 (.seq (zg Qny [69,70,71] (zw 72 .skip (.exit 2))) (.seq (.block 3 (zg Qnx [76,77,78,79,80,75,81,82] (zg Qnw [83,84,85,86] (.seq (zg Qnv [87] (zw 88 (zg Qnu [89,90,91,92] (.exit 3)) .skip)) (zg Qnt [93,94,95,96,97,98] (.reg Qns [])))))) (.reg Qnr [73,74]))) fr σ (ZB (fun fr σ=>∃ fr' σ',Shift G 118 0 fr σ fr' σ'∧dcJ b T v0 v1 va (j+1) fr' σ') (dcE b T v0 v1 va)):=by
 obtain ⟨R,cs,ok,w,w',t,hI,f0,f2,f4,f8,f9,f10,f11,rfl⟩:=hJ
 have hj4:j+4<(wD [] b).length:=by omega
 have hlt:((j+4:Nat):Int)<((wD [] b).length:Int):=by omega
 have e2:IntKind.i64.wrap (((j+4:Nat):Int)+1)=((j+1+4:Nat):Int):=by
  have:=YR (i:=j+4) hj4 (by omega)
  rw [this,show j+4+1=j+1+4 by omega]
 have hat:((wD [] b).map V.str).getD (j+4) .any=.str (wD [] b)[j+4]:=by simp [List.getD_eq_getElem?_getD,List.getElem?_eq_getElem hj4]
 have hwp:=QgZ b [] _ (List.getElem_mem hj4)
 have hN:=Qoh (G:=G) hT It (wD [] b)[j+4] (by simp at hwp; omega)
 have hdn:=fun (k:Int) (is:Bool) hk=>QuC (k:=k) (is:=is) (by omega) hj4 hI hk
 refine Qh [(0,.lst 1 (Qg b) T),(2,.ptr 0 v0 0),(4,.lst 1 ((wD [] b).map V.str) false),(8,.bool ok),(9,.ptr 1 v1 0),(10,Qip (dO v0 v1 w va R).length w' cs),(11,.int .i64 ((j+4:Nat):Int))] ⟨f0,f2,f4,f8,f9,f10,f11,trivial⟩  1000 ?_
 simp -implicitDefEqProofs (disch:=omega) only [go_sem,↓reduceIte,reduceCtorEq,rq,hlt,hj4,hat,Int.toNat_natCast]
 refine Qcc hT Yb hN rfl 12 fun u hu=>?_
 obtain ⟨k,is,rfl,hk⟩:=hu
 obtain ⟨n1,n2⟩:=hdn k is hk
 cases ok with
 | true =>
   simp only [Bool.true_and] at n1 n2
   by_cases hz:k=0
   ·have hI2:=n2 hz
    subst hz
    simp -implicitDefEqProofs (disch:=omega) only [go_sem,↓reduceIte,reduceCtorEq,rA,rq,rT]
    refine Qc 4 ?_
    simp -implicitDefEqProofs (disch:=omega) only [go_sem,↓reduceIte,reduceCtorEq,rq]
    cases cs with
    | nil =>
      simp only [Qip,Qit,List.append_nil]
      cases R with
      | nil =>
        simp only [dO]
        refine Qc 1000 ?_
        simp -implicitDefEqProofs (disch:=omega) only [go_sem,↓reduceIte,reduceCtorEq,rA,rq,rL,rT,e2]
        exact ⟨_,_,Shift.refl _ _ _ _,[[]],[],_,t,0,t+1,hI2,rfl,rfl,rfl,rfl,rfl,rfl,rfl,rfl⟩
      | cons c1 R =>
        have hgo:dO v0 v1 w va (c1::R)=[some (.arr v0 33 [.int .i64 0,.lst 0 [] true]),some (.arr v1 33 [.int .i64 va,.sl 2 w 0 1 (c1::R).length none]),some (.arr w 41 ((c1::R).map rwD))]:=rfl
        have hgn:dO v0 v1 t va (c1::R++[[]])=[some (.arr v0 33 [.int .i64 0,.lst 0 [] true]),some (.arr v1 33 [.int .i64 va,.sl 2 t 0 1 ((c1::R).length+1) none]),some (.arr t 41 ((c1::R).map rwD++[.lst 0 [] true]))]:=by
         simp [dO,rwD]
        have hR:=hI.1
        rw [hgo]
        generalize c1::R=Q at *
        have hQl:(Q.map rwD).length=Q.length:=lM ..
        refine Qc 1000 ?_
        simp -implicitDefEqProofs (disch:=omega) only [go_sem,↓reduceIte,reduceCtorEq,rA,rq,rL,e2]
        exact ⟨_,_,Shift.refl _ _ _ _,Q++[[]],[],_,t,0,t+1,hI2,rfl,rfl,rfl,rfl,rfl,rfl,rfl,by rw [hgn]; rfl⟩
    | cons c0 c =>
      simp only [Qip,Qit]
      have hfz:X3 (dO v0 v1 w va R).length w' (ints (c0::c)) (.sl (dO v0 v1 w va R).length w' 0 1 (c0::c).length none)=.lst 1 (ints (c0::c)) false:=by
       have:=Qez (k:=(dO v0 v1 w va R).length) (w:=w') (sz:=1) (cs:=ints (c0::c)) (fun u hu=>by
        obtain ⟨n,_,rfl⟩:=List.mem_map.1 hu; rfl)
       rwa [Qe] at this
      have hg0:(dO v0 v1 w va R).length≠0∧(dO v0 v1 w va R).length≠1:=by rcases Qy8 v0 v1 w va R with h | h <;> rw [h] <;> decide
      refine Xk (Qy7 v0 v1 w w' t va R (c0::c) _) ?_
      simp only [Qd4,List.map_cons,List.map_nil,hfz]
      simp only [X3,Ne.symm hg0.1,Ne.symm hg0.2,false_and,if_false]
      cases R with
      | nil =>
        simp only [dO]
        refine Qc 1000 ?_
        simp -implicitDefEqProofs (disch:=omega) only [go_sem,↓reduceIte,reduceCtorEq,rA,rq,rL,rT,e2]
        exact ⟨_,_,Shift.refl _ _ _ _,[c0::c],[],_,t,0,t+1,hI2,rfl,rfl,rfl,rfl,rfl,rfl,rfl,rfl⟩
      | cons c1 R =>
        have hgo:dO v0 v1 w va (c1::R)=[some (.arr v0 33 [.int .i64 0,.lst 0 [] true]),some (.arr v1 33 [.int .i64 va,.sl 2 w 0 1 (c1::R).length none]),some (.arr w 41 ((c1::R).map rwD))]:=rfl
        have hgn:dO v0 v1 t va (c1::R++[c0::c])=[some (.arr v0 33 [.int .i64 0,.lst 0 [] true]),some (.arr v1 33 [.int .i64 va,.sl 2 t 0 1 ((c1::R).length+1) none]),some (.arr t 41 ((c1::R).map rwD++[.lst 1 (ints (c0::c)) false]))]:=by
         simp [dO,rwD]
        have hR:=hI.1
        rw [hgo]
        generalize c1::R=Q at *
        have hQl:(Q.map rwD).length=Q.length:=lM ..
        refine Qc 1000 ?_
        simp -implicitDefEqProofs (disch:=omega) only [go_sem,↓reduceIte,reduceCtorEq,rA,rq,rL,e2]
        exact ⟨_,_,Shift.refl _ _ _ _,Q++[c0::c],[],_,t,0,t+1,hI2,rfl,rfl,rfl,rfl,rfl,rfl,rfl,by rw [hgn]; rfl⟩
   ·have hI2:=n1 hz
    simp -implicitDefEqProofs (disch:=omega) only [go_sem,↓reduceIte,reduceCtorEq,rA,rq,rT]
    refine Qc 4 ?_
    simp -implicitDefEqProofs (disch:=omega) only [go_sem,↓reduceIte,reduceCtorEq,rq]
    cases cs with
    | nil =>
      simp only [Qip,Qit,List.append_nil]
      refine Qc 1000 ?_
      simp -implicitDefEqProofs (disch:=omega) only [go_sem,↓reduceIte,reduceCtorEq,rA,rq,rL,rT,e2,hz]
      exact ⟨_,_,Shift.refl _ _ _ _,R,[k],_,w,t,t+1,hI2,rfl,rfl,rfl,rfl,rfl,rfl,rfl,rfl⟩
    | cons c0 c =>
      simp only [Qip,Qit]
      refine Qc 1000 ?_
      simp -implicitDefEqProofs (disch:=omega) only [go_sem,↓reduceIte,reduceCtorEq,rA,rq,rL,rT,e2,hz,List.getElem?_concat_length]
      have hcl2:c.length+1≤j:=hI.2.1
      refine ⟨⟨by omega,by omega⟩,_,_,Shift.refl _ _ _ _,R,(c0::c)++[k],_,w,t,t+1,hI2,rfl,rfl,rfl,rfl,rfl,by rw [Qdr]; rfl,rfl,?_⟩
      rw [QdS,Qds]
 | false =>
   simp only [Bool.false_and] at n1 n2
   by_cases hz:k=0
   ·have hI2:=n2 hz
    subst hz
    simp -implicitDefEqProofs (disch:=omega) only [go_sem,↓reduceIte,reduceCtorEq,rA,rq,rT]
    refine Qc 4 ?_
    simp -implicitDefEqProofs (disch:=omega) only [go_sem,↓reduceIte,reduceCtorEq,rq]
    cases cs with
    | nil =>
      simp only [Qip,Qit,List.append_nil]
      cases R with
      | nil =>
        simp only [dO]
        refine Qc 1000 ?_
        simp -implicitDefEqProofs (disch:=omega) only [go_sem,↓reduceIte,reduceCtorEq,rA,rq,rL,rT,e2]
        exact ⟨_,_,Shift.refl _ _ _ _,[[]],[],_,t,0,t+1,hI2,rfl,rfl,rfl,rfl,rfl,rfl,rfl,rfl⟩
      | cons c1 R =>
        have hgo:dO v0 v1 w va (c1::R)=[some (.arr v0 33 [.int .i64 0,.lst 0 [] true]),some (.arr v1 33 [.int .i64 va,.sl 2 w 0 1 (c1::R).length none]),some (.arr w 41 ((c1::R).map rwD))]:=rfl
        have hgn:dO v0 v1 t va (c1::R++[[]])=[some (.arr v0 33 [.int .i64 0,.lst 0 [] true]),some (.arr v1 33 [.int .i64 va,.sl 2 t 0 1 ((c1::R).length+1) none]),some (.arr t 41 ((c1::R).map rwD++[.lst 0 [] true]))]:=by
         simp [dO,rwD]
        have hR:=hI.1
        rw [hgo]
        generalize c1::R=Q at *
        have hQl:(Q.map rwD).length=Q.length:=lM ..
        refine Qc 1000 ?_
        simp -implicitDefEqProofs (disch:=omega) only [go_sem,↓reduceIte,reduceCtorEq,rA,rq,rL,e2]
        exact ⟨_,_,Shift.refl _ _ _ _,Q++[[]],[],_,t,0,t+1,hI2,rfl,rfl,rfl,rfl,rfl,rfl,rfl,by rw [hgn]; rfl⟩
    | cons c0 c =>
      simp only [Qip,Qit]
      have hfz:X3 (dO v0 v1 w va R).length w' (ints (c0::c)) (.sl (dO v0 v1 w va R).length w' 0 1 (c0::c).length none)=.lst 1 (ints (c0::c)) false:=by
       have:=Qez (k:=(dO v0 v1 w va R).length) (w:=w') (sz:=1) (cs:=ints (c0::c)) (fun u hu=>by
        obtain ⟨n,_,rfl⟩:=List.mem_map.1 hu; rfl)
       rwa [Qe] at this
      have hg0:(dO v0 v1 w va R).length≠0∧(dO v0 v1 w va R).length≠1:=by rcases Qy8 v0 v1 w va R with h | h <;> rw [h] <;> decide
      refine Xk (Qy7 v0 v1 w w' t va R (c0::c) _) ?_
      simp only [Qd4,List.map_cons,List.map_nil,hfz]
      simp only [X3,Ne.symm hg0.1,Ne.symm hg0.2,false_and,if_false]
      cases R with
      | nil =>
        simp only [dO]
        refine Qc 1000 ?_
        simp -implicitDefEqProofs (disch:=omega) only [go_sem,↓reduceIte,reduceCtorEq,rA,rq,rL,rT,e2]
        exact ⟨_,_,Shift.refl _ _ _ _,[c0::c],[],_,t,0,t+1,hI2,rfl,rfl,rfl,rfl,rfl,rfl,rfl,rfl⟩
      | cons c1 R =>
        have hgo:dO v0 v1 w va (c1::R)=[some (.arr v0 33 [.int .i64 0,.lst 0 [] true]),some (.arr v1 33 [.int .i64 va,.sl 2 w 0 1 (c1::R).length none]),some (.arr w 41 ((c1::R).map rwD))]:=rfl
        have hgn:dO v0 v1 t va (c1::R++[c0::c])=[some (.arr v0 33 [.int .i64 0,.lst 0 [] true]),some (.arr v1 33 [.int .i64 va,.sl 2 t 0 1 ((c1::R).length+1) none]),some (.arr t 41 ((c1::R).map rwD++[.lst 1 (ints (c0::c)) false]))]:=by
         simp [dO,rwD]
        have hR:=hI.1
        rw [hgo]
        generalize c1::R=Q at *
        have hQl:(Q.map rwD).length=Q.length:=lM ..
        refine Qc 1000 ?_
        simp -implicitDefEqProofs (disch:=omega) only [go_sem,↓reduceIte,reduceCtorEq,rA,rq,rL,e2]
        exact ⟨_,_,Shift.refl _ _ _ _,Q++[c0::c],[],_,t,0,t+1,hI2,rfl,rfl,rfl,rfl,rfl,rfl,rfl,by rw [hgn]; rfl⟩
   ·have hI2:=n1 hz
    simp -implicitDefEqProofs (disch:=omega) only [go_sem,↓reduceIte,reduceCtorEq,rA,rq,rT]
    refine Qc 4 ?_
    simp -implicitDefEqProofs (disch:=omega) only [go_sem,↓reduceIte,reduceCtorEq,rq]
    cases cs with
    | nil =>
      simp only [Qip,Qit,List.append_nil]
      refine Qc 1000 ?_
      simp -implicitDefEqProofs (disch:=omega) only [go_sem,↓reduceIte,reduceCtorEq,rA,rq,rL,rT,e2,hz]
      exact ⟨_,_,Shift.refl _ _ _ _,R,[k],_,w,t,t+1,hI2,rfl,rfl,rfl,rfl,rfl,rfl,rfl,rfl⟩
    | cons c0 c =>
      simp only [Qip,Qit]
      refine Qc 1000 ?_
      simp -implicitDefEqProofs (disch:=omega) only [go_sem,↓reduceIte,reduceCtorEq,rA,rq,rL,rT,e2,hz,List.getElem?_concat_length]
      have hcl2:c.length+1≤j:=hI.2.1
      refine ⟨⟨by omega,by omega⟩,_,_,Shift.refl _ _ _ _,R,(c0::c)++[k],_,w,t,t+1,hI2,rfl,rfl,rfl,rfl,rfl,by rw [Qdr]; rfl,rfl,?_⟩
      rw [QdS,Qds]
end
section
attribute [local go_sem] nFq nT lC lM lN lR zA zL and_true bne_self_eq_false decide_false decide_true false_implies ge_iff_le gt_iff_lt Qt not_false_eq_true XU zq9_0 zq9_1 QvA Qvz Qvy Qvx Qvw Qny Qnx Qnw Qnv Qnu zq9_2 Qnt Qns Qnr Qvv Qvu Qvt Qvs zq9_3 Qot Qos Qor Qoq Qop zq9_9 true_and true_implies
theorem rwD_wk (q:List Int):Wk (rwD q) (row q):=by
 cases q with
 | nil=>exact .lst 0 1 [] [] true .nil (.inl rfl)
 | cons n c=>exact .refl _
theorem rwD_nl (Q:List (List Int)):Qb (Q.map rwD)=true:=XW fun u hu=>by
 obtain ⟨q,_,rfl⟩:=List.mem_map.1 hu
 cases q <;> simp [rwD,Qd]
theorem QAg (L:List (List UInt8)):Qb (L.map V.str)=true:=XW fun u hu=>by
 obtain ⟨q,_,rfl⟩:=List.mem_map.1 hu
 rfl
theorem Qry (b:List UInt8) (T:Bool) (v0 w t:Nat) (L:List (List UInt8)) :
 Shift G 118 0 [(0,.lst 1 (Qg b) T),(2,.ptr 0 v0 0),(4,.sl 1 w 0 1 L.length none)] ⟨t,dwH v0++[some (.arr w 9 (L.map V.str))]⟩ [(0,.lst 1 (Qg b) T),(2,.ptr 0 v0 0),(4,.lst 1 (L.map V.str) false)] ⟨t,dwH v0⟩:=by
 have hn:=QAg L
 have hcl:∀ u∈L.map V.str,u.cells=[u]:=fun u hu=>by
  obtain ⟨q,_,rfl⟩:=List.mem_map.1 hu
  rfl
 have hql:L.length=(L.map V.str).length:=(lM ..).symm
 rw [hql]
 generalize L.map V.str=C at *
 have h:=Shift.freeze (G:=G) (n:=118) (base:=0) (fr:=[(0,.lst 1 (Qg b) T),(2,.ptr 0 v0 0),(4,.sl 1 w 0 1 C.length none)]) (σ:=⟨t,dwH v0++[some (.arr w 9 C)]⟩) (k:=1) (v:=w) (T:=9) (cs:=C) (zL _) rfl hn
 have hf:=Qez (k:=1) (w:=w) (sz:=1) hcl
 simp only [Qd4,List.map_cons,List.map_nil,hf] at h
 simp only [X3,Nat.zero_ne_one,false_and,if_false] at h
 refine h.trans (Shift.drop ?_ (lR _) (zL _))
 simp [Q5,Ob.mapV,XJ,X3]
theorem QuD (b:List UInt8) (T:Bool) (v0 v1 w w' t:Nat) (va:Int) (R:List (List Int)) (cs:List Int) (ok:Bool) :
 ∃ z C T3,Qd (.lst z C T3)=true∧Wk (.lst z C T3) (.lst 1 (R.map row) false)∧Shift G 118 0 [(0,.lst 1 (Qg b) T),(2,.ptr 0 v0 0),(8,.bool ok),(9,.ptr 1 v1 0)] ⟨t,dO v0 v1 w va R++Qit w' cs⟩ [(0,.lst 1 (Qg b) T),(2,.ptr 0 v0 0),(8,.bool ok),(9,.ptr 1 v1 0)] ⟨t,[some (.arr v0 33 [.int .i64 0,.lst 0 [] true]),some (.arr v1 33 [.int .i64 va,.lst z C T3])]⟩:=by
 have hd:Shift G 118 0 [(0,.lst 1 (Qg b) T),(2,.ptr 0 v0 0),(8,.bool ok),(9,.ptr 1 v1 0)] ⟨t,dO v0 v1 w va R++Qit w' cs⟩ [(0,.lst 1 (Qg b) T),(2,.ptr 0 v0 0),(8,.bool ok),(9,.ptr 1 v1 0)] ⟨t,dO v0 v1 w va R⟩:=Shift.drop (by cases R <;> cases cs <;> simp [dO,Qit,XJ]) (lR _) (zL _)
 cases R with
 | nil=>exact ⟨0,[],true,rfl,.lst 0 1 [] [] true .nil (.inl rfl),hd⟩
 | cons c R =>
   have hn:=rwD_nl (c::R)
   refine ⟨1,(c::R).map rwD,false,by simp only [Qd],.lst 1 1 _ _ false (WkL.map fun q _=>rwD_wk q) (.inr rfl),hd.trans ?_⟩
   have hcl:∀ u∈(c::R).map rwD,u.cells=[u]:=fun u hu=>by
    obtain ⟨q,_,rfl⟩:=List.mem_map.1 hu
    cases q <;> rfl
   have hgo:dO v0 v1 w va (c::R)=[some (.arr v0 33 [.int .i64 0,.lst 0 [] true]),some (.arr v1 33 [.int .i64 va,.sl 2 w 0 1 (c::R).length none]),some (.arr w 41 ((c::R).map rwD))]:=rfl
   have hql:(c::R).length=((c::R).map rwD).length:=(lM ..).symm
   rw [hgo,hql]
   generalize (c::R).map rwD=C at *
   have h:=Shift.freeze (G:=G) (n:=118) (base:=0) (fr:=[(0,.lst 1 (Qg b) T),(2,.ptr 0 v0 0),(8,.bool ok),(9,.ptr 1 v1 0)]) (σ:=⟨t,[some (.arr v0 33 [.int .i64 0,.lst 0 [] true]),some (.arr v1 33 [.int .i64 va,.sl 2 w 0 1 C.length none]),some (.arr w 41 C)]⟩) (k:=2) (v:=w) (T:=41) (cs:=C) (zL _) rfl hn
   have hf:=Qez (k:=2) (w:=w) (sz:=1) hcl
   have hfr:Qd4 2 w C [(0,.lst 1 (Qg b) T),(2,.ptr 0 v0 0),(8,.bool ok),(9,.ptr 1 v1 0)]=[(0,.lst 1 (Qg b) T),(2,.ptr 0 v0 0),(8,.bool ok),(9,.ptr 1 v1 0)]:=by
    simp only [Qd4,List.map_cons,List.map_nil]
    simp [X3]
   rw [hfr] at h
   refine h.trans (Shift.drop ?_ (lR _) (zL _))
   simp [X3,Q5,Ob.mapV,XJ,Qbc]
theorem c_rGet (hT:Qn Tryz.prog tab) (It:QeR Tryz.prog G) (b:List UInt8) (T:Bool) (hl:b.length≤1000) :
 Am.Pure Tryz.prog G Qax [.lst 1 (Qg b) T] (QuV b):=by
 intro t
 refine QfG (Q:=fun u _=>Qd u=true∧∃ u',Wk u u'∧Qd u'=true∧QuV b u') ?_ fun u σ hu=>by
  obtain ⟨_,u',h1,h2,h3⟩:=hu
  exact ⟨u',h1,h2,h3⟩
 have bad:(∀ v F,¬ Good b v F)→∃ u',Wk (.tup [.agg [.int .i64 0,.lst 0 [] true],.int .i64 2]) u'∧Qd u'=true∧QuV b u':=fun h=>⟨_,.refl _,rfl,.inr ⟨h,rfl⟩⟩
 have hgood:∀ v F,Good b v F→wD [] b=[112]::[99,110,102]::Qw v::Qw F.length::(QbA F).map Qw∧right v F=true:=fun v F ⟨hr,hp⟩=>by
  have:=Qdp hr
  rw [hp] at this
  exact ⟨this,hr⟩
 refine QM hT YT (by simp [XU]) (Qx 1000 ?_)
 simp -implicitDefEqProofs (disch:=omega) only [go_sem,↓reduceIte,reduceCtorEq,rq]
 refine Y7 b.length (dwJ b T t) (dwE b T t) ⟨[],0,0,t+1,lR _,lR _,by simp,rfl,rfl,rfl,rfl,rfl,rfl⟩ (fun i hi fr σ hJ=>QuB hT hl hi hJ) (fun i hi fr σ hJ=>by subst hi; exact QA5 hT hJ) (fun e fr σ hE=>?_)
 obtain ⟨rfl,w,t',hwl,f0,f2,f4,rfl⟩:=hE
 rcases hL:wD [] b with _ | ⟨x0,L⟩
 ·rw [hL] at f4
  have c0:((0:Nat):Int)=0:=rfl
  have z4:(0:Int)<4:=by decide
  refine QO [(0,.lst 1 (Qg b) T),(2,.ptr 0 t 0),(4,.lst 0 [] true)] ⟨f0,f2,f4,trivial⟩ 1000 ?_
  simp only [QtH,List.append_nil]
  simp -implicitDefEqProofs (disch:=omega) only [go_sem,↓reduceIte,reduceCtorEq,rA,rq,c0,z4]
  exact bad fun v F hg=>by
   have:=(hgood v F hg).1
   rw [hL] at this; cases this
 ·rw [hL] at f4
  refine QO [(0,.lst 1 (Qg b) T),(2,.ptr 0 t 0),(4,.sl 1 w 0 1 (x0::L).length none)] ⟨f0,f2,f4,trivial⟩ 0 ?_
  simp only [QtH]
  refine Xk (Qry b T t w t' (x0::L)) ?_
  by_cases g4:(x0::L).length<4
  ·have g4i:(((x0::L).length:Nat):Int)<4:=by omega
   have hno:∀ v F,¬ Good b v F:=fun v F hg=>by
    have:=congrArg List.length (hgood v F hg).1
    rw [hL] at this; simp at this g4; omega
   generalize x0::L=W at *
   refine Qc 1000 ?_
   simp -implicitDefEqProofs (disch:=omega) only [go_sem,↓reduceIte,reduceCtorEq,rA,rq,g4i]
   exact bad hno
  ·have g4i:¬ (((x0::L).length:Nat):Int)<4:=by omega
   obtain ⟨x1,x2,x3,L,rfl⟩:∃ x1 x2 x3 L',L=x1::x2::x3::L':=by
    match L,g4 with
    | x1::x2::x3::L',_=>exact ⟨x1,x2,x3,L',rfl⟩
    | [],h=>simp at h
    | [_],h=>simp at h
    | [_,_],h=>simp at h
   by_cases p0:x0=[112]
   ·by_cases p1:x1=[99,110,102]
    ·subst p0; subst p1
     have a0:(([112]::[99,110,102]::x2::x3::L).map V.str).getD 0 .any=.str [112]:=rfl
     have a1:(([112]::[99,110,102]::x2::x3::L).map V.str).getD 1 .any=.str [99,110,102]:=rfl
     have a2:(([112]::[99,110,102]::x2::x3::L).map V.str).getD 2 .any=.str x2:=rfl
     have l0:0<([112]::[99,110,102]::x2::x3::L).length:=by simp
     have l1:1<([112]::[99,110,102]::x2::x3::L).length:=by simp
     have l2:2<([112]::[99,110,102]::x2::x3::L).length:=by simp
     have hx2:=QgZ b [] x2 (by rw [hL]; simp)
     have hgv:∀ v F,Good b v F→x2=Qw v∧Sml v:=fun v F hg=>by
      obtain ⟨h1,h2⟩:=hgood v F hg
      rw [hL] at h1
      injection h1 with _ h1; injection h1 with _ h1; injection h1 with h1 _
      exact ⟨h1,(XQ h2).1⟩
     have hN:=Qoh (G:=G) hT It x2 (by simp at hx2; omega)
     rw [← hL] at a0 a1 a2 l0 l1 l2 g4i ⊢
     refine Qc 1000 ?_
     simp -implicitDefEqProofs (disch:=omega) only [go_sem,↓reduceIte,reduceCtorEq,rA,rq,Int.reduceToNat,Int.reduceLE,g4i,a0,a1,a2,l0,l1,l2]
     refine Qcc hT Yb hN rfl 1000 fun u hu=>?_
     obtain ⟨va,is,rfl,hk⟩:=hu
     simp -implicitDefEqProofs (disch:=omega) only [go_sem,↓reduceIte,reduceCtorEq,rA,rq,rL,rT]
     refine Y7 ((wD [] b).length - 4) (dcJ b T t t' va) (dcE b T t t' va) ⟨[],[],is,0,0,t'+1,⟨lR _,lR _,(fun c h=>by cases h),fun v F hg=>?_⟩,rfl,rfl,rfl,rfl,rfl,rfl,rfl,rfl⟩ (fun j hj fr σ hJ=>QuE hT It hl (by omega) hj hJ) (fun j hj fr σ hJ=>?_) (fun e fr σ hE=>?_)
     ·obtain ⟨h1,h2⟩:=hgv v F hg
      obtain ⟨h3,h4⟩:=hk v h2 h1
      exact ⟨rfl,h4,h3⟩
     ·obtain ⟨R,cs,ok,w1,w2,t2,hI,k0,k2,k4,k8,k9,k10,k11,rfl⟩:=hJ
      have hj4:j+4=(wD [] b).length:=by omega
      rw [hj4] at k11
      refine Qh [(0,.lst 1 (Qg b) T),(2,.ptr 0 t 0),(4,.lst 1 ((wD [] b).map V.str) false),(8,.bool ok),(9,.ptr 1 t' 0),(10,Qip (dO t t' w1 va R).length w2 cs),(11,.int .i64 ((wD [] b).length:Int))] ⟨k0,k2,k4,k8,k9,k10,k11,trivial⟩ 1000 ?_
      simp -implicitDefEqProofs (disch:=omega) only [go_sem,↓reduceIte,reduceCtorEq,rq,Int.lt_irrefl]
      exact ⟨rfl,R,cs,ok,w1,w2,t2,hj▸hI,rfl,rfl,rfl,rfl,rfl,rfl,by rw [← hj,hj4]; rfl,rfl⟩
     ·obtain ⟨rfl,R,cs,ok,w1,w2,t2,hI,k0,k2,k4,k8,k9,k10,k11,rfl⟩:=hE
      refine QO [(0,.lst 1 (Qg b) T),(2,.ptr 0 t 0),(8,.bool ok),(9,.ptr 1 t' 0)] ⟨k0,k2,k8,k9,trivial⟩ 0 ?_
      obtain ⟨z3,C3,T3,hcn,hcw,hsh⟩:=QuD (G:=G) b T t t' w1 w2 t2 va R cs ok
      refine Xk hsh ?_
      have hP:Am.Pure Tryz.prog G YU [.agg [.int .i64 va,.lst z3 C3 T3]] _:=Pure.args (.cons _ _ _ _ (.agg _ _ (.cons _ _ _ _ (.refl _) (.cons _ _ _ _ hcw .nil))) .nil) (Qy9 (G:=G) hT It va R (by have:=hI.1; omega) hI.2.2.1)
      have hnl:Qb [V.agg [.int .i64 va,.lst z3 C3 T3]]=true:=by rw [Qb,Qb,Qd,Qb,Qb,hcn]; rfl
      have hall:∀ v F,Good b v F→R=F∧ok=true∧va=v∧right v F=true∧QbU v F=b:=fun v F hg=>by
       obtain ⟨h1,h2,h3⟩:=hI.2.2.2 v F hg
       obtain ⟨h4,h5⟩:=hgood v F hg
       have h6:(QbA F).take ((wD [] b).length - 4)=QbA F:=List.take_of_length_le (by rw [h4]; simp)
       rw [h6,Qfj F [] (fun c hc n hn=>((XQ h5).2.2 c hc n hn).1)] at h1
       exact ⟨(Prod.mk.inj h1).1,h2,h3,h5,hg.2⟩
      have hfl:=Yf b
      have hof:=Zy b
      have hby:=Yg b
      cases hr:right va R with
      | false =>
        rw [hr,if_neg (by simp)] at hP
        have hbad:∀ v F,¬ Good b v F:=fun v F hg=>by
         obtain ⟨h1,_,h3,h4,_⟩:=hall v F hg
         rw [h1,h3,h4] at hr; cases hr
        cases ok with
        | true =>
          refine Qc 1000 ?_
          simp -implicitDefEqProofs (disch:=omega) only [go_sem,↓reduceIte,reduceCtorEq,rA,rq]
          refine Qj hT QW hP hnl 1000 ?_
          simp -implicitDefEqProofs (disch:=omega) only [go_sem,↓reduceIte,reduceCtorEq,rA,rq,rT,Int.reduceEq]
          exact bad hbad
        | false =>
          refine Qc 1000 ?_
          simp -implicitDefEqProofs (disch:=omega) only [go_sem,↓reduceIte,reduceCtorEq,rA,rq]
          refine Qj hT QW hP hnl 1000 ?_
          simp -implicitDefEqProofs (disch:=omega) only [go_sem,↓reduceIte,reduceCtorEq,rA,rq,rT]
          exact bad hbad
      | true =>
        rw [hr,if_pos rfl] at hP
        cases ok with
        | true =>
          refine Qc 1000 ?_
          simp -implicitDefEqProofs (disch:=omega) only [go_sem,↓reduceIte,reduceCtorEq,rA,rq]
          refine Qj hT QW hP hnl 1000 ?_
          simp -implicitDefEqProofs (disch:=omega) only [go_sem,↓reduceIte,reduceCtorEq,rA,rq,rT]
          simp only [evW]
          by_cases hpb:QbU va R=b
          ·simp -implicitDefEqProofs (disch:=omega) only [go_sem,↓reduceIte,reduceCtorEq,rA,rq,hfl,hof,hpb]
           have hwk:Wk (.tup [.agg [.int .i64 va,.lst z3 C3 T3],.int .i64 0]) (.tup [fml va R,.int .i64 0]):=.tup _ _ (.cons _ _ _ _ (.agg _ _ (.cons _ _ _ _ (.refl _) (.cons _ _ _ _ hcw .nil))) (.cons _ _ _ _ (.refl _) .nil))
           have hnn:Qd (.tup [fml va R,.int .i64 0])=true:=by simp [fml,rows,Qd,Qb]
           exact ⟨_,hwk,hnn,.inl ⟨va,R,⟨hr,hpb⟩,rfl⟩⟩
          ·simp -implicitDefEqProofs (disch:=omega) only [go_sem,↓reduceIte,reduceCtorEq,rA,rq,hfl,hof,hpb]
           exact bad fun v F hg=>by
            obtain ⟨h1,_,h3,_,h5⟩:=hall v F hg
            exact hpb (by rw [h1,h3,h5])
        | false =>
          refine Qc 1000 ?_
          simp -implicitDefEqProofs (disch:=omega) only [go_sem,↓reduceIte,reduceCtorEq,rA,rq]
          refine Qj hT QW hP hnl 1000 ?_
          simp -implicitDefEqProofs (disch:=omega) only [go_sem,↓reduceIte,reduceCtorEq,rA,rq,rT]
          exact bad fun v F hg=>by
           obtain ⟨_,h2,_⟩:=hall v F hg
           cases h2
    ·have hno:∀ v F,¬ Good b v F:=fun v F hg=>by
      have:=(hgood v F hg).1
      rw [hL] at this
      injection this with _ this; injection this with this _
      exact p1 this
     have a0:((x0::x1::x2::x3::L).map V.str).getD 0 .any=.str x0:=rfl
     have a1:((x0::x1::x2::x3::L).map V.str).getD 1 .any=.str x1:=rfl
     have l0:0<(x0::x1::x2::x3::L).length:=by simp
     have l1:1<(x0::x1::x2::x3::L).length:=by simp
     generalize x0::x1::x2::x3::L=W at *
     refine Qc 1000 ?_
     simp -implicitDefEqProofs (disch:=omega) only [go_sem,↓reduceIte,reduceCtorEq,rA,rq,Int.reduceToNat,Int.reduceLE,g4i,a0,a1,l0,l1,p0,p1]
     exact bad hno
   ·have hno:∀ v F,¬ Good b v F:=fun v F hg=>by
     have:=(hgood v F hg).1
     rw [hL] at this; exact p0 (List.cons.inj this).1
    have a0:((x0::x1::x2::x3::L).map V.str).getD 0 .any=.str x0:=rfl
    have l0:0<(x0::x1::x2::x3::L).length:=by simp
    generalize x0::x1::x2::x3::L=W at *
    refine Qc 1000 ?_
    simp -implicitDefEqProofs (disch:=omega) only [go_sem,↓reduceIte,reduceCtorEq,rA,rq,Int.reduceToNat,Int.reduceLE,g4i,a0,l0,p0]
    exact bad hno
end
end Go.Proofs.YtingdebioipemaaGreatDoor
