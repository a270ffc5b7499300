/- Contracts: the document's side of clauses: right formulas, models. -/
import Derived.Test.YtingdebioipemaaGreatDoorJ2
open Nat renaming reduceEqDiff → rq, reduceAdd → rA, reduceLeDiff → rL, reduceLT → rT, zero_add → zA, le_refl → lR, zero_le → zL, add_zero → aZ
open List renaming length_cons → lC, length_nil → lN, take_succ_cons → tS, length_append → lA, nil_append → nA, cons_append → cA, append_assoc → aA, take_nil → tN, take_zero → tZ, length_map → lM
open Bool renaming not_false → nFq, not_true → nT
namespace Go.Proofs.YtingdebioipemaaGreatDoor
open Go Go.Am Go.Cl
set_option maxRecDepth 100000
variable {P:Program} {G:Nat→Option V}
section
attribute [local go_sem] nFq nT lM aZ lR zA zL and_true decide_false decide_true gt_iff_lt Qh Qs QT zqn_0 zqn_1 Qpr Qpq zqn_2 zqn_3 zqn_4 zqn_5 zqn_6 zqn_7 zqn_8 zqn_9 true_and true_implies
def rfH (t:Nat) (v:Int) (F:List (List Int)):List (Option Ob):=[some (.arr t 33 [.int .i64 v,.lst 1 (F.map row) false])]
theorem Qo1 (hT:Qq P tab) (v:Int) (F:List (List Int)) (hF:F.length≤9223372036854775807) (hc:∀ c∈F,c.length≤9223372036854775807):Pure P G Ym [fml v F] fun u=>u=.bool (right v F):=by
 intro t
 simp only [fml,rows]
 refine Xk 0 (zL _) (Xf hT Yj (by simp [QT]) (QH 12 ?_))
 by_cases h1:v<0
 ·have hr:right v F=false:=by simp [right]; omega
  simp -implicitDefEqProofs (disch:=omega) only [go_sem,↓reduceIte,reduceCtorEq,rA,rq,rL,h1]
  iterate 9 (try (refine Qe 2 ?_; simp -implicitDefEqProofs (disch:=omega) only [go_sem,↓reduceIte,reduceCtorEq,rq]))
  try refine Qe 9 ?_
  try simp -implicitDefEqProofs (disch:=omega) only [go_sem,↓reduceIte,reduceCtorEq,rq]
  rw [hr]
 by_cases h2:v > 16777216
 ·have hr:right v F=false:=by simp [right]; omega
  simp -implicitDefEqProofs (disch:=omega) only [go_sem,↓reduceIte,reduceCtorEq,rA,rq,rL,h1]
  iterate 9 (try (refine Qe 2 ?_; simp -implicitDefEqProofs (disch:=omega) only [go_sem,↓reduceIte,reduceCtorEq,rA,rq,rL,h2]))
  try refine Qe 9 ?_
  try simp -implicitDefEqProofs (disch:=omega) only [go_sem,↓reduceIte,reduceCtorEq,rq]
  rw [hr]
 by_cases h3:(F.length:Int) > 1048576
 ·have hr:right v F=false:=by simp [right]; omega
  simp -implicitDefEqProofs (disch:=omega) only [go_sem,↓reduceIte,reduceCtorEq,rA,rq,rL,h1]
  iterate 9 (try (refine Qe 2 ?_; simp -implicitDefEqProofs (disch:=omega) only [go_sem,↓reduceIte,reduceCtorEq,rA,rq,rL,h2,h3]))
  try refine Qe 9 ?_
  try simp -implicitDefEqProofs (disch:=omega) only [go_sem,↓reduceIte,reduceCtorEq,rq]
  rw [hr]
 simp -implicitDefEqProofs (disch:=omega) only [go_sem,↓reduceIte,reduceCtorEq,rA,rq,rL,h1]
 iterate 9 (try (refine Qe 2 ?_; simp -implicitDefEqProofs (disch:=omega) only [go_sem,↓reduceIte,reduceCtorEq,rA,rq,rL,h2,h3]))
 refine Qe 40 ?_
 simp -implicitDefEqProofs (disch:=omega) only [go_sem]
 have hv:0≤v∧v≤16777216:=by omega
 refine Qa1 F (fun i fr σ=>(∀ c∈F.take i,c.all (YF v)=true)∧Qi fr 1=.ptr 0 t 0∧Qi fr 3=.int .i64 ((i:Nat):Int)∧σ=⟨t+1,rfH t v F⟩)
  (fun e fr σ=>(e=.ret∧Qi fr 2=.bool false∧right v F=false)∨(e=.ex 0∧right v F=true)) ⟨by simp,?_⟩ (fun i c hci fr σ hJ=>?_) (fun i hi fr σ hJ=>?_) (fun e fr σ hE=>?_)
 ·simp -implicitDefEqProofs (disch:=omega) only [go_sem,↓reduceIte,reduceCtorEq,rq,rfH]
  simp
 ·obtain ⟨hok,f1,f3,rfl⟩:=hJ
  obtain ⟨hlt,hD,e2⟩:=QeU hci hF
  have hcm:=List.mem_of_getElem? hci
  have hts:=QB hci
  refine Qj [(1,.ptr 0 t 0),(3,.int .i64 ((i:Nat):Int))] ⟨f1,f3,trivial⟩  1000 ?_
  simp -implicitDefEqProofs (disch:=omega) only [go_sem,↓reduceIte,rA,rq,rfH,hlt]
  refine Qa1 c (fun k fr σ=>(∀ n∈c.take k,YF v n=true)∧Qi fr 1=.ptr 0 t 0∧Qi fr 3=.int .i64 ((i:Nat):Int)∧Qi fr 4=.int .i64 ((k:Nat):Int)∧σ=⟨t+1,rfH t v F⟩)
   (fun e fr σ=>(e=.ret∧Qi fr 2=.bool false∧right v F=false)∨(e=.ex 2∧c.all (YF v)=true∧Qi fr 1=.ptr 0 t 0∧Qi fr 3=.int .i64 ((i:Nat):Int)∧σ=⟨t+1,rfH t v F⟩)) ⟨by simp,?_⟩ (fun k n hnk fr σ hJ=>?_) (fun k hk fr σ hJ=>?_) (fun e fr σ hE=>?_)
  ·simp -implicitDefEqProofs (disch:=omega) only [go_sem,↓reduceIte,rq,rfH]
   simp
  ·obtain ⟨hok2,f1,f3,f4,rfl⟩:=hJ
   obtain ⟨hlt2,hD2,e3⟩:=QnL hnk (hc c hcm)
   have hnm:=List.mem_of_getElem? hnk
   have hts2:=QB hnk
   have hL:=c_lit (P:=P) (G:=G) hT v n hv
   refine Qj [(1,.ptr 0 t 0),(3,.int .i64 ((i:Nat):Int)),(4,.int .i64 ((k:Nat):Int))] ⟨f1,f3,f4,trivial⟩  1000 ?_
   simp -implicitDefEqProofs (disch:=omega) only [go_sem,↓reduceIte,rA,rq,rL,rfH,hlt,hD,hlt2,hD2]
   refine Ql hT YU hL rfl 1000 ?_
   cases hl:YF v n with
   | false =>
     have hr:right v F=false:=by
      have:F.all (fun c=>c.all (YF v))=false:=by
       rw [List.all_eq_false]
       exact ⟨c,hcm,by rw [Bool.not_eq_true,List.all_eq_false]; exact ⟨n,hnm,by simp [hl]⟩⟩
      simp [right,this]
     simp -implicitDefEqProofs (disch:=omega) only [go_sem,↓reduceIte,reduceCtorEq,rq]
     exact hr
   | true =>
     simp -implicitDefEqProofs (disch:=omega) only [go_sem,↓reduceIte,rq]
     refine ⟨_,_,Shift.refl _ _ _ _,fun x hx=>?_,?_⟩
     ·rw [hts2,List.mem_append] at hx
      rcases hx with hx | hx
      ·exact hok2 x hx
      ·simp at hx; subst hx; exact hl
     ·simp -implicitDefEqProofs (disch:=omega) only [go_sem,↓reduceIte,rq,e3]
  ·obtain ⟨hok2,f1,f3,f4,rfl⟩:=hJ
   rw [hk,List.take_length] at hok2
   refine Qj [(1,.ptr 0 t 0),(3,.int .i64 ((i:Nat):Int)),(4,.int .i64 ((k:Nat):Int))] ⟨f1,f3,f4,trivial⟩  1000 ?_
   simp -implicitDefEqProofs (disch:=omega) only [go_sem,↓reduceIte,reduceCtorEq,rA,rq,rfH,hlt,hD,hk,Nat.lt_irrefl]
   exact List.all_eq_true.2 hok2
  ·rcases hE with ⟨rfl,f2,hr⟩ | ⟨rfl,hcc,f1,f3,rfl⟩
   ·refine Qe 1000 ?_
    simp -implicitDefEqProofs (disch:=omega) only [go_sem,f2,hr]
   ·refine Qe 1000 ?_
    simp -implicitDefEqProofs (disch:=omega) only [go_sem,↓reduceIte,rfH,f3]
    refine ⟨_,_,Shift.refl _ _ _ _,fun d hd=>?_,?_⟩
    ·rw [hts,List.mem_append] at hd
     rcases hd with hd | hd
     ·exact hok d hd
     ·simp at hd; subst hd; exact hcc
    ·simp -implicitDefEqProofs (disch:=omega) only [go_sem,↓reduceIte,rq,f1,e2]
 ·obtain ⟨hok,f1,f3,rfl⟩:=hJ
  rw [hi,List.take_length] at hok
  have hr:right v F=true:=by
   have:F.all (fun c=>c.all (YF v))=true:=List.all_eq_true.2 hok
   simp [right,this]
   omega
  refine Qj [(1,.ptr 0 t 0),(3,.int .i64 ((i:Nat):Int))] ⟨f1,f3,trivial⟩  1000 ?_
  simp -implicitDefEqProofs (disch:=omega) only [go_sem,↓reduceIte,reduceCtorEq,rA,rq,rfH,hi,Nat.lt_irrefl]
  exact hr
 ·rcases hE with ⟨rfl,f2,hr⟩ | ⟨rfl,hr⟩
  ·refine Qe 1000 ?_
   simp -implicitDefEqProofs (disch:=omega) only [go_sem,f2,hr]
  ·refine Qe 1000 ?_
   simp -implicitDefEqProofs (disch:=omega) only [go_sem,↓reduceIte,hr]
end
section
attribute [local go_sem] nFq nT lM lR zA zL and_true decide_false decide_true gt_iff_lt Qh Qs true_and true_implies
theorem wself {n:Int} (h:-9223372036854775808≤n∧n≤9223372036854775807):IntKind.i64.wrap n=n:=by
 rw [Xy]
 ·simp [IntKind.min,IntKind.signed,IntKind.bits]; omega
 ·simp [IntKind.max,IntKind.signed,IntKind.bits]; omega
end
section
attribute [local go_sem] lR zA gt_iff_lt
end
section
attribute [local go_sem] nFq nT aZ lR zA zL and_true decide_true Qh Qs true_and true_implies
end
section
attribute [local go_sem] nFq nT lM lR Nat.mul_one zA zL and_true decide_true Qh Qs true_and true_implies
end
section
attribute [local go_sem] nFq nT lR Nat.mul_one Nat.succ_ne_zero zA zL decide_false decide_true Qs
end
section
attribute [local go_sem] nFq nT aZ lR zA zL decide_false
end
section
attribute [local go_sem] nFq nT aZ lR zA zL bne_self_eq_false decide_false decide_true gt_iff_lt Qs QO zqh_0 zqh_1 zqh_2 zqh_3 QsD QsC QsB QsA zqh_8 Xb zq2_0 zq2_1 zq2_2 zq2_3 zq2_4 zq2_5 zq2_6 zq2_7 zq2_8 QV zq6_0 zq6_1 QX zq8_0 zq8_1 zq8_2 zq8_3 QsN QsM QsL QsK zq8_8
theorem QtX (hT:Qq P tab) (v:Int) (F:List (List Int)):Pure P G Yo [fml v F] fun u=>u=fml v F:=by
 intro t
 simp only [fml,rows]
 refine Xk 0 (zL _) (Xf hT QZ (by simp [QV]) (QH 1000 ?_))
 simp -implicitDefEqProofs (disch:=omega) only [go_sem,↓reduceIte,reduceCtorEq,rA,rq,rL]
def QtD (F:List (List Int)) (k:Nat):Bool:=decide (F.length≤k)&&F.all fun c=>decide (c.length≤30)
def fwH (t:Nat) (v:Int) (F:List (List Int)):List (Option Ob):=[some (.arr t 24 [.int .i64 v,.lst 1 (F.map row) false])]
theorem c_few5 (hT:Qq P tab) (v:Int) (F:List (List Int)) (k:Nat) (hk:k≤1000) (hF:F.length≤9223372036854775807) (hc:∀ c∈F,c.length≤9223372036854775807) :
 Pure P G YZ [fml v F,.int .i64 k] fun u=>u=.bool (QtD F k):=by
 intro t
 simp only [fml,rows]
 refine Xk 0 (zL _) (Xf hT YV (by simp [Xb]) (QH 1000 ?_))
 rcases Nat.lt_or_ge k F.length with h | h
 ·have h':(k:Int)<(F.length:Int):=by omega
  have hf:QtD F k=false:=by unfold QtD; rw [decide_eq_false (by omega)]; rfl
  simp -implicitDefEqProofs (disch:=omega) only [go_sem,↓reduceIte,reduceCtorEq,rA,rq,lM,true_implies,and_true,h',hf]
 ·have h':¬ (k:Int)<(F.length:Int):=by omega
  have hf:QtD F k=F.all fun c=>decide (c.length≤30):=by unfold QtD; rw [decide_eq_true (by omega)]; rfl
  simp -implicitDefEqProofs (disch:=omega) only [go_sem,↓reduceIte,reduceCtorEq,rA,rq,lM,true_implies,and_true,h',hf]
  refine Qa1 F (fun i fr σ=>(∀ c∈F.take i,c.length≤30)∧Qi fr 2=.ptr 0 t 0∧Qi fr 5=.int .i64 ((i:Nat):Int)∧σ=⟨t+1,fwH t v F⟩)
   (fun e fr σ=>(e=.ret∧Qi fr 4=.bool false∧F.all (fun c=>decide (c.length≤30))=false)∨(e=.ex 0∧F.all (fun c=>decide (c.length≤30))=true)) ⟨by simp,?_⟩ (fun i c hci fr σ hJ=>?_) (fun i hi fr σ hJ=>?_) (fun e fr σ hE=>?_)
  ·simp -implicitDefEqProofs (disch:=omega) only [go_sem,↓reduceIte,reduceCtorEq,rq,fwH,true_and,and_true]
   rfl
  ·obtain ⟨hok,f2,f5,rfl⟩:=hJ
   obtain ⟨hlt,hD,e2⟩:=QeU hci hF
   have hcm:=List.mem_of_getElem? hci
   have hts:=QB hci
   rcases Nat.lt_or_ge 30 c.length with hb | hb
   ·have hb':(30:Int)<(c.length:Int):=by omega
    refine Qj [(2,.ptr 0 t 0),(5,.int .i64 ((i:Nat):Int))] ⟨f2,f5,trivial⟩  1000 ?_
    simp -implicitDefEqProofs (disch:=omega) only [go_sem,↓reduceIte,reduceCtorEq,rA,rq,fwH,lM,Qh,true_implies,true_and,and_true,hlt,hD,hb']
    rw [List.all_eq_false]; exact ⟨c,hcm,by simp; omega⟩
   ·have hb':¬ (30:Int)<(c.length:Int):=by omega
    refine Qj [(2,.ptr 0 t 0),(5,.int .i64 ((i:Nat):Int))] ⟨f2,f5,trivial⟩  1000 ?_
    simp -implicitDefEqProofs (disch:=omega) only [go_sem,↓reduceIte,rA,rq,fwH,lM,Qh,true_implies,and_true,hlt,hD,hb']
    refine ⟨_,_,Shift.refl _ _ _ _,fun x hx=>?_,?_⟩
    ·rw [hts,List.mem_append] at hx
     rcases hx with hx | hx
     ·exact hok x hx
     ·simp at hx; subst hx; exact hb
    ·simp -implicitDefEqProofs (disch:=omega) only [go_sem,↓reduceIte,rq,and_true,e2]
  ·obtain ⟨hok,f2,f5,rfl⟩:=hJ
   rw [hi,List.take_length] at hok
   refine Qj [(2,.ptr 0 t 0),(5,.int .i64 ((i:Nat):Int))] ⟨f2,f5,trivial⟩  1000 ?_
   simp -implicitDefEqProofs (disch:=omega) only [go_sem,↓reduceIte,reduceCtorEq,rA,rq,fwH,lM,true_implies,true_and,and_true,hi,Nat.lt_irrefl]
   rw [List.all_eq_true]; intro c h; exact decide_eq_true (hok c h)
  ·rcases hE with ⟨rfl,f4,hh⟩ | ⟨rfl,hh⟩
   ·refine Qe 1000 ?_
    simp -implicitDefEqProofs (disch:=omega) only [go_sem,and_true,f4,hh]
   ·refine Qe 1000 ?_
    simp -implicitDefEqProofs (disch:=omega) only [go_sem,↓reduceIte,and_true,hh]
abbrev siJ (t:Nat) (a b:List Int):Nat→Fr→H→Prop:=fun m fr σ=>∃ i,i≤a.length∧m=a.length - i∧a.take i=b.take i∧Qi fr 0=.lst 1 (ints a) false∧Qi fr 1=.lst 1 (ints b) false∧Qi fr 5=.int .i64 ((i:Nat):Int)∧σ=⟨t,[]⟩
abbrev siE (t:Nat) (a b:List Int):AE→Fr→H→Prop:=fun e fr σ=>(e=.ret∧Qi fr 4=.bool false∧a≠b)∨(e=.ex 0∧a=b)
variable {σ:H} {fr:Fr} {t m:Nat}
theorem Qoh (hT:Qq P tab) {a b:List Int} (hab:a.length=b.length) (hl:a.length≤9223372036854775807) (hJ:siJ t a b m fr σ) :
 W P G 26 0 (.seq (zg QsD [11,12,13] (zw 14 .skip (.exit 0))) (.seq (.block 1 (zg QsC [17,18,19,20,21,22,23,24] (zw 25 (zg QsB [] .ret) .skip))) (.reg QsA [15,16]))) fr σ (QaS (fun fr σ=>∃ m' fr' σ',m'<m∧Shift G 26 0 fr σ fr' σ'∧siJ t a b m' fr' σ') (siE t a b)):=by
 obtain ⟨i,hi,rfl,heq,f0,f1,f5,rfl⟩:=hJ
 rcases Nat.lt_or_ge i a.length with hlt | hge
 ·obtain ⟨x,hx⟩:∃ x,a[i]?=some x:=⟨_,List.getElem?_eq_getElem hlt⟩
  obtain ⟨y,hy⟩:∃ y,b[i]?=some y:=⟨_,List.getElem?_eq_getElem (by omega)⟩
  have hltb:i<b.length:=by omega
  have hD1:=Z4 hx
  have hD2:=Z4 hy
  have e2:=X8 hlt hl
  by_cases hxy:x=y
  ·subst hxy
   have hb:(x==x)=true:=by simp
   refine Qj [(0,.lst 1 (ints a) false),(1,.lst 1 (ints b) false),(5,.int .i64 ((i:Nat):Int))] ⟨f0,f1,f5,trivial⟩  1000 ?_
   simp -implicitDefEqProofs (disch:=omega) only [go_sem,↓reduceIte,reduceCtorEq,rq,Qh,true_implies,and_true,hlt,hltb,hD1,hD2]
   refine ⟨a.length - (i+1),_,_,by omega,Shift.refl _ _ _ _,i+1,by omega,rfl,by rw [QB hx,QB hy,heq],?_⟩
   simp -implicitDefEqProofs (disch:=omega) only [go_sem,↓reduceIte,reduceCtorEq,rq,and_true,e2]
  ·have hb:(x=y)=False:=eq_false hxy
   have hne:a≠b:=fun e=>by rw [e,hy] at hx; exact hxy (Option.some.inj hx).symm
   refine Qj [(0,.lst 1 (ints a) false),(1,.lst 1 (ints b) false),(5,.int .i64 ((i:Nat):Int))] ⟨f0,f1,f5,trivial⟩  1000 ?_
   simp -implicitDefEqProofs (disch:=omega) only [go_sem,↓reduceIte,reduceCtorEq,rq,Qh,not_false_eq_true,false_implies,true_implies,and_true,hlt,hltb,hD1,hD2,hb]
   exact .inl ⟨rfl,rfl,hne⟩
 ·have hi:i=a.length:=by omega
  rw [hi,List.take_length,hab,List.take_length] at heq
  refine Qj [(0,.lst 1 (ints a) false),(1,.lst 1 (ints b) false),(5,.int .i64 ((i:Nat):Int))] ⟨f0,f1,f5,trivial⟩  1000 ?_
  simp -implicitDefEqProofs (disch:=omega) only [go_sem,↓reduceIte,reduceCtorEq,rq,Qh,hi,Nat.lt_irrefl]
  exact .inr ⟨rfl,heq⟩
theorem QfO (hT:Qq P tab) (a b:List Int) (hl:a.length≤9223372036854775807) (hl':b.length≤9223372036854775807) :
 Pure P G Xn [row a,row b] fun u=>u=.bool (decide (a=b)):=by
 intro t
 simp only [row]
 refine Xk 0 (zL _) (Xf hT Qu (by simp [QO]) (QH 1000 ?_))
 by_cases h:a.length=b.length
 ·have h':((a.length:Int)=(b.length:Int))=True:=eq_true (by omega)
  simp -implicitDefEqProofs (disch:=omega) only [go_sem,↓reduceIte,reduceCtorEq,rq,Qh,not_true_eq_false,false_implies,true_implies,true_and,h']
  refine Q5 (siJ t a b) (siE t a b) (m0:=a.length) ⟨0,by omega,rfl,by simp,?_⟩ (fun m fr σ hJ=>Qoh hT h hl hJ) (fun e fr σ hE=>?_)
  ·simp -implicitDefEqProofs (disch:=omega) only [go_sem,↓reduceIte,reduceCtorEq,rq,true_and,and_true]
   rfl
  ·rcases hE with ⟨rfl,f4,hh⟩ | ⟨rfl,hh⟩
   ·refine Qe 1000 ?_
    simp -implicitDefEqProofs (disch:=omega) only [go_sem,and_true,f4,hh]
   ·refine Qe 1000 ?_
    simp -implicitDefEqProofs (disch:=omega) only [go_sem,↓reduceIte,and_true,hh]
 ·have h':((a.length:Int)=(b.length:Int))=False:=eq_false (by omega)
  have hne:a≠b:=fun e=>h (by rw [e])
  simp -implicitDefEqProofs (disch:=omega) only [go_sem,↓reduceIte,reduceCtorEq,rq,Qh,not_false_eq_true,false_implies,true_implies,and_true,h',hne]
def smH (t:Nat) (v w:Int) (a b:List (List Int)):List (Option Ob):=[some (.arr t 24 [.int .i64 v,.lst 1 (a.map row) false]),some (.arr (t+1) 33 [.int .i64 w,.lst 1 (b.map row) false])]
abbrev smJ (t:Nat) (v w:Int) (a b:List (List Int)):Nat→Fr→H→Prop:=fun m fr σ=>∃ i,i≤a.length∧m=a.length - i∧a.take i=b.take i∧Qi fr 2=.ptr 0 t 0∧Qi fr 3=.ptr 1 (t+1) 0∧Qi fr 5=.int .i64 ((i:Nat):Int)∧∃ t2,σ=⟨t2,smH t v w a b⟩
abbrev smE (t:Nat) (v w:Int) (a b:List (List Int)):AE→Fr→H→Prop:=fun e fr σ=>(e=.ret∧Qi fr 4=.bool false∧a≠b)∨(e=.ex 0∧a=b)
theorem Qof (hT:Qq P tab) {v w:Int} {a b:List (List Int)} (hab:a.length=b.length) (hl:a.length≤1000000) (ha:∀ c∈a,c.length≤1000000) (hb:∀ c∈b,c.length≤1000000) (hJ:smJ t v w a b m fr σ) :
 W P G 39 0 (.seq (zg QsN [20,21,22,23] (zw 24 .skip (.exit 0))) (.seq (.block 1 (zg QsM [27,28,29,30,31,32,33,34,35,36,37] (zw 38 (zg QsL [] .ret) .skip))) (.reg QsK [25,26]))) fr σ (QaS (fun fr σ=>∃ m' fr' σ',m'<m∧Shift G 39 0 fr σ fr' σ'∧smJ t v w a b m' fr' σ') (smE t v w a b)):=by
 obtain ⟨i,hi,rfl,heq,f2,f3,f5,t2,rfl⟩:=hJ
 rcases Nat.lt_or_ge i a.length with hlt | hge
 ·obtain ⟨x,hx⟩:∃ x,a[i]?=some x:=⟨_,List.getElem?_eq_getElem hlt⟩
  obtain ⟨y,hy⟩:∃ y,b[i]?=some y:=⟨_,List.getElem?_eq_getElem (by omega)⟩
  have hltb:i<b.length:=by omega
  have hD1:=Qa2 hx
  have hD2:=Qa2 hy
  have e2:=X8 hlt (by omega)
  have hS:=QfO (G:=G) hT x y (by have:=ha x (List.mem_of_getElem? hx); omega) (by have:=hb y (List.mem_of_getElem? hy); omega)
  simp only [row] at hS
  by_cases hxy:x=y
  ·subst hxy
   refine Qj [(2,.ptr 0 t 0),(3,.ptr 1 (t+1) 0),(5,.int .i64 ((i:Nat):Int))] ⟨f2,f3,f5,trivial⟩  1000 ?_
   simp -implicitDefEqProofs (disch:=omega) only [go_sem,↓reduceIte,rA,rq,smH,lM,true_implies,and_true,hlt,hltb,hD1,hD2]
   refine Ql hT Qu hS (by simp [Qc,Qd]) 1000 ?_
   simp -implicitDefEqProofs (disch:=omega) only [go_sem,↓reduceIte,rq]
   refine ⟨a.length - (i+1),_,_,by omega,Shift.refl _ _ _ _,i+1,by omega,rfl,by rw [QB hx,QB hy,heq],?_⟩
   simp -implicitDefEqProofs (disch:=omega) only [go_sem,↓reduceIte,rq,smH,true_and,and_true,e2]
   exact ⟨_,rfl⟩
  ·have hne:a≠b:=fun e=>by rw [e,hy] at hx; exact hxy (Option.some.inj hx).symm
   refine Qj [(2,.ptr 0 t 0),(3,.ptr 1 (t+1) 0),(5,.int .i64 ((i:Nat):Int))] ⟨f2,f3,f5,trivial⟩  1000 ?_
   simp -implicitDefEqProofs (disch:=omega) only [go_sem,↓reduceIte,rA,rq,smH,lM,true_implies,and_true,hlt,hltb,hD1,hD2]
   refine Ql hT Qu hS (by simp [Qc,Qd]) 1000 ?_
   simp -implicitDefEqProofs (disch:=omega) only [go_sem,↓reduceIte,rq,hxy]
   exact .inl ⟨rfl,rfl,hne⟩
 ·have hi:i=a.length:=by omega
  rw [hi,List.take_length,hab,List.take_length] at heq
  refine Qj [(2,.ptr 0 t 0),(3,.ptr 1 (t+1) 0),(5,.int .i64 ((i:Nat):Int))] ⟨f2,f3,f5,trivial⟩  1000 ?_
  simp -implicitDefEqProofs (disch:=omega) only [go_sem,↓reduceIte,rA,rq,smH,lM,true_implies,and_true,hi,Nat.lt_irrefl]
  exact .inr ⟨rfl,heq⟩
theorem Qiw (hT:Qq P tab) (v w:Int) (a b:List (List Int)) (hl:a.length≤1000000) (hl':b.length≤1000000) (ha:∀ c∈a,c.length≤1000000) (hb:∀ c∈b,c.length≤1000000) :
 Pure P G XF [fml v a,fml w b] fun u=>u=.bool (decide (v=w∧a=b)):=by
 intro t
 simp only [fml,rows]
 refine Xk 0 (zL _) (Xf hT Q4 (by simp [QX]) (QH 1000 ?_))
 by_cases hv:v=w
 ·subst hv
  by_cases h:a.length=b.length
  ·have h':((a.length:Int)=(b.length:Int))=True:=eq_true (by omega)
   simp -implicitDefEqProofs (disch:=omega) only [go_sem,↓reduceIte,reduceCtorEq,rA,rq,rL,lM,not_true_eq_false,false_implies,true_implies,true_and,and_true,h']
   refine Q5 (smJ t v v a b) (smE t v v a b) (m0:=a.length) ⟨0,by omega,rfl,by simp,?_⟩ (fun m fr σ hJ=>Qof hT h hl ha hb hJ) (fun e fr σ hE=>?_)
   ·simp -implicitDefEqProofs (disch:=omega) only [go_sem,↓reduceIte,reduceCtorEq,rq,smH,true_and,and_true]
    exact ⟨rfl,_,rfl⟩
   ·rcases hE with ⟨rfl,f4,hh⟩ | ⟨rfl,hh⟩
    ·refine Qe 1000 ?_
     simp -implicitDefEqProofs (disch:=omega) only [go_sem,and_true,f4,hh]
    ·refine Qe 1000 ?_
     simp -implicitDefEqProofs (disch:=omega) only [go_sem,↓reduceIte,and_true,hh]
  ·have h':((a.length:Int)=(b.length:Int))=False:=eq_false (by omega)
   have hne:a≠b:=fun e=>h (by rw [e])
   simp -implicitDefEqProofs (disch:=omega) only [go_sem,↓reduceIte,reduceCtorEq,rA,rq,rL,lM,not_false_eq_true,false_implies,true_implies,true_and,and_true,h',hne]
   try simp [hne]
 ·simp -implicitDefEqProofs (disch:=omega) only [go_sem,↓reduceIte,reduceCtorEq,rA,rq,rL,lM,not_false_eq_true,false_implies,true_implies,true_and,and_true,hv]
  try simp [hv]
end
end Go.Proofs.YtingdebioipemaaGreatDoor
