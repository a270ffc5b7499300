/- The law RupSat at the formula of the closed statement. -/
import Derived.Test.YtingdebioipemaaJ14
open Nat renaming reduceEqDiff → rq, reduceAdd → rA, reduceLeDiff → rL, reduceLT → rTq, zero_add → zA, le_refl → lR, zero_le → zL, add_zero → aZ
open List renaming length_cons → lC, length_nil → lN, take_succ_cons → tS, length_append → lA, nil_append → nA, cons_append → cA, append_assoc → aA, take_nil → tN, take_zero → tZ, length_map → lM
open Bool renaming not_false → nF, not_true → nT
namespace Go.Proofs.Ytingdebioipemaa
open Go Go.Am Go.Cl Go.Sat
set_option maxRecDepth 100000
variable {G:Nat→Option V}
section
attribute [local go_sem] nF nT aZ lR Nat.mul_one Nat.one_mul zA zL Nat.zero_mul and_true bne_self_eq_false decide_false decide_true false_implies gt_iff_lt not_false_eq_true Q8 zqm_0 zqm_1 Qn6 Qn5 Qn4 Qn3 Qn2 Qn1 QsT zqm_2 zqm_3 zqm_4 zqm_5 zqm_6 zqm_7 zqm_8 zqm_9 true_and true_implies
def rkF:List (List Int):=[[1,2],[-1,2],[1,-2],[-1,-2,3],[-3,1],[-3,-1]]
theorem rkF_ok:∃ s,Qng 3 rkF 1048576=some (s,false)∧s.pf=[[1],[]]:=by
 have h:(Qng 3 rkF 1048576).map (fun r=>(r.2,r.1.pf))=some (false,[[1],[]]):=by decide +kernel
 rcases e:Qng 3 rkF 1048576 with _ | ⟨s,b⟩
 ·rw [e] at h; cases h
 ·rw [e] at h; simp at h; obtain ⟨rfl,h⟩:=h; exact ⟨s,rfl,h⟩
theorem QrK:short 3 rkF [[1],[]]=([[1],[]],true):=by decide +kernel
theorem QrN:Xc 3 rkF [[1],[]]=true:=by decide +kernel
theorem QrM:Q3 3 rkF [[1],[]]=2:=by decide +kernel
theorem Qmx:Xc 3 rkF [[]]=false:=by decide +kernel
theorem Qmw:Xc 3 rkF [[1]]=false:=by decide +kernel
abbrev rksH (t0 u:Nat):List (Option Ob):=[some (.arr t0 24 [.int .i64 3,.lst 1 (rkF.map row) false]),some (.arr (t0+1) 67 [.int .u8 2,.lst 0 [] true,.lst 1 [.lst 1 [.int .i64 1] false,.lst 1 [] false] false,.int .i64 (u:Int)])]
abbrev rksJ (t0 u:Nat):Nat→Fr→H→Prop:=fun i fr σ=>∃ t',Qg fr 1=.ptr 0 t0 0∧Qg fr 5=.lst 1 [.lst 1 [.int .i64 1] false,.lst 1 [] false] false∧Qg fr 7=.int .i64 (i:Int)∧σ=⟨t',rksH t0 u⟩
theorem QpG (hT:Qj Try.prog tab) {t0 u i:Nat} (hi:i<2) {fr:Fr} {σ:H} (hJ:rksJ t0 u i fr σ) :
 W Try.prog G 102 0 (.seq (zg Qn6 [82,83,84] (zw 85 .skip (.exit 0))) (.seq (.block 1 (zg Qn5 [] (zg Qn4 [88,89,90,91,92] (zg Qn3 [93,94,95,96,97,98,99] (zw 100 (zg Qn2 [] .ret) .skip))))) (.reg Qn1 [86,87]))) fr σ (Y9 (fun fr σ=>∃ fr' σ',Shift G 102 0 fr σ fr' σ'∧rksJ t0 u (i+1) fr' σ') fun e _ _=>e=.ex 0):=by
 obtain ⟨t',f1,f5,f7,rfl⟩:=hJ
 have hC0:=Qax (G:=G) hT 3 rkF [[]] (by decide) (by decide) (by decide) (by decide)
 rw [Qmx] at hC0
 have hC1:=Qax (G:=G) hT 3 rkF [[1]] (by decide) (by decide) (by decide) (by decide)
 rw [Qmw] at hC1
 have hnr:=X0 rkF
 have c1:((1:Nat):Int)=1:=rfl
 have c0:((0:Nat):Int)=0:=rfl
 have c2:((2:Nat):Int)=2:=rfl
 simp only [fml,rows,row,ints,List.map_cons,List.map_nil] at hC0 hC1
 have hV:∀ (o:List (Option Ob)) (k w T:Nat) (l:List V),o[k]?=some (some (.arr w T [.lst 1 l false]))→Qd l=true→Seen o (.sl k w 0 1 1 none) (.lst 1 [.lst 1 l false] false):=fun o k w T l h hn =>
  Seen.row (o:=o) k w 0 1 none T [.lst 1 l false] [.lst 1 l false] h (fun j u hj=>by
   match j,hj with
   | 0,hj=>cases hj; exact ⟨rfl,fun i d hd=>by
    match i,hd with
    | 0,hd=>cases hd; exact ⟨rfl,by simp [nameless]⟩⟩) fun _=>rfl
 rcases (by omega:i=0∨i=1) with rfl | rfl
 ·have w1:IntKind.i64.wrap (0+1)=1:=by decide
  have w2:0≤IntKind.i64.wrap (0+1)∧(IntKind.i64.wrap (0+1)).toNat≤2:=by decide
  have w3:List.take (2 - (IntKind.i64.wrap (0+1)).toNat) (List.drop (IntKind.i64.wrap (0+1)).toNat [V.lst 1 [V.int .i64 1] false,V.lst 1 [] false])=[.lst 1 [] false]:=by rw [w1]; rfl
  refine Qf [(1,.ptr 0 t0 0),(5,.lst 1 [.lst 1 [.int .i64 1] false,.lst 1 [] false] false),(7,.int .i64 0)] ⟨f1,f5,f7,trivial⟩ 1000 ?_
  simp -implicitDefEqProofs (disch:=omega) only [go_sem,↓reduceIte,reduceCtorEq,rA,rq,rL,rTq,Nat.reduceSub,Int.reduceToNat,Int.reduceLE,Int.reduceLT,c2,w2,w3,lC,lN]
  refine QJ hT Q4 hC0 (.cons _ _ _ _ (.same _ (by simp [nameless,Qd])) (.cons _ _ _ _ (hV _ _ _ _ _ rfl rfl) .nil)) rfl 1000 ?_
  simp -implicitDefEqProofs (disch:=omega) only [go_sem,↓reduceIte,rq,w1]
  exact ⟨_,_,Shift.drop (o':=rksH t0 u) (t':=t'+1+1) (by simp [YF]) (lR _) (zL _),t'+1+1,rfl,rfl,rfl,rfl⟩
 ·have w1:IntKind.i64.wrap (1+1)=2:=by decide
  have w2:0≤IntKind.i64.wrap (1+1)∧(IntKind.i64.wrap (1+1)).toNat≤2:=by decide
  have w3:List.take (2 - (IntKind.i64.wrap (1+1)).toNat) (List.drop (IntKind.i64.wrap (1+1)).toNat [V.lst 1 [V.int .i64 1] false,V.lst 1 [] false])=[]:=by rw [w1]; rfl
  refine Qf [(1,.ptr 0 t0 0),(5,.lst 1 [.lst 1 [.int .i64 1] false,.lst 1 [] false] false),(7,.int .i64 1)] ⟨f1,f5,f7,trivial⟩ 1000 ?_
  simp -implicitDefEqProofs (disch:=omega) only [go_sem,↓reduceIte,reduceCtorEq,rA,rq,rL,rTq,Nat.reduceSub,Int.reduceToNat,Int.reduceLE,Int.reduceLT,c2,w2,w3,lC,lN]
  refine QJ hT Q4 hC1 (.cons _ _ _ _ (.same _ (by simp [nameless,Qd])) (.cons _ _ _ _ (hV _ _ _ _ _ rfl rfl) .nil)) rfl 1000 ?_
  simp -implicitDefEqProofs (disch:=omega) only [go_sem,↓reduceIte,rq,w1]
  exact ⟨_,_,Shift.drop (o':=rksH t0 u) (t':=t'+1+1) (by simp [YF]) (lR _) (zL _),t'+1+1,rfl,rfl,rfl,rfl⟩
theorem Qsw (hT:Qj Try.prog tab):Pure Try.prog G X2 [fml 3 rkF] fun u=>u=.bool true:=by
 obtain ⟨s,es,ep⟩:=rkF_ok
 have hW:=QfP (G:=G) hT
 have hf:=QlK (P:=Try.prog) (G:=G) hT rkF 40 (by decide) (by decide) (by decide)
 rw [show QmN rkF ((40:Nat):Int)=true by decide] at hf
 have hR:=Qaw (P:=Try.prog) (G:=G) hT 3 rkF (by decide) (by decide)
 rw [show right 3 rkF=true by decide +kernel] at hR
 have hS:=Qxw (G:=G) hT 3 rkF 1048576 (by decide +kernel) (by decide) (by decide) (by decide) (by decide)
 rw [es] at hS
 simp only [QxG,ep] at hS
 have hSh:=QlN (G:=G) hT 3 rkF [[1],[]] (by decide) (by decide) (by decide) (by decide)
 rw [QrK] at hSh
 have hC:=Qax (G:=G) hT 3 rkF [[1],[]] (by decide) (by decide) (by decide) (by decide)
 rw [QrN] at hC
 have hFi:=QlP (G:=G) hT 3 rkF [[1],[]] (by decide) (by decide) (by decide) (by decide)
 rw [QrM] at hFi
 have hC0:=Qax (G:=G) hT 3 rkF [[]] (by decide) (by decide) (by decide) (by decide)
 rw [Qmx] at hC0
 have hC1:=Qax (G:=G) hT 3 rkF [[1]] (by decide) (by decide) (by decide) (by decide)
 rw [Qmw] at hC1
 have hnr:=X0 rkF
 have hl:rkF.length=6:=rfl
 have c3:((3:Nat):Int)=3:=rfl
 have c40:((40:Nat):Int)=40:=rfl
 have cfu:((1048576:Nat):Int)=1048576:=rfl
 have c2:((2:Nat):Int)=2:=rfl
 simp only [fml,rows,row,ints,List.map_cons,List.map_nil,c3,c40,cfu,c2] at hf hR hS hSh hC hFi hC0 hC1 ⊢
 intro t
 refine XU 0 (zL _) (QF hT Y7 (by simp [Q8]) (Qx 1000 ?_))
 simp -implicitDefEqProofs (disch:=omega) only [go_sem,↓reduceIte,reduceCtorEq,rA,rq]
 refine Qi hT QA hf (by simp [Qd,nameless]) 1000 ?_
 simp -implicitDefEqProofs (disch:=omega) only [go_sem,↓reduceIte,reduceCtorEq,rA,rq,rL,Int.reduceLT]
 refine Qi hT Ql hR (by simp [Qd,nameless]) 1000 ?_
 simp -implicitDefEqProofs (disch:=omega) only [go_sem,↓reduceIte,reduceCtorEq,rA,rq]
 refine Qi hT QgV hS (by simp [Qd,nameless]) 1000 ?_
 generalize (1048576 - s.lf:Nat)=u
 have c1:((1:Nat):Int)=1:=rfl
 have c0:((0:Nat):Int)=0:=rfl
 simp -implicitDefEqProofs (disch:=omega) only [go_sem,↓reduceIte,reduceCtorEq,rA,rq,rL,rTq,Int.reduceLT,c2]
 refine Qi hT Qd9 hSh (by simp [Qd,nameless]) 1000 ?_
 simp -implicitDefEqProofs (disch:=omega) only [go_sem,↓reduceIte,reduceCtorEq,rA,rq,rL,rTq]
 refine Qi hT Q4 hC (by simp [Qd,nameless]) 1000 ?_
 simp -implicitDefEqProofs (disch:=omega) only [go_sem,↓reduceIte,reduceCtorEq,rA,rq,rL,Int.reduceLT,Int.reduceEq,c2]
 refine Qi hT Q4 hC (by simp [Qd,nameless]) 1000 ?_
 simp -implicitDefEqProofs (disch:=omega) only [go_sem,↓reduceIte,reduceCtorEq,rA,rq]
 refine Qi hT QbU hFi (by simp [Qd,nameless]) 1000 ?_
 simp -implicitDefEqProofs (disch:=omega) only [go_sem,↓reduceIte,reduceCtorEq,rA,rq,c2]
 refine ZF 2 (rksJ t u) (fun e _ _=>e=.ex 0) ⟨t+1+1,rfl,rfl,rfl,rfl⟩ (fun i hi fr σ hJ=>QpG hT hi hJ) (fun i hi fr σ hJ=>?_) (fun e fr σ hE=>?_)
 ·obtain ⟨t',f1,f5,f7,rfl⟩:=hJ
  subst hi
  refine Qf [(1,.ptr 0 t 0),(5,.lst 1 [.lst 1 [.int .i64 1] false,.lst 1 [] false] false),(7,.int .i64 2)] ⟨f1,f5,f7,trivial⟩ 1000 ?_
  simp -implicitDefEqProofs (disch:=omega) only [go_sem,↓reduceIte,rA,rq,Int.reduceLT,c2,lC,lN]
 ·subst hE
  refine Qc 1000 ?_
  simp -implicitDefEqProofs (disch:=omega) only [go_sem,↓reduceIte]
  refine Qi hT Qh hW rfl 1000 ?_
  simp -implicitDefEqProofs (disch:=omega) only [go_sem,↓reduceIte,rq]
end
section
attribute [local go_sem] nF nT lR Nat.succ_ne_zero zA zL and_true beq_self_eq_true decide_false decide_true false_implies not_false_eq_true QT zq4_0 zq4_1 zq4_2 Qwr Qwq Qwp Qwo Qwn zq4_8 zq4_9 true_and true_implies
theorem Qk5 (x:Int):-9223372036854775808≤IntKind.i64.wrap x∧IntKind.i64.wrap x≤9223372036854775807:=by
 have h:IntKind.i64.wrap x=if 9223372036854775808≤x % 18446744073709551616 then x % 18446744073709551616 - 18446744073709551616 else x % 18446744073709551616:=by
  show (if (true&&decide (x % 18446744073709551616≥9223372036854775808))=true then _ else _)=_
  simp only [Bool.true_and,decide_eq_true_eq]
  rfl
 rw [h]
 split <;> omega
abbrev rkuH (t0:Nat):List (Option Ob):=[some (.arr t0 24 [.int .i64 3,QbT rkF])]
abbrev rkuJ (t0:Nat):Nat→Fr→H→Prop:=fun m fr σ=>∃ t',Qg fr 1=.ptr 0 t0 0∧Qg fr 2=.int .i64 (m:Int)∧σ=⟨t',rkuH t0⟩
abbrev rkuE (t0:Nat):AE→Fr→H→Prop:=fun e fr σ=>e=.ex 0∧∃ t',Qg fr 1=.ptr 0 t0 0∧σ=⟨t',rkuH t0⟩
abbrev iv (n:Int):V:=.int .i64 n
variable {a b c:Int}
theorem ck1 (hT:Qj Try.prog tab) (ha:-9223372036854775808≤a∧a≤9223372036854775807) (hb:-9223372036854775808≤b∧b≤9223372036854775807) (hc:-9223372036854775808≤c∧c≤9223372036854775807) :
 Pure Try.prog G Qr [.agg [.int .i64 3,QbT rkF],.lst 1 [.lst 1 [iv a] true,.lst 1 [iv b,iv c] true,.lst 1 [] true] true,.lst 1 [iv a,iv b] true] fun u=>u=.bool true :=
 Pure.args (.cons _ _ _ _ (ZX _ _) (.cons _ _ _ _ (Y6 [[a],[b,c],[]]) (.cons _ _ _ _ (Qfb [a,b]) .nil))) (QbK (G:=G) hT 3 rkF [[a],[b,c],[]] [a,b] (by decide) (by decide) (by simp) (by simp) (by simp) (by simp [ha,hb,hc]) (by simp [ha,hb]))
theorem ck2 (hT:Qj Try.prog tab) (ha:-9223372036854775808≤a∧a≤9223372036854775807) (hb:-9223372036854775808≤b∧b≤9223372036854775807) (hc:-9223372036854775808≤c∧c≤9223372036854775807) :
 Pure Try.prog G Qr [.agg [.int .i64 3,QbT rkF],.lst 1 [.lst 1 [iv b,iv a] true,.lst 1 [iv a] true,.lst 1 [iv c] true,.lst 1 [] true,.lst 1 [] true] true,.lst 1 [iv 4] true] fun u=>u=.bool true :=
 Pure.args (.cons _ _ _ _ (ZX _ _) (.cons _ _ _ _ (Y6 [[b,a],[a],[c],[],[]]) (.cons _ _ _ _ (Qfb [4]) .nil))) (QbK (G:=G) hT 3 rkF [[b,a],[a],[c],[],[]] [4] (by decide) (by decide) (by simp) (by simp) (by simp) (by simp [ha,hb,hc]) (by simp))
theorem ck3 (hT:Qj Try.prog tab) (ha:-9223372036854775808≤a∧a≤9223372036854775807) (hb:-9223372036854775808≤b∧b≤9223372036854775807) (hc:-9223372036854775808≤c∧c≤9223372036854775807) :
 Pure Try.prog G XS [.agg [.int .i64 3,QbT rkF],.lst 1 [.lst 1 [iv a,iv b] true,.lst 1 [iv c] true,.lst 1 [] true] true] fun u=>u=.bool true :=
 Pure.args (.cons _ _ _ _ (ZX _ _) (.cons _ _ _ _ (Y6 [[a,b],[c],[]]) .nil)) (QqM (G:=G) hT 3 rkF [[a,b],[c],[]] (by decide) (by decide) (by simp) (by simp) (by simp [ha,hb,hc]))
theorem ck4 (hT:Qj Try.prog tab) (ha:-9223372036854775808≤a∧a≤9223372036854775807) (hb:-9223372036854775808≤b∧b≤9223372036854775807) (hc:-9223372036854775808≤c∧c≤9223372036854775807) :
 Pure Try.prog G XT [.agg [.int .i64 3,QbT rkF],.lst 1 [.lst 1 [iv a] true] true,.lst 1 [iv b,iv c] true] fun u=>u=.bool true :=
 Pure.args (.cons _ _ _ _ (ZX _ _) (.cons _ _ _ _ (Y6 [[a]]) (.cons _ _ _ _ (Qfb [b,c]) .nil))) (QqN (G:=G) hT 3 rkF [[a]] [b,c] (by decide) (by decide) (by simp) (by simp) (by simp) (by decide) (by simp [hb,hc]))
theorem ck_n {l:List V} (h:Qd l=true):Qd (.agg [.int .i64 3,QbT rkF]::l)=true:=by
 simp only [Qd,Bool.and_eq_true]
 exact ⟨by decide,h⟩
theorem QpF (hT:Qj Try.prog tab) {t0 m:Nat} (hm:m<343) {fr:Fr} {σ:H} (hJ:rkuJ t0 m fr σ) :
 W Try.prog G 113 0 (.seq (zg Qwr [15] (zw 16 .skip (.exit 0))) (.seq (.block 1 (zg Qwq [19,20,21,22,23,24,25,26,27,28] (zg Qwp [29,30,31,32,33,34,35,36,37,38,39,40,41,42,43,44,45,46,47,48,49,50,51,52,53,54,55,56,57,58,59,60,61,62,63,64,65,66,67,68,69,70,71,72,73,74,75,76,77,78,79,80,81,82,83,84] (zw 85 (zg Qwo [] .ret) .skip)))) (.reg Qwn [17,18]))) fr σ (Y9 (fun fr σ=>∃ fr' σ',Shift G 113 0 fr σ fr' σ'∧rkuJ t0 (m+1) fr' σ') (rkuE t0)):=by
 obtain ⟨t',f1,f2,rfl⟩:=hJ
 have e2:=XP hm (by omega)
 have hlt:(m:Int)<343:=by omega
 refine Qf [(1,.ptr 0 t0 0),(2,.int .i64 (m:Int))] ⟨f1,f2,trivial⟩  1000 ?_
 simp -implicitDefEqProofs (disch:=omega) only [go_sem,↓reduceIte,reduceCtorEq,rA,rq,rL,Int.reduceEq,hlt]
 have ha:=Qk5 ((m:Int).tmod 7 - 3)
 have hb:=Qk5 ((IntKind.i64.wrap ((m:Int).tdiv 7)).tmod 7 - 3)
 have hc:=Qk5 (IntKind.i64.wrap ((m:Int).tdiv 49) - 3)
 generalize IntKind.i64.wrap ((m:Int).tmod 7 - 3)=a at *
 generalize IntKind.i64.wrap ((IntKind.i64.wrap ((m:Int).tdiv 7)).tmod 7 - 3)=b at *
 generalize IntKind.i64.wrap (IntKind.i64.wrap ((m:Int).tdiv 49) - 3)=c at *
 refine Qi hT Qz (ck1 hT ha hb hc) (ck_n (by simp [Qd,nameless])) 1000 ?_
 simp -implicitDefEqProofs (disch:=omega) only [go_sem,↓reduceIte,reduceCtorEq,rA,rq,rL]
 refine Qi hT Qz (ck2 hT ha hb hc) (ck_n (by simp [Qd,nameless])) 1000 ?_
 by_cases g:(m:Int).tmod 3=0
 ·have g':decide ((m:Int).tmod 3=0)=true:=decide_eq_true g
  simp -implicitDefEqProofs (disch:=omega) only [go_sem,↓reduceIte,reduceCtorEq,rA,rq,rL,Int.reduceEq,g]
  refine Qi hT YZ (ck3 hT ha hb hc) (ck_n (by simp [Qd,nameless])) 1000 ?_
  simp -implicitDefEqProofs (disch:=omega) only [go_sem,↓reduceIte,reduceCtorEq,rA,rq,rL]
  refine Qi hT Y0 (ck4 hT ha hb hc) (ck_n (by simp [Qd,nameless])) 1000 ?_
  simp -implicitDefEqProofs (disch:=omega) only [go_sem,↓reduceIte,rA,rq,e2]
  exact ⟨_,_,Shift.refl _ _ _ _,t',rfl,rfl,rfl⟩
 ·have g':decide ((m:Int).tmod 3=0)=false:=decide_eq_false g
  simp -implicitDefEqProofs (disch:=omega) only [go_sem,↓reduceIte,reduceCtorEq,rA,rq,rL,Int.reduceEq,g,e2]
  exact ⟨_,_,Shift.refl _ _ _ _,t',rfl,rfl,rfl⟩
theorem QnH (hT:Qj Try.prog tab):Pure Try.prog G YL [] fun u=>u=.bool true:=by
 have hW:=QfP (G:=G) hT
 have hS:Pure Try.prog G X2 [.agg [.int .i64 3,QbT rkF]] fun u=>u=.bool true:=Pure.args (.cons _ _ _ _ (ZX _ _) .nil) (Qsw (G:=G) hT)
 have h1:Pure Try.prog G Qr [.agg [.int .i64 1,.lst 1 [.lst 1 [.int .i64 2] true] true],.lst 1 [.lst 1 [] true] true,.lst 0 [] true] fun u=>u=.bool true :=
  Pure.args (.cons _ _ _ _ (ZX 1 [[2]]) (.cons _ _ _ _ (Y6 [[]]) (.cons _ _ _ _ (.lst 0 1 [] [] true .nil (.inl rfl)) .nil))) (QbK (G:=G) hT 1 [[2]] [[]] [] (by decide) (by decide) (by decide) (by decide) (by decide) (by decide) (by decide))
 have h2:Pure Try.prog G Qr [.agg [.int .i64 0,.lst 0 [] true],.lst 0 [] true,.lst 0 [] true] fun u=>u=.bool true :=
  Pure.args (.cons _ _ _ _ (.agg _ _ (.cons _ _ _ _ (.refl _) (.cons _ _ _ _ (.lst 0 1 [] [] true .nil (.inl rfl)) .nil))) (.cons _ _ _ _ (.lst 0 1 [] [] true .nil (.inl rfl)) (.cons _ _ _ _ (.lst 0 1 [] [] true .nil (.inl rfl)) .nil))) (QbK (G:=G) hT 0 [] [] [] (by decide) (by decide) (by decide) (by decide) (by decide) (by decide) (by decide))
 have h3:Pure Try.prog G Qr [.agg [.int .i64 0,.lst 1 [.lst 1 [] true] true],.lst 1 [.lst 1 [] true] true,.lst 1 [] true] fun u=>u=.bool true :=
  Pure.args (.cons _ _ _ _ (ZX 0 [[]]) (.cons _ _ _ _ (Y6 [[]]) (.cons _ _ _ _ (Qfb []) .nil))) (QbK (G:=G) hT 0 [[]] [[]] [] (by decide) (by decide) (by decide) (by decide) (by decide) (by decide) (by decide))
 intro t
 refine XU 0 (zL _) (QF hT QaZ (by simp [QT]) (Qx 1000 ?_))
 simp -implicitDefEqProofs (disch:=omega) only [go_sem,↓reduceIte,reduceCtorEq,rA,rq,rL]
 refine ZF 343 (rkuJ t) (rkuE t) ⟨_,rfl,rfl,rfl⟩ (fun m hm fr σ hJ=>QpF hT hm hJ) (fun m hm fr σ hJ=>?_) (fun e fr σ hE=>?_)
 ·obtain ⟨t',f1,f2,rfl⟩:=hJ
  subst hm
  refine Qf [(1,.ptr 0 t 0),(2,.int .i64 343)] ⟨f1,f2,trivial⟩ 1000 ?_
  simp -implicitDefEqProofs (disch:=omega) only [go_sem,↓reduceIte,rq,Int.reduceLT]
  exact ⟨rfl,t',rfl,rfl⟩
 ·obtain ⟨rfl,t',f1,rfl⟩:=hE
  refine QQ [(1,.ptr 0 t 0)] ⟨f1,trivial⟩ 1000 ?_
  simp -implicitDefEqProofs (disch:=omega) only [go_sem,↓reduceIte,reduceCtorEq,rA,rq,rL]
  refine Qi hT Y7 hS (ck_n rfl) 1000 ?_
  simp -implicitDefEqProofs (disch:=omega) only [go_sem,↓reduceIte,reduceCtorEq,rA,rq]
  refine Qi hT Qz h1 rfl 1000 ?_
  simp -implicitDefEqProofs (disch:=omega) only [go_sem,↓reduceIte,rA,rq]
  refine Qi hT Qz h2 rfl 1000 ?_
  simp -implicitDefEqProofs (disch:=omega) only [go_sem,↓reduceIte,rA,rq]
  refine Qi hT Qz h3 rfl 1000 ?_
  simp -implicitDefEqProofs (disch:=omega) only [go_sem,↓reduceIte,rA,rq]
  refine Qi hT Qh hW rfl 1000 ?_
  simp -implicitDefEqProofs (disch:=omega) only [go_sem,↓reduceIte,reduceCtorEq,rA,rq]
end
end Go.Proofs.Ytingdebioipemaa
