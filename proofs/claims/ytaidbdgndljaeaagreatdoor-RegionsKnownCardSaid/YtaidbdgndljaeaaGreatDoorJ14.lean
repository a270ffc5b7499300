/- The law RegionsOf: faults. -/
import Derived.Test.YtaidbdgndljaeaaGreatDoorJ13
import Derived.Test.YtaidbdgndljaeaaGreatDoorJ9
open Nat renaming reduceEqDiff → rq, reduceAdd → rA, reduceLeDiff → rL, reduceLT → rT, zero_add → zA, le_refl → lR, zero_le → zL, add_zero → aZ
open List renaming length_cons → lC, length_nil → lN, take_succ_cons → tS, length_append → lA, nil_append → nA, cons_append → cA, append_assoc → aA, take_nil → tN, take_zero → tZ, length_map → lM
open Bool renaming not_false → nF, not_true → nT
namespace Go.Proofs.YtaidbdgndljaeaaGreatDoor
open Go Go.Am Go.Rv Go.Rg
set_option maxRecDepth 100000
set_option maxHeartbeats 4000000
section
attribute [local go_sem] nF nT cA lM nA aZ lR Nat.mul_one Nat.one_mul Nat.succ_ne_zero zA zL Nat.zero_mul Option.getD_none Option.getD_some Option.isSome_none Option.isSome_some V.cells and_true beq_self_eq_true bne_self_eq_false QF dC decide_false decide_true false_implies flt ge_iff_le XP gt_iff_lt X5 QaY inC Q9 Qw not_false_eq_true not_true_eq_false Q0 QwT QwS Qmk Qmj Qmi Qmh Qmg QnM QqF QqE QqD QnL QwR QnK QnJ QnI QnH QkC QkB QkA Qkz QnG QqC QwQ QwP QwO QwN QsM QsL QsK QU true_and true_implies
structure Wf (m:Im) (n:Nat) (s:List UInt8 × Int):Prop where
 pos:0<(words m n).length
 len:(words m n).length≤1000
 wb:∀ w∈words m n,0≤w∧w<4294967296
 pl:0≤s.2∧s.2≤4000
 dec:Dec (codeOf (words m n))
 ok:∀ x∈codeOf (words m n),Zq x
 imm:∀ x∈codeOf (words m n),-8589934592≤x.imm∧x.imm≤8589934592
variable {s:List UInt8 × Int} {n i a b v4:Nat} {m:Im}
theorem wf_of (hr:right m=true) (hw:∀ w∈m.code,0≤w∧w<4294967296) (hl:m.code.length≤1000) (hs:m.syms[n]?=some s):Wf m n s:=by
 obtain ⟨a,b,_,_,hab,hbl,es,ew⟩:=(QgU hr).bounds hs
 have hwl:(words m n).length=b - a:=by rw [ew]; simp; omega
 have hwb:∀ w∈words m n,0≤w∧w<4294967296:=fun w h=>by
  rw [ew] at h
  exact hw w (List.mem_of_mem_drop (List.mem_of_mem_take h))
 refine ⟨by omega,by omega,hwb,by omega,Qsh hwb,fun x hx=>?_,fun x hx=>?_⟩
 ·obtain ⟨w,hw,rfl⟩:=List.mem_map.1 hx
  cases hd:dec w with
  | none=>simp [Zq,zeroI,i64]
  | some y =>
    obtain ⟨d1,d2⟩:=QlA (hwb w hw).1 hd
    exact ⟨d1.1,d1.2.1,d1.2.2.1,d1.2.2.2,by show i64 y.imm; unfold i64; omega⟩
 ·obtain ⟨w,hw,rfl⟩:=List.mem_map.1 hx
  cases hd:dec w with
  | none=>simp [zeroI]
  | some y=>exact (QlA (hwb w hw).1 hd).2
def Told (m:Im) (L:List Rg.Fn) (a b:Nat) (e:Int):Prop:=(ofS m=.inl L∧a=0∧b=0∧e=0)∨(ofS m=.inr (a,b,e)∧L=[])
theorem QoB {al:List Int} {pl F:Int} {c:List In} {ws:List Int} {w:Int} (h:ws[i]?=some w) (hz:zeroI.op=0):Yj al pl c F i (ws.drop i)=if Yi al pl c F i ((dec w).getD zeroI)≠0 then some (i,Yi al pl c F i ((dec w).getD zeroI)) else Yj al pl c F (i+1) (ws.drop (i+1)):=by
 rw [QjE h]
 cases hd:dec w with
 | none =>
   have h0:Yi al pl c F i zeroI=220:=by
    have ho:Qna zeroI=false:=by unfold Qna; simp [zeroI]
    unfold Yi; rw [if_pos ho]
   simp [h0]
 | some x=>simp
abbrev roH (v4 a b:Nat) (e:Int):List (Option Ob):=[none,some (.arr v4 31 (flt a b e))]
abbrev roF (v4 a b:Nat) (e:Int) (v6:Nat) (c:List In):List (Option Ob):=[none,some (.arr v4 31 (flt a b e)),some (.arr v6 87 (dC c (frameC c)))]
abbrev r1J (m:Im) (L:List Rg.Fn) (a b:Nat) (e:Int) (v4 v6 n:Nat) (pl:Int) (ws:List Int):Nat→Fr→H→Prop:=fun i fr σ=>∃ t,Yj (ats m) pl (codeOf ws) (frameC (codeOf ws)) 0 ws=Yj (ats m) pl (codeOf ws) (frameC (codeOf ws)) i (ws.drop i)∧Qg fr 1=.ref (.agg (X5 m)) 0∧Qg fr 3=Qad L∧Qg fr 4=.ptr 1 v4 0∧Qg fr 5=.int .i64 ((n:Nat):Int)∧Qg fr 6=.ptr 2 v6 0∧Qg fr 7=.int .i64 ((i:Nat):Int)∧σ=⟨t,roF v4 a b e v6 (codeOf ws)⟩
abbrev r1E (m:Im) (L:List Rg.Fn) (a b:Nat) (e:Int) (v4 v6 n:Nat) (pl:Int) (ws:List Int):AE→Fr→H→Prop:=fun e' fr σ=>(e'=.ret∧Qg fr 2=.bool true)∨∃ t,e'=.ex 2∧Yj (ats m) pl (codeOf ws) (frameC (codeOf ws)) 0 ws=none∧Qg fr 1=.ref (.agg (X5 m)) 0∧Qg fr 3=Qad L∧Qg fr 4=.ptr 1 v4 0∧Qg fr 5=.int .i64 ((n:Nat):Int)∧σ=⟨t,roF v4 a b e v6 (codeOf ws)⟩
variable {σ:H} {fr:Fr} {e:Int} {L:List Rg.Fn}
theorem Qxu (hT:Qk Tryz.prog tab) (hsl:m.syms.length≤1000) {v6:Nat} (hs:m.syms[n]?=some s) (hf:Wf m n s)
 (hbad:∀ i e',Yj (ats m) s.2 (codeOf (words m n)) (frameC (codeOf (words m n))) 0 (words m n)=some (i,e')→L=[]∧a=n∧b=i∧e=e')
 {x:In} (hx:(codeOf (words m n))[i]?=some x) (hJ:r1J m L a b e v4 v6 n s.2 (words m n) i fr σ) :
 W Tryz.prog G0 237 0 (.seq (zg Qmk [53,54,55,56] (zw 57 .skip (.exit 2))) (.seq (.block 3 (zg Qmj [60,61,62,63,64,65,66,67,68,69,70] (zg Qmi [71] (zw 72 (zg Qmh [73,74,75,76,77,78,79,80,81,82,83,84,85,86] .ret) .skip)))) (.reg Qmg [58,59]))) fr σ (QbQ (fun fr σ=>∃ fr' σ',Shift G0 237 0 fr σ fr' σ'∧r1J m L a b e v4 v6 n s.2 (words m n) (i+1) fr' σ') (r1E m L a b e v4 v6 n s.2 (words m n))):=by
 obtain ⟨t,hfa,f1,f3,f4,f5,f6,f7,rfl⟩:=hJ
 obtain ⟨h1,h2,h3,h4,h5,h6,h7⟩:=hf
 have hwi:∃ w,(words m n)[i]?=some w∧(dec w).getD zeroI=x:=by
  unfold codeOf at hx
  rw [List.getElem?_map] at hx
  cases h:(words m n)[i]? with
  | none=>rw [h] at hx; simp at hx
  | some w=>rw [h] at hx; exact ⟨w,rfl,by simpa using hx⟩
 obtain ⟨w,hwi,hwx⟩:=hwi
 have hfw:=QoB (al:=ats m) (pl:=s.2) (F:=frameC (codeOf (words m n))) (c:=codeOf (words m n)) hwi rfl
 rw [hwx,← hfa] at hfw
 have hfl:=(List.getElem?_eq_some_iff.1 hwi).1
 have hcl:(codeOf (words m n)).length≤1000:=by unfold codeOf; rw [lM]; exact h2
 generalize words m n=ws at *
 generalize hc:codeOf ws=c at *
 have hlt:=(List.getElem?_eq_some_iff.1 hx).1
 have hltn:=(List.getElem?_eq_some_iff.1 hs).1
 have e2:=ZT hlt (by omega)
 have hF:=Qgl c
 have hDs:=QhY hs
 have hxi:=h7 x (List.mem_of_getElem? hx)
 have hFt:=Qyy hT c (frameC c) m h5 hF.1 (by omega) hsl hx (h6 x (List.mem_of_getElem? hx)) (by omega) (pl:=s.2) (by omega)
 have hP:=Qwe hT m hsl
 have hWk:=QlH hT
 have hn1:=Qbv m
 have hn2:Qb [.agg (dC c (frameC c)),QaY m,.int .i64 s.2,.int .i64 (i:Int)]=true:=by
  simp [Qb,Qd,Qja] at hn1 ⊢
  exact hn1
 generalize Yi (ats m) s.2 c (frameC c) i x=er at *
 simp only [Qju] at hDs
 simp only [dC,Q9,XP,inC,QaY,X5,QU,QF] at hFt hP hn1 hn2
 refine Qh [(1,.ref (.agg (X5 m)) 0),(3,Qad L),(4,.ptr 1 v4 0),(5,.int .i64 ((n:Nat):Int)),(6,.ptr 2 v6 0),(7,.int .i64 ((i:Nat):Int))] ⟨f1,f3,f4,f5,f6,f7,trivial⟩  20 ?_
 simp -implicitDefEqProofs (disch:=omega) only [go_sem,↓reduceIte,reduceCtorEq,rA,rq,rL,hlt]
 iterate 4 (try (refine Qa 4 ?_; simp -implicitDefEqProofs (disch:=omega) only [go_sem,↓reduceIte,rA,rq,hltn,hDs]))
 refine Qf hT Qbp hP hn1 4 ?_
 simp -implicitDefEqProofs (disch:=omega) only [go_sem,↓reduceIte,rq]
 refine Qf hT Z0 hFt hn2 4 ?_
 by_cases h0:er=0
 ·rw [if_neg (by simp [h0])] at hfw
  have h0':(er != 0)=false:=by simp [h0]
  subst hc
  simp -implicitDefEqProofs (disch:=omega) only [go_sem,↓reduceIte,rq]
  iterate 6 (try (refine Qa 4 ?_; simp -implicitDefEqProofs (disch:=omega) only [go_sem,↓reduceIte,rq,h0',e2]))
  refine ⟨_,_,Shift.refl _ _ _ _,t,hfw,?_⟩
  simp -implicitDefEqProofs (disch:=omega) only [go_sem,↓reduceIte,rq]
  all_goals first | rfl | exact ⟨rfl,rfl⟩ | exact ⟨rfl,rfl,rfl⟩ | exact ⟨rfl,rfl,rfl,rfl⟩
 ·rw [if_pos h0] at hfw
  obtain ⟨rfl,rfl,rfl,rfl⟩:=hbad _ _ hfw
  have h0':(e != 0)=true:=by simp [h0]
  have z0:((0:Nat):Int)=0:=rfl
  simp only [Qad,List.map_nil]
  simp -implicitDefEqProofs (disch:=omega) only [go_sem,↓reduceIte,rq]
  iterate 12 (try (refine Qa 4 ?_; simp -implicitDefEqProofs (disch:=omega) only [go_sem,↓reduceIte,reduceCtorEq,rA,rq,rL,h0',lN,z0]))
  refine Qf hT Qm hWk rfl 8 ?_
  simp -implicitDefEqProofs (disch:=omega) only [go_sem,↓reduceIte,rq]
  exact .inl ⟨rfl,rfl⟩
abbrev r0J (m:Im) (L:List Rg.Fn) (a b:Nat) (e:Int) (v4:Nat):Nat→Fr→H→Prop:=fun n fr σ=>∃ t,(∃ r0,ofS m=Qll r0 (readAll m n (m.syms.drop n)))∧Qg fr 1=.ref (.agg (X5 m)) 0∧Qg fr 3=Qad L∧Qg fr 4=.ptr 1 v4 0∧Qg fr 5=.int .i64 ((n:Nat):Int)∧σ=⟨t,roH v4 a b e⟩
abbrev r0E (m:Im) (L:List Rg.Fn) (a b:Nat) (e:Int) (v4:Nat):AE→Fr→H→Prop:=fun e' fr σ=>(e'=.ret∧Qg fr 2=.bool true)∨∃ t,e'=.ex 0∧(∃ r0,ofS m=.inl r0)∧Qg fr 1=.ref (.agg (X5 m)) 0∧Qg fr 3=Qad L∧Qg fr 4=.ptr 1 v4 0∧σ=⟨t,roH v4 a b e⟩
theorem take2 (a b c:Option Ob):YR [a,b] [a,b,c]:=Y0 2 [a,b,c]
theorem Qxv (hT:Qk Tryz.prog tab) (hm:ImB m) (hr:right m=true) (hw:∀ w∈m.code,0≤w∧w<4294967296) (hl:m.code.length≤1000) (hsl:m.syms.length≤1000) (hto:Told m L a b e) (hs:m.syms[n]?=some s) (hJ:r0J m L a b e v4 n fr σ) :
 W Tryz.prog G0 237 0 (.seq (zg QsM [42,43,44,45] (zw 46 .skip (.exit 0))) (.seq (.block 1 (zg QsL [49,50,51,52] (zg QsK [] (.block 2 (.loop (.seq (zg Qmk [53,54,55,56] (zw 57 .skip (.exit 2))) (.seq (.block 3 (zg Qmj [60,61,62,63,64,65,66,67,68,69,70] (zg Qmi [71] (zw 72 (zg Qmh [73,74,75,76,77,78,79,80,81,82,83,84,85,86] .ret) .skip)))) (.reg Qmg [58,59])))))))) (.reg QnM [47,48]))) fr σ (QbQ (fun fr σ=>∃ fr' σ',Shift G0 237 0 fr σ fr' σ'∧r0J m L a b e v4 (n+1) fr' σ') (r0E m L a b e v4)):=by
 obtain ⟨t,⟨r0,hof⟩,f1,f3,f4,f5,rfl⟩:=hJ
 have hlt:=(List.getElem?_eq_some_iff.1 hs).1
 have e2:=ZT hlt (by omega)
 have hf:=wf_of hr hw hl hs
 have hWd:=Qv9 hT m hm hr hl hs
 have hRd:=Qwj hT hf.wb (by have:=hf.len; omega) hf.pos
 have hnx:=Qjw hs
 rw [hnx] at hof
 have hbad:∀ i e',Yj (ats m) s.2 (codeOf (words m n)) (frameC (codeOf (words m n))) 0 (words m n)=some (i,e')→L=[]∧a=n∧b=i∧e=e':=fun i e' h=>by
  have hrs:Qfk (ats m) s.1 s.2 (words m n)=.inr (i,e'):=by unfold Qfk; rw [h]
  rw [hrs] at hof
  simp only [Qll] at hof
  rcases hto with ⟨h1,_⟩ | ⟨h1,h2⟩
  ·rw [h1] at hof; cases hof
  ·rw [h1] at hof
   simp only [Sum.inr.injEq,Prod.mk.injEq] at hof
   exact ⟨h2,hof.1,hof.2.1,hof.2.2⟩
 have hgood:Yj (ats m) s.2 (codeOf (words m n)) (frameC (codeOf (words m n))) 0 (words m n)=none→∃ r1,ofS m=Qll r1 (readAll m (n+1) (m.syms.drop (n+1))):=fun h=>by
  have hrs:Qfk (ats m) s.1 s.2 (words m n)=.inl (Qox s.1 s.2 (words m n)):=by unfold Qfk; rw [h]
  rw [hrs] at hof
  exact ⟨r0++[Qox s.1 s.2 (words m n)],by rw [hof]; exact Qot _ _ _⟩
 have hn1:Qb [QaY m,.int .i64 (n:Int)]=true:=by
  have:=Qbv m
  simp [Qb,Qd] at this ⊢
  exact this
 have hn2:Qb [QF (words m n)]=true:=by simp [Qb,Qd,QF]
 have hcl:(codeOf (words m n)).length=(words m n).length:=by unfold codeOf; rw [lM]
 have hr1:=fun {v6 i x} (hx:(codeOf (words m n))[i]?=some x) {fr σ} hJ=>Qxu hT hsl (L:=L) (a:=a) (b:=b) (e:=e) (v4:=v4) (v6:=v6) hs hf hbad (i:=i) (x:=x) hx (fr:=fr) (σ:=σ) hJ
 have hfl:=hf.len
 generalize words m n=ws at *
 have hWd2:=hWd
 have hRd2:=hRd
 have hn12:=hn1
 have hn22:=hn2
 simp only [dC,Q9,XP,inC,QaY,X5,QU,QF] at hWd2 hRd2 hn12 hn22
 refine Qh [(1,.ref (.agg (X5 m)) 0),(3,Qad L),(4,.ptr 1 v4 0),(5,.int .i64 ((n:Nat):Int))] ⟨f1,f3,f4,f5,trivial⟩  20 ?_
 simp -implicitDefEqProofs (disch:=omega) only [go_sem,↓reduceIte,reduceCtorEq,rA,rq,rL,hlt]
 iterate 3 (try (refine Qa 4 ?_; simp -implicitDefEqProofs (disch:=omega) only [go_sem,↓reduceIte,reduceCtorEq,rA,rq,rL,rT,Nat.reduceSub,Nat.reduceMul,Int.reduceToNat,Int.reduceLE,Int.reduceLT,Int.reduceEq,Int.reduceNe,Nat.reduceBEq,Nat.reduceBNe,Int.reduceBEq,Int.reduceBNe,hlt]))
 refine Qf hT ZB hWd2 hn12 4 ?_
 simp -implicitDefEqProofs (disch:=omega) only [go_sem,↓reduceIte,rq]
 refine Qf hT ZY hRd2 hn22 4 ?_
 simp -implicitDefEqProofs (disch:=omega) only [go_sem,↓reduceIte,rA,rq]
 iterate 4 (try (refine Qa 4 ?_; simp -implicitDefEqProofs (disch:=omega) only [go_sem,↓reduceIte,rq]))
 refine Xn (codeOf ws) (r1J m L a b e v4 t n s.2 ws) (r1E m L a b e v4 t n s.2 ws) ⟨t+1,by simp,?_⟩ (fun i x hx fr σ hJ=>hr1 hx hJ) (fun i hi fr σ hJ=>?_) (fun e' fr σ hE=>?_)
 ·simp -implicitDefEqProofs (disch:=omega) only [go_sem,↓reduceIte,rq]
  all_goals first | rfl | exact ⟨rfl,rfl⟩ | exact ⟨rfl,rfl,rfl⟩ | exact ⟨rfl,rfl,rfl,rfl⟩
 ·obtain ⟨t2,hfa,f1,f3,f4,f5,f6,f7,rfl⟩:=hJ
  rw [hi,hcl,List.drop_length] at hfa
  refine Qh [(1,.ref (.agg (X5 m)) 0),(3,Qad L),(4,.ptr 1 v4 0),(5,.int .i64 ((n:Nat):Int)),(6,.ptr 2 t 0),(7,.int .i64 ((i:Nat):Int))] ⟨f1,f3,f4,f5,f6,f7,trivial⟩ 20 ?_
  simp -implicitDefEqProofs (disch:=omega) only [go_sem,↓reduceIte,rA,rq,rL,hi,Nat.lt_irrefl]
  exact .inr ⟨t2,rfl,hfa,rfl,rfl,rfl,rfl,rfl⟩
 ·rcases hE with ⟨rfl,f2⟩ | ⟨t2,rfl,hfa,f1,f3,f4,f5,rfl⟩
  ·refine Qa 12 ?_
   simp -implicitDefEqProofs (disch:=omega) only [go_sem]
   exact .inl ⟨rfl,f2⟩
  ·refine Qa3 [(1,.ref (.agg (X5 m)) 0),(3,Qad L),(4,.ptr 1 v4 0),(5,.int .i64 ((n:Nat):Int))] ⟨f1,f3,f4,f5,trivial⟩ 12 ?_
   simp -implicitDefEqProofs (disch:=omega) only [go_sem,↓reduceIte,rq,e2]
   refine ⟨_,_,Shift.drop (o':=roH v4 a b e) (t':=t2) (take2 _ _ _) (lR _) (zL _),t2,hgood hfa,?_⟩
   simp -implicitDefEqProofs (disch:=omega) only [go_sem,↓reduceIte,rq]
   all_goals first | rfl | exact ⟨rfl,rfl⟩ | exact ⟨rfl,rfl,rfl⟩ | exact ⟨rfl,rfl,rfl,rfl⟩
end
section
attribute [local go_sem] nT lM aZ lR zA V.cells and_true beq_self_eq_true bne_self_eq_false QF Qz dC decide_false decide_true fC false_implies flt fnC ge_iff_le XP X5 inC Q9 Qw QkC QkB QkA Qkz QU true_implies
abbrev r3J (m:Im) (L:List Rg.Fn) (v4 v6 n:Nat) (c:List In):Nat→Fr→H→Prop:=fun j fr σ=>∃ t,Qg fr 1=.ref (.agg (X5 m)) 0∧Qg fr 3=.lst 5 (L.map fun f=>V.agg (fC f)) false∧Qg fr 9=.int .i64 ((n:Nat):Int)∧Qg fr 10=.ptr 2 v6 0∧Qg fr 11=.int .i64 ((j:Int) - 1)∧σ=⟨t,roF v4 0 0 0 v6 c⟩
abbrev r3E (m:Im) (L:List Rg.Fn) (v4 v6 n:Nat) (c:List In):AE→Fr→H→Prop:=fun e fr σ=>∃ t,e=.ex 6∧Qg fr 1=.ref (.agg (X5 m)) 0∧Qg fr 3=.lst 5 (L.map fun f=>V.agg (fC f)) false∧Qg fr 9=.int .i64 ((n:Nat):Int)∧σ=⟨t,roF v4 0 0 0 v6 c⟩
theorem Qxs (hT:Qk Tryz.prog tab) {m:Im} {L:List Rg.Fn} {v4 v6 n:Nat} {c:List In} {nm:List UInt8} {pl:Int} {K:List Int} (hd:Dec c) (hc:∀ x∈c,Zq x) (hcl:c.length≤1000) (hn:L[n]?=some ⟨nm,pl,c,frameC c,K⟩) {j:Nat} (hj:j<c.length+2) {fr:Fr} {σ:H} (hJ:r3J m L v4 v6 n c j fr σ) :
 W Tryz.prog G0 237 0 (.seq (zg QkC [167,168,169,170] (zw 171 .skip (.exit 6))) (.seq (.block 7 (zg QkB [174,175,176,177,178,179,180,181,182,183,184,185,186,187,188,189,190,191,192,193,194,195,196,197,198,199,200,201,202,203,204,205,206,207,208,209,210,211,212,213,214,215,216,217,218,219,220,221,222,223,224,225,226,227,228,229,230,231,232,233,234] (zw 235 (zg QkA [] .ret) .skip))) (.reg Qkz [172,173]))) fr σ (QbQ (fun fr σ=>∃ fr' σ',Shift G0 237 0 fr σ fr' σ'∧r3J m L v4 v6 n c (j+1) fr' σ') (r3E m L v4 v6 n c)):=by
 obtain ⟨t,f1,f3,f9,f10,f11,rfl⟩:=hJ
 have hlt:=(List.getElem?_eq_some_iff.1 hn).1
 have hF:=Qgl c
 obtain ⟨i,hi⟩:∃ i:Int,i=(j:Int) - 1:=⟨_,rfl⟩
 rw [← hi] at f11
 have hD:(L.map fun f=>V.agg (fC f)).getD n V.any=.agg (fnC nm pl c (frameC c) K):=by simp [List.getD_eq_getElem?_getD,hn]; rfl
 have h1:=Qry (G:=G0) hT nm pl (frameC c) c K i (by omega) hc (by omega)
 have h2:=Qwk hT c (frameC c) hd hF.1 i (by omega) hc (by omega)
 have hln:(next c (frameC c) i).length≤2:=Qkq c (frameC c) i
 have h3:=Qjd (P:=Tryz.prog) (G:=G0) hT (next c (frameC c) i) (next c (frameC c) i) (by omega) (by omega)
 rw [decide_eq_true rfl] at h3
 have h4:=QeT (P:=Tryz.prog) (G:=G0) hT nm pl (frameC c) c K i (by omega) (by omega)
 have h5:=Qrw (P:=Tryz.prog) (G:=G0) hT c (frameC c) hd hF.1 i (by omega) (by omega)
 have h6:=Qwo (P:=Tryz.prog) (G:=G0) hT nm pl (frameC c) c K i (by omega) hc (by omega)
 have h7:=Qwl (P:=Tryz.prog) (G:=G0) hT c (frameC c) hd i (by omega) hc (by omega)
 have n1:Qb [.agg (fnC nm pl c (frameC c) K),.int .i64 i]=true:=by simp [Qb,Qd,Qfl]
 have n2:Qb [.agg (dC c (frameC c)),.int .i64 i]=true:=by simp [Qb,Qd,Qja]
 have n3:Qb [Qz (next c (frameC c) i),Qz (next c (frameC c) i)]=true:=by simp [Qz,Qb,Qd]
 have w1:IntKind.i64.wrap (i+1)=((j+1:Nat):Int) - 1:=by rw [XA (by omega)]; omega
 have hle:decide (i≤(c.length:Int))=true:=decide_eq_true (by omega)
 have hle':(i≤(c.length:Int))=True:=eq_true (by omega)
 generalize next c (frameC c) i=N at *
 generalize ret c (frameC c) i=b1 at *
 generalize ends c i=b2 at *
 have hb1:(b1 != b1)=false:=by simp
 have hb2:(b2 != b2)=false:=by simp
 simp only [dC,Q9,XP,inC,fC,fnC,Qz] at hD h1 h2 h3 h4 h5 h6 h7 n1 n2 n3
 refine Qh [(1,.ref (.agg (X5 m)) 0),(3,.lst 5 (L.map fun f=>V.agg (fC f)) false),(9,.int .i64 ((n:Nat):Int)),(10,.ptr 2 v6 0),(11,.int .i64 i)] ⟨f1,f3,f9,f10,f11,trivial⟩  20 ?_
 simp -implicitDefEqProofs (disch:=omega) only [go_sem,↓reduceIte,reduceCtorEq,rA,rq,rL,hle',hlt,hD]
 iterate 4 (try (refine Qa 4 ?_; simp -implicitDefEqProofs (disch:=omega) only [go_sem,↓reduceIte,reduceCtorEq,rA,rq]))
 refine Qf hT YI h1 n1 4 ?_
 simp -implicitDefEqProofs (disch:=omega) only [go_sem,↓reduceIte,rq]
 refine Qf hT YT h2 n2 4 ?_
 simp -implicitDefEqProofs (disch:=omega) only [go_sem,↓reduceIte,rq]
 refine Qf hT YD h3 n3 4 ?_
 simp -implicitDefEqProofs (disch:=omega) only [go_sem,↓reduceIte,rA,rq]
 iterate 4 (try (refine Qa 4 ?_; simp -implicitDefEqProofs (disch:=omega) only [go_sem,↓reduceIte,reduceCtorEq,rA,rq,hlt,hD]))
 refine Qf hT QJ h4 n1 4 ?_
 simp -implicitDefEqProofs (disch:=omega) only [go_sem,↓reduceIte,rA,rq]
 refine Qf hT Q7 h5 n2 4 ?_
 simp -implicitDefEqProofs (disch:=omega) only [go_sem,↓reduceIte,rA,rq]
 iterate 4 (try (refine Qa 4 ?_; simp -implicitDefEqProofs (disch:=omega) only [go_sem,↓reduceIte,reduceCtorEq,rA,rq,hlt,hD]))
 refine Qf hT Zk h6 n1 4 ?_
 simp -implicitDefEqProofs (disch:=omega) only [go_sem,↓reduceIte,rA,rq]
 refine Qf hT YU h7 n2 4 ?_
 by_cases g0:i<0
 ·have g0':decide (0≤i)=false:=decide_eq_false (by omega)
  have g0'':(0≤i)=False:=eq_false (by omega)
  simp -implicitDefEqProofs (disch:=omega) only [go_sem,↓reduceIte,rA,rq]
  iterate 12 (try (refine Qa 4 ?_; simp -implicitDefEqProofs (disch:=omega) only [go_sem,↓reduceIte,rA,rq,g0'',w1]))
  exact ⟨_,_,Shift.refl _ _ _ _,t,rfl,rfl,rfl,rfl,rfl,rfl⟩
 have g0':decide (0≤i)=true:=decide_eq_true (by omega)
 have g0'':(0≤i)=True:=eq_true (by omega)
 by_cases g1:i<c.length
 ·obtain ⟨k,rfl⟩:∃ k:Nat,i=k:=⟨i.toNat,by omega⟩
  have g1':decide ((k:Int)<(c.length:Int))=true:=decide_eq_true (by omega)
  have g1'':((k:Int)<(c.length:Int))=True:=eq_true (by omega)
  have hlk:k<c.length:=by omega
  obtain ⟨x,hx⟩:∃ x,c[k]?=some x:=⟨_,List.getElem?_eq_getElem hlk⟩
  have hDk:=Xo hx
  simp only [inC] at hDk
  simp -implicitDefEqProofs (disch:=omega) only [go_sem,↓reduceIte,rA,rq]
  iterate 16 (try (refine Qa 4 ?_; simp -implicitDefEqProofs (disch:=omega) only [go_sem,↓reduceIte,reduceCtorEq,rA,rq,rL,hlt,hD,g0'',g1'',hlk,hDk,w1]))
  exact ⟨_,_,Shift.refl _ _ _ _,t,rfl,rfl,rfl,rfl,rfl,rfl⟩
 ·have g1':decide (i<(c.length:Int))=false:=decide_eq_false (by omega)
  have g1'':(i<(c.length:Int))=False:=eq_false (by omega)
  simp -implicitDefEqProofs (disch:=omega) only [go_sem,↓reduceIte,rA,rq]
  iterate 16 (try (refine Qa 4 ?_; simp -implicitDefEqProofs (disch:=omega) only [go_sem,↓reduceIte,rA,rq,rL,g0'',g1'',w1]))
  exact ⟨_,_,Shift.refl _ _ _ _,t,rfl,rfl,rfl,rfl,rfl,rfl⟩
end
section
attribute [local go_sem] nF nT cA lM nA aZ lR Nat.mul_one Nat.one_mul Nat.succ_ne_zero zA zL Nat.zero_mul Option.getD_none Option.getD_some Option.isSome_none Option.isSome_some V.cells and_true beq_self_eq_true bne_self_eq_false QF Qz dC decide_false decide_true fC false_implies flt fnC ge_iff_le XP gt_iff_lt X5 QaY inC Q9 Qq Qw not_false_eq_true not_true_eq_false Q0 QwT QwS Qmk Qmj Qmi Qmh Qmg QnM QqF QqE QqD QnL QwR QnK QnJ QnI QnH QkC QkB QkA Qkz QnG QqC QwQ QwP QwO QwN QsM QsL QsK QU true_and true_implies
theorem Qyl (c:List In) (F:Int):(Rg.cuts c F).length≤c.length:=by
 unfold Rg.cuts
 rw [lM]
 have:=List.length_filter_le (fun k:Nat=>decide (1<XB c F c.length (k:Int))) (List.range c.length)
 rw [List.length_range] at this
 exact this
abbrev r2J (m:Im) (L:List Rg.Fn) (v4:Nat):Nat→Fr→H→Prop:=fun n fr σ=>∃ t,Qg fr 1=.ref (.agg (X5 m)) 0∧Qg fr 3=.lst 5 (L.map fun f=>V.agg (fC f)) false∧Qg fr 9=.int .i64 ((n:Nat):Int)∧σ=⟨t,roH v4 0 0 0⟩
abbrev r2E:AE→Fr→H→Prop:=fun e _ _=>e=.ex 4
theorem Qxt (hT:Qk Tryz.prog tab) {m:Im} (hm:ImB m) (hr:right m=true) (hw:∀ w∈m.code,0≤w∧w<4294967296) (hl:m.code.length≤1000) (hsl:m.syms.length≤1000) {L:List Rg.Fn} {v4:Nat} {n:Nat} {s:List UInt8 × Int} (hs:m.syms[n]?=some s) (hn:L[n]?=some (Qox s.1 s.2 (words m n))) {fr:Fr} {σ:H} (hJ:r2J m L v4 n fr σ) :
 W Tryz.prog G0 237 0 (.seq (zg QnL [98,99,100] (zw 101 .skip (.exit 4))) (.seq (.block 5 (zg QnK [104,105,106,107] (.seq (zg QnJ [108,109,110,111,112,113,114,115,116,117,118,119,120,121,122,123,124,125,126,127,128,129,130,131,132,133,134,135,136,137,138,139,140,141,142,143,144,145,146,147,148,149,150,151,152,153,154,155,156,157,158,159,160,161,162,163,164,165] (zw 166 (zg QnI [] .ret) .skip)) (zg QnH [] (.block 6 (.loop (.seq (zg QkC [167,168,169,170] (zw 171 .skip (.exit 6))) (.seq (.block 7 (zg QkB [174,175,176,177,178,179,180,181,182,183,184,185,186,187,188,189,190,191,192,193,194,195,196,197,198,199,200,201,202,203,204,205,206,207,208,209,210,211,212,213,214,215,216,217,218,219,220,221,222,223,224,225,226,227,228,229,230,231,232,233,234] (zw 235 (zg QkA [] .ret) .skip))) (.reg Qkz [172,173]))))))))) (.reg QnG [102,103]))) fr σ (QbQ (fun fr σ=>∃ fr' σ',Shift G0 237 0 fr σ fr' σ'∧r2J m L v4 (n+1) fr' σ') r2E):=by
 obtain ⟨t,f1,f3,f9,rfl⟩:=hJ
 have hlt:=(List.getElem?_eq_some_iff.1 hn).1
 have hlts:=(List.getElem?_eq_some_iff.1 hs).1
 have e2:=ZT hlts (by omega)
 have hf:=wf_of hr hw hl hs
 have hDs:=QhY hs
 have hWd:=Qv9 hT m hm hr hl hs
 have hRd:=Qwj hT hf.wb (by have:=hf.len; omega) hf.pos
 have n1:Qb [QaY m,.int .i64 (n:Int)]=true:=by
  have:=Qbv m
  simp [Qb,Qd] at this ⊢
  exact this
 have n2:Qb [QF (words m n)]=true:=by simp [Qb,Qd,QF]
 have hcl:(codeOf (words m n)).length≤1000:=by unfold codeOf; rw [lM]; exact hf.len
 have hd:=hf.dec
 have hok:=hf.ok
 have hF:=Qgl (codeOf (words m n))
 have hCu:=QG0 hT (codeOf (words m n)) (frameC (codeOf (words m n))) hd hF.1 (by omega) hok
 have hfo:Qox s.1 s.2 (words m n)=⟨s.1,s.2,codeOf (words m n),frameC (codeOf (words m n)),Rg.cuts (codeOf (words m n)) (frameC (codeOf (words m n)))⟩:=rfl
 rw [hfo] at hn
 have hkl:=Qyl (codeOf (words m n)) (frameC (codeOf (words m n)))
 have hSa:=Qjd (P:=Tryz.prog) (G:=G0) hT (Rg.cuts (codeOf (words m n)) (frameC (codeOf (words m n)))) (Rg.cuts (codeOf (words m n)) (frameC (codeOf (words m n)))) (by omega) (by omega)
 rw [decide_eq_true rfl] at hSa
 generalize hc:codeOf (words m n)=c at *
 generalize words m n=ws at *
 have hr3:=fun {v6 j} (hj:j<c.length+2) {fr σ} hJ=>Qxs hT (m:=m) (L:=L) (v4:=v4) (v6:=v6) (n:=n) (c:=c) hd hok hcl hn (j:=j) hj (fr:=fr) (σ:=σ) hJ
 have n3:Qb [.agg (dC c (frameC c))]=true:=by simp [Qb,Qd,Qja]
 have n4:Qb [Qz (Rg.cuts c (frameC c)),Qz (Rg.cuts c (frameC c))]=true:=by simp [Qz,Qb,Qd]
 have hD:(L.map fun f=>V.agg (fC f)).getD n V.any=.agg (fnC s.1 s.2 c (frameC c) (Rg.cuts c (frameC c))):=by simp [List.getD_eq_getElem?_getD,hn]; rfl
 simp only [Qju] at hDs
 simp only [dC,Q9,XP,inC,fC,fnC,Qz,QaY,X5,QU,QF] at hD hWd hRd hCu hSa n1 n2 n3 n4
 refine Qh [(1,.ref (.agg (X5 m)) 0),(3,.lst 5 (L.map fun f=>V.agg (fC f)) false),(9,.int .i64 ((n:Nat):Int))] ⟨f1,f3,f9,trivial⟩  20 ?_
 simp -implicitDefEqProofs (disch:=omega) only [go_sem,↓reduceIte,reduceCtorEq,rA,rq,hlt]
 iterate 3 (try (refine Qa 4 ?_; simp -implicitDefEqProofs (disch:=omega) only [go_sem,↓reduceIte,reduceCtorEq,rA,rq,rL,rT,Nat.reduceSub,Nat.reduceMul,Int.reduceToNat,Int.reduceLE,Int.reduceLT,Int.reduceEq,Int.reduceNe,Nat.reduceBEq,Nat.reduceBNe,Int.reduceBEq,Int.reduceBNe,hlt]))
 refine Qf hT ZB hWd n1 4 ?_
 simp -implicitDefEqProofs (disch:=omega) only [go_sem,↓reduceIte,rq]
 refine Qf hT ZY hRd n2 4 ?_
 simp -implicitDefEqProofs (disch:=omega) only [go_sem,↓reduceIte,rA,rq]
 iterate 20 (try (refine Qa 4 ?_; simp -implicitDefEqProofs (disch:=omega) only [go_sem,↓reduceIte,reduceCtorEq,rA,rq,rL,hlt,hlts,hD,hDs]))
 refine Qf hT Qan hCu n3 4 ?_
 simp -implicitDefEqProofs (disch:=omega) only [go_sem,↓reduceIte,rA,rq]
 refine Qf hT YD hSa n4 4 ?_
 simp -implicitDefEqProofs (disch:=omega) only [go_sem,↓reduceIte,rA,rq]
 iterate 6 (try (refine Qa 4 ?_; simp -implicitDefEqProofs (disch:=omega) only [go_sem,↓reduceIte,rq]))
 refine Xn (List.range (c.length+2)) (r3J m L v4 t n c) (r3E m L v4 t n c) ⟨t+1,?_⟩ (fun j x hj fr σ hJ=>hr3 (by have:=(List.getElem?_eq_some_iff.1 hj).1; simpa using this) hJ) (fun j hj fr σ hJ=>?_) (fun e fr σ hE=>?_)
 ·simp -implicitDefEqProofs (disch:=omega) only [go_sem,↓reduceIte,rq]
  all_goals first | rfl | exact ⟨rfl,rfl⟩ | exact ⟨rfl,rfl,rfl⟩ | simp
 ·obtain ⟨t2,f1,f3,f9,f10,f11,rfl⟩:=hJ
  rw [List.length_range] at hj
  obtain ⟨i,hi⟩:∃ i:Int,i=(j:Int) - 1:=⟨_,rfl⟩
  rw [← hi] at f11
  have hle:decide (i≤(c.length:Int))=false:=decide_eq_false (by omega)
  have hle':(i≤(c.length:Int))=False:=eq_false (by omega)
  refine Qh [(1,.ref (.agg (X5 m)) 0),(3,.lst 5 (L.map fun f=>V.agg (fC f)) false),(9,.int .i64 ((n:Nat):Int)),(10,.ptr 2 t 0),(11,.int .i64 i)] ⟨f1,f3,f9,f10,f11,trivial⟩ 20 ?_
  simp -implicitDefEqProofs (disch:=omega) only [go_sem,↓reduceIte,rA,rq,rL,hle']
  exact ⟨t2,rfl,rfl,rfl,rfl,rfl⟩
 ·obtain ⟨t2,rfl,f1,f3,f9,rfl⟩:=hE
  refine Qa3 [(1,.ref (.agg (X5 m)) 0),(3,.lst 5 (L.map fun f=>V.agg (fC f)) false),(9,.int .i64 ((n:Nat):Int))] ⟨f1,f3,f9,trivial⟩ 12 ?_
  simp -implicitDefEqProofs (disch:=omega) only [go_sem,↓reduceIte,rq,e2]
  refine ⟨_,_,Shift.drop (o':=roH v4 0 0 0) (t':=t2) (take2 _ _ _) (lR _) (zL _),t2,?_⟩
  simp -implicitDefEqProofs (disch:=omega) only [go_sem,↓reduceIte,rq]
  all_goals first | rfl | exact ⟨rfl,rfl⟩ | exact ⟨rfl,rfl,rfl⟩
end
section
attribute [local go_sem] nF nT cA lM nA lR zA zL V.cells and_true beq_self_eq_true QF Qz decide_false decide_true fC false_implies flt fnC gt_iff_lt X5 QaY inC Q9 Q0 QwT QwS Qmk Qmj Qmi Qmh Qmg QnM QqF QqE QqD QnL QwR QnK QnJ QnI QnH QkC QkB QkA Qkz QnG QqC QwQ QwP QwO QwN QsM QsL QsK QU true_and true_implies
theorem QhQ (hT:Qk Tryz.prog tab) (m:Im) (hsn:∀ s∈m.syms,s.1.length≤9223372036854775807) (hw:∀ w∈m.code,0≤w∧w<4294967296) :
 Am.Pure Tryz.prog G0 YV [QaY m] fun v=>v=.bool true:=by
 have hWk:=QlH hT
 have hin:=Qbv m
 intro t
 refine Qp 0 (zL _) (Qt hT Qy (by simp [Q0]) (Qn 5 ?_))
 simp -implicitDefEqProofs (disch:=omega) only [go_sem,↓reduceIte,reduceCtorEq,rq]
 refine Q8 (Shift.freeze (k:=0) (v:=t) (T:=25) (cs:=X5 m) (zL _) rfl (QiU m)) ?_
 simp only [X5,QU,QF,YG,Zd,QiX,Qaa,Xt,List.set_cons_zero,Option.map_none]
 refine Qa 8 ?_
 by_cases g1:150<m.code.length
 ·have g1':decide ((150:Int)<(m.code.length:Int))=true:=decide_eq_true (by omega)
  have g1'':((150:Int)<(m.code.length:Int))=True:=eq_true (by omega)
  simp -implicitDefEqProofs (disch:=omega) only [go_sem,↓reduceIte,reduceCtorEq,rA,rq,g1'']
  iterate 6 (try (refine Qa 8 ?_; simp -implicitDefEqProofs (disch:=omega) only [go_sem,↓reduceIte,reduceCtorEq,rq]))
  refine Qf hT Qm hWk rfl 8 ?_
  simp -implicitDefEqProofs (disch:=omega) only [go_sem,↓reduceIte,reduceCtorEq,rq]
 have g1':decide ((150:Int)<(m.code.length:Int))=false:=decide_eq_false (by omega)
 have g1'':((150:Int)<(m.code.length:Int))=False:=eq_false (by omega)
 by_cases g2:20<m.syms.length
 ·have g2':decide ((20:Int)<(m.syms.length:Int))=true:=decide_eq_true (by omega)
  have g2'':((20:Int)<(m.syms.length:Int))=True:=eq_true (by omega)
  simp -implicitDefEqProofs (disch:=omega) only [go_sem,↓reduceIte,reduceCtorEq,rA,rq,g1'']
  iterate 6 (try (refine Qa 8 ?_; simp -implicitDefEqProofs (disch:=omega) only [go_sem,↓reduceIte,reduceCtorEq,rA,rq,rL,g2'']))
  refine Qf hT Qm hWk rfl 8 ?_
  simp -implicitDefEqProofs (disch:=omega) only [go_sem,↓reduceIte,reduceCtorEq,rq]
 have g2':decide ((20:Int)<(m.syms.length:Int))=false:=decide_eq_false (by omega)
 have g2'':((20:Int)<(m.syms.length:Int))=False:=eq_false (by omega)
 have hm:ImB m:=⟨by omega,by omega,hsn⟩
 have hO:=c_Of hT m hm hw (by omega)
 have hRt:=Qje (P:=Tryz.prog) (G:=G0) hT m hm
 obtain ⟨L,a,b,e,hv,hto⟩:∃ L a b e,ofV (ofS m)=.tup [Qad L,.agg (flt ((a:Nat):Int) ((b:Nat):Int) e)]∧Told m L a b e:=by
  cases h:ofS m with
  | inl r=>exact ⟨r,0,0,0,rfl,.inl ⟨h,rfl,rfl,rfl⟩⟩
  | inr q=>obtain ⟨a,b,e⟩:=q; exact ⟨[],a,b,e,rfl,.inr ⟨h,rfl⟩⟩
 rw [hv] at hO
 have h01:(([]:List Rg.Fn).length:Int)=0:=rfl
 simp only [QaY,X5,QU,QF,flt] at hO hRt hin
 simp -implicitDefEqProofs (disch:=omega) only [go_sem,↓reduceIte,reduceCtorEq,rA,rq,g1'']
 iterate 6 (try (refine Qa 8 ?_; simp -implicitDefEqProofs (disch:=omega) only [go_sem,↓reduceIte,reduceCtorEq,rA,rq,rL,g2'']))
 refine Qf hT QbN hO hin 8 ?_
 simp -implicitDefEqProofs (disch:=omega) only [go_sem,↓reduceIte,reduceCtorEq,rA,rq,rT]
 iterate 2 (try (refine Qa 8 ?_; simp -implicitDefEqProofs (disch:=omega) only [go_sem,↓reduceIte,reduceCtorEq,rA,rq]))
 refine Qf hT QcG hRt hin 4 ?_
 cases hr:right m with
 | false =>
   have hof:ofS m=.inr (0,0,2):=by unfold ofS; rw [hr]; rfl
   obtain ⟨rfl,rfl,rfl,rfl⟩:L=[]∧a=0∧b=0∧e=2:=by
    rcases hto with ⟨h1,_⟩ | ⟨h1,h2⟩
    ·rw [hof] at h1; cases h1
    ·rw [hof] at h1
     simp only [Sum.inr.injEq,Prod.mk.injEq] at h1
     exact ⟨h2,h1.1.symm,h1.2.1.symm,h1.2.2.symm⟩
   have z0:((0:Nat):Int)=0:=rfl
   simp only [Qad,List.map_nil]
   simp -implicitDefEqProofs (disch:=omega) only [go_sem,↓reduceIte,reduceCtorEq,rq,z0]
   iterate 6 (try (refine Qa 8 ?_; simp -implicitDefEqProofs (disch:=omega) only [go_sem,↓reduceIte,reduceCtorEq,rA,rq,z0,lN]))
   refine Qf hT Qm hWk rfl 8 ?_
   simp -implicitDefEqProofs (disch:=omega) only [go_sem,↓reduceIte,reduceCtorEq,rA,rq]
 | true =>
   simp -implicitDefEqProofs (disch:=omega) only [go_sem,↓reduceIte,reduceCtorEq,rq]
   iterate 2 (try (refine Qa 8 ?_; simp -implicitDefEqProofs (disch:=omega) only [go_sem,↓reduceIte,reduceCtorEq,rq]))
   refine Xn m.syms (r0J m L a b e (t+1)) (r0E m L a b e (t+1)) ⟨t+1+1,⟨[],by unfold ofS; rw [hr,if_pos rfl,List.drop_zero]; cases readAll m 0 m.syms <;> rfl⟩,?_⟩ (fun n s hs fr σ hJ=>Qxv hT hm hr hw (by omega) (by omega) hto hs hJ) (fun n hn fr σ hJ=>?_) (fun e' fr σ hE=>?_)
   ·simp -implicitDefEqProofs (disch:=omega) only [go_sem,↓reduceIte,reduceCtorEq,rq]
    all_goals first | rfl | exact ⟨rfl,rfl⟩ | exact ⟨rfl,rfl,rfl⟩
   ·obtain ⟨t2,⟨r0,hof⟩,f1,f3,f4,f5,rfl⟩:=hJ
    rw [hn,List.drop_length] at hof
    refine Qh [(1,.ref (.agg (X5 m)) 0),(3,Qad L),(4,.ptr 1 (t+1) 0),(5,.int .i64 ((n:Nat):Int))] ⟨f1,f3,f4,f5,trivial⟩ 20 ?_
    simp -implicitDefEqProofs (disch:=omega) only [go_sem,↓reduceIte,rA,rq,rL,hn,Nat.lt_irrefl]
    exact .inr ⟨t2,rfl,⟨r0,by rw [hof]; simp [readAll,Qll]⟩,rfl,rfl,rfl,rfl⟩
   ·rcases hE with ⟨rfl,f2⟩ | ⟨t2,rfl,⟨r0,hof⟩,f1,f3,f4,rfl⟩
    ·refine Qa 12 ?_
     simp -implicitDefEqProofs (disch:=omega) only [go_sem,f2]
    ·obtain ⟨hL,rfl,rfl,rfl⟩:ofS m=.inl L∧a=0∧b=0∧e=0:=by
      rcases hto with h | ⟨h1,h2⟩
      ·exact h
      ·rw [hof] at h1; cases h1
     obtain ⟨_,hlen,hg⟩:=Qev hL
     have hLn:∀ (n:Nat) (s:List UInt8 × Int),m.syms[n]?=some s→L[n]?=some (Qox s.1 s.2 (words m n)):=fun n s hs=>by
      have hlt:=(List.getElem?_eq_some_iff.1 hs).1
      obtain ⟨f,hf⟩:∃ f,L[n]?=some f:=⟨_,List.getElem?_eq_getElem (by omega)⟩
      obtain ⟨s',hs',he,_⟩:=hg n f hf
      rw [hs] at hs'; injection hs' with hs'; subst hs'
      rw [hf,he]
     have z0:((0:Nat):Int)=0:=rfl
     have hl':((L.length:Int) != (m.syms.length:Int))=false:=by simp [hlen]
     have hl'':((L.length:Int)=(m.syms.length:Int))=True:=eq_true (by omega)
     refine YE [(1,.ref (.agg (X5 m)) 0),(3,Qad L),(4,.ptr 1 (t+1) 0)] ⟨f1,f3,f4,trivial⟩ 12 ?_
     simp -implicitDefEqProofs (disch:=omega) only [go_sem,↓reduceIte,reduceCtorEq,rA,rq,rL,Qad,z0]
     iterate 8 (try (refine Qa 4 ?_; simp -implicitDefEqProofs (disch:=omega) only [go_sem,↓reduceIte,rA,rq,hl']))
     refine Xn m.syms (r2J m L (t+1)) r2E ⟨t2,?_⟩ (fun n s hs fr σ hJ=>Qxt hT hm hr hw (by omega) (by omega) hs (hLn n s hs) hJ) (fun n hn fr σ hJ=>?_) (fun e' fr σ hE=>?_)
     ·simp -implicitDefEqProofs (disch:=omega) only [go_sem,↓reduceIte,rq]
      all_goals first | rfl | exact ⟨rfl,rfl⟩ | exact ⟨rfl,rfl,rfl⟩ | exact ⟨rfl,rfl,rfl,rfl⟩
     ·obtain ⟨t3,f1,f3,f9,rfl⟩:=hJ
      refine Qh [(1,.ref (.agg (X5 m)) 0),(3,.lst 5 (L.map fun f=>V.agg (fC f)) false),(9,.int .i64 ((n:Nat):Int))] ⟨f1,f3,f9,trivial⟩ 20 ?_
      have hnl:n=L.length:=by omega
      simp -implicitDefEqProofs (disch:=omega) only [go_sem,↓reduceIte,rq,hnl,Nat.lt_irrefl]
     ·subst hE
      refine Qa 12 ?_
      simp -implicitDefEqProofs (disch:=omega) only [go_sem,↓reduceIte]
      refine Qf hT Qm hWk rfl 8 ?_
      simp -implicitDefEqProofs (disch:=omega) only [go_sem,↓reduceIte,rq]
end
variable {P:Program} {G:Nat→Option V}
section
attribute [local go_sem] lR Nat.succ_ne_zero zA V.cells Qz decide_false decide_true fC fnC Q9 Qw Zb QEo QEn Qx zqz_0 zqz_1 zqz_2 zqz_3 zqz_4 zqz_5 zqz_6 zqz_7
def fV (f:Rg.Fn):V:=.agg (fC f)
variable {o:List (Option Ob)} {base t w k:Nat}
theorem QG3 (hT:Qk P tab) {f:V} {p:Nat→Bool} {l:List Rg.Fn} {tg:Bool} (Inv:Nat→H→Prop) (End:H→Prop) (hl:l.length≤9223372036854775807)
 (hp:∀ i a,l[i]?=some a→∀ σ,Inv i σ→CV P G base f [fV a] σ fun v σ'=>v=.bool (p i)∧(p i=false→Inv (i+1) σ')∧(p i=true→End σ')) (h0:Inv 0 ⟨t,o⟩) :
 C P G base Q3 [.lst 5 (l.map fV) tg,f] ⟨t,o⟩ fun v σ=>(∃ i,i<l.length∧(∀ j,j<i→p j=false)∧p i=true∧v=.int .i64 ((i:Nat):Int)∧End σ)∨((∀ j,j<l.length→p j=false)∧v=.int .i64 (-1)∧Inv l.length σ):=by
 refine Qt hT XM (by simp [Qx]) (Qn 1000 ?_)
 simp -implicitDefEqProofs (disch:=omega) only [go_sem,↓reduceIte,reduceCtorEq,rq,lM]
 refine QcH (fun m fr σ=>∃ i,i≤l.length∧m=l.length - i∧(∀ j,j<i→p j=false)∧Qg fr 0=.lst 5 (l.map fV) tg∧Qg fr 1=f∧Qg fr 7=.int .i64 l.length∧Qg fr 8=.int .i64 i∧Inv i σ)
  (fun e fr σ=>(e=.ret∧∃ i,i<l.length∧(∀ j,j<i→p j=false)∧p i=true∧Qg fr 4=.int .i64 ((i:Nat):Int)∧End σ)∨(e=.ex 0∧(∀ j,j<l.length→p j=false)∧Inv l.length σ))
  (m0:=l.length) ⟨0,by omega,rfl,(fun j h=>absurd h (Nat.not_lt_zero j)),?_⟩ (fun m fr σ hJ=>?_) (fun e fr σ hE=>?_)
 ·simp -implicitDefEqProofs (disch:=omega) only [go_sem,↓reduceIte,reduceCtorEq,rq]
  simpa using h0
 ·obtain ⟨i,hi,rfl,hno,h0',h1',h7',h8',hI⟩:=hJ
  refine Qn 1000 ?_
  rcases Nat.lt_or_ge i l.length with hlt | hge
  ·obtain ⟨x,hx⟩:∃ x,l[i]?=some x:=⟨_,List.getElem?_eq_getElem hlt⟩
   have hD:(l.map fV).getD i V.any=fV x:=by simp [List.getD_eq_getElem?_getD,hx]
   have e2:=ZT hlt hl
   simp -implicitDefEqProofs (disch:=omega) only [go_sem,↓reduceIte,reduceCtorEq,rA,rq,lM,fV,inC,lC,lN,h0',h1',h7',h8',hlt,hD]
   refine CV.use 1000 (hp i x hx σ hI) fun v σ hv=>?_
   obtain ⟨rfl,hv⟩:=hv
   cases hpn:p i with
   | true =>
     simp -implicitDefEqProofs (disch:=omega) only [go_sem,↓reduceIte,reduceCtorEq,rq]
     exact ⟨i,hlt,hno,hpn,rfl,hv.2 hpn⟩
   | false =>
     simp -implicitDefEqProofs (disch:=omega) only [go_sem,↓reduceIte,rq,h8']
     refine ⟨l.length - (i+1),_,_,by omega,Shift.refl _ _ _ _,i+1,by omega,rfl,fun j hj=>?_,?_⟩
     ·rcases Nat.lt_or_ge j i with h | h
      ·exact hno j h
      ·rw [show j=i by omega]; exact hpn
     ·simp -implicitDefEqProofs (disch:=omega) only [go_sem,↓reduceIte,reduceCtorEq,rq,h0',h1',h7',e2]
      exact hv.1 hpn
  ·have hi:i=l.length:=by omega
   subst hi
   simp -implicitDefEqProofs (disch:=omega) only [go_sem,↓reduceIte,reduceCtorEq,rq,h7',h8',Nat.lt_irrefl]
   exact ⟨hno,hI⟩
 ·rcases hE with ⟨rfl,i,hlt,hno,hpi,f4,hEn⟩ | ⟨rfl,hno,hI⟩
  ·refine Qa 1000 ?_
   simp -implicitDefEqProofs (disch:=omega) only [go_sem,f4]
   exact .inl ⟨i,hlt,hno,hpi,rfl,hEn⟩
  ·refine Qa 1000 ?_
   simp -implicitDefEqProofs (disch:=omega) only [go_sem,↓reduceIte]
   exact .inr ⟨hno,hI⟩
variable {at_:Int}
theorem Qsm (hT:Qk P tab) {T:Nat} (ho:o[k]?=some (some (.arr w T [.int .i64 at_]))) (hb:base≤o.length) (f:Rg.Fn) :
 C P G base Zn [fV f,.ptr k w 0] ⟨t,o⟩ fun v σ=>v=.bool (decide (f.pl=at_))∧∃ t',t≤t'∧σ=⟨t',o⟩:=by
 have hk:=(List.getElem?_eq_some_iff.1 ho).1
 have h1:∀ X,(o++[X])[k]?=some (some (.arr w T [.int .i64 at_])):=fun X=>by rw [List.getElem?_append_left hk]; exact ho
 have h2:∀ X,(o++[X])[o.length]?=some X:=fun X=>List.getElem?_concat_length
 have h3:∀ X:Option Ob,List.take o.length (o++[X])=o:=fun X=>by simp
 refine Qp o.length hb (Qt hT QcX (by simp [Zb]) (Qn 20 ?_))
 simp -implicitDefEqProofs (disch:=omega) only [go_sem,↓reduceIte,reduceCtorEq,rA,rq,rL,fV,h1,h2]
 refine ⟨by simp,by rw [QlT],t+1,Nat.le_succ t,by simp [h3]⟩
theorem c_find (hT:Qk P tab) {T:Nat} (ho:o[k]?=some (some (.arr w T [.int .i64 at_]))) (hb:base≤o.length) (l:List Rg.Fn) (hl:l.length≤1000) :
 C P G base Q3 [.lst 5 (l.map fV) false,.fn (.func Zn) [] [.ptr k w 0]] ⟨t,o⟩ fun v σ=>v=.int .i64 (match l.findIdx? fun f=>decide (f.pl=at_) with | some i=>(i:Int) | none=>-1)∧∃ t',t≤t'∧σ=⟨t',o⟩:=by
 have hI:=QG3 (P:=P) (G:=G) hT (base:=base) (t:=t) (o:=o) (f:=.fn (.func Zn) [] [.ptr k w 0]) (p:=fun i=>match l[i]? with | some s=>decide (s.pl=at_) | none=>false) (l:=l) (tg:=false)
  (fun _ σ=>∃ t',t≤t'∧σ=⟨t',o⟩) (fun σ=>∃ t',t≤t'∧σ=⟨t',o⟩) (by omega) (fun i s hs σ hI=>?_) ⟨t,lR _,rfl⟩
 ·refine hI.conseq fun v σ hv=>?_
  rcases hv with ⟨i,hlt,hno,hpi,rfl,h⟩ | ⟨hno,rfl,h⟩
  ·refine ⟨?_,h⟩
   have:l.findIdx? (fun f=>decide (f.pl=at_))=some i:=by
    rw [List.findIdx?_eq_some_iff_getElem]
    refine ⟨hlt,?_,fun j hj=>?_⟩
    ·simpa [List.getElem?_eq_getElem hlt] using hpi
    ·have:=hno j hj
     simpa [List.getElem?_eq_getElem (show j<l.length by omega)] using this
   rw [this]
  ·refine ⟨?_,h⟩
   have:l.findIdx? (fun f=>decide (f.pl=at_))=none:=by
    rw [List.findIdx?_eq_none_iff]
    intro x hx
    obtain ⟨j,hj,e⟩:=List.mem_iff_getElem.1 hx
    have:=hno j hj
    rw [List.getElem?_eq_getElem hj,e] at this
    exact this
   rw [this]
 ·obtain ⟨t1,ht1,rfl⟩:=hI
  refine CV.of hT QcX ((Qsm (P:=P) (G:=G) hT ho hb s).conseq fun v σ hv=>?_)
  obtain ⟨rfl,t2,ht2,rfl⟩:=hv
  simp only [hs]
  exact ⟨trivial,fun _=>⟨t2,by omega,rfl⟩,fun _=>⟨t2,by omega,rfl⟩⟩
end
end Go.Proofs.YtaidbdgndljaeaaGreatDoor
namespace Go.Proofs.YtaidbdgndljaeaaGreatDoor
open Go Go.Am Go.Rv Go.Rg
set_option maxRecDepth 100000
set_option maxHeartbeats 4000000
section
attribute [local go_sem] nF cA lM nA aZ lR zA zL V.cells and_true Qz decide_false decide_true fC fnC ge_iff_le inC Q9 Qw Qay zqe_0 zqe_1 zqe_2 zqe_3 zqe_4 zqe_5 zqe_6 zqe_7 true_and true_implies
def Qqi (r:List Rg.Fn) (f:Rg.Fn) (i:Int):Option Nat :=
 match nth f.code i with
 | none=>none
 | some x=>if x.op=3∧x.rd=1 then r.findIdx? fun g=>decide (g.pl=f.pl+4 * i+x.imm) else none
def Qyq:Option Nat→V
 | none=>.tup [.int .i64 0,.bool false]
 | some k=>.tup [.int .i64 ((k:Nat):Int),.bool true]
structure FnB (f:Rg.Fn):Prop where
 len:f.code.length≤1000
 pl:0≤f.pl∧f.pl≤4000
 imm:∀ x∈f.code,-8589934592≤x.imm∧x.imm≤8589934592
variable {f:Rg.Fn} {n:Nat} {r:List Rg.Fn} {m:Im}
theorem fnB_of (h:ofS m=.inl r) (hw:∀ w∈m.code,0≤w∧w<4294967296) (hl:m.code.length≤1000) (hn:r[n]?=some f):FnB f:=by
 obtain ⟨hr,hlen,hg⟩:=Qev h
 obtain ⟨s,hs,rfl,hgd⟩:=hg n f hn
 obtain ⟨a,b,_,_,hab,hbl,es,ew⟩:=(QgU hr).bounds hs
 have hwl:(words m n).length=b - a:=by rw [ew]; simp; omega
 have hcl:(codeOf (words m n)).length=b - a:=by simp [codeOf,hwl]
 have hwb:∀ w∈words m n,0≤w∧w<4294967296:=fun w h=>by
  rw [ew] at h
  exact hw w (List.mem_of_mem_drop (List.mem_of_mem_take h))
 refine ⟨by show (codeOf (words m n)).length≤_; omega,by show 0≤s.2∧s.2≤4000; omega,fun x hx=>?_⟩
 obtain ⟨w,hw,rfl⟩:=List.mem_map.1 hx
 cases hd:dec w with
 | none=>simp [zeroI]
 | some y=>exact (QlA (hwb w hw).1 hd).2
theorem pls_of (h:ofS m=.inl r):r.map (·.pl)=ats m:=by
 obtain ⟨hr,hlen,hg⟩:=Qev h
 unfold ats
 apply List.ext_getElem?
 intro n
 rw [List.getElem?_map,List.getElem?_map]
 rcases Nat.lt_or_ge n r.length with hlt | hge
 ·obtain ⟨f,hf⟩:∃ f,r[n]?=some f:=⟨_,List.getElem?_eq_getElem hlt⟩
  obtain ⟨s,hs,rfl,_⟩:=hg n f hf
  rw [hf,hs]; rfl
 ·rw [List.getElem?_eq_none hge,List.getElem?_eq_none (by omega)]; rfl
theorem Qv8 (h:ofS m=.inl r) (hn:r[n]?=some f) {i:Nat} {x:In} (hx:f.code[i]?=some x) (hc:x.op=3∧x.rd=1):∃ k g,Qqi r f i=some k∧r[k]?=some g∧g.pl=f.pl+4 * i+x.imm:=by
 obtain ⟨hr,hlen,hg⟩:=Qev h
 obtain ⟨s,hs,he,hgd,_⟩:=hg n f hn
 have hp:f.pl=s.2:=by rw [he]; rfl
 have hm:=hgd.called hx hc
 rw [← hp,← pls_of h] at hm
 obtain ⟨g,hgm,hge⟩:=List.mem_map.1 hm
 unfold Qqi
 rw [Z2,hx]
 simp only [hc,and_self,if_true]
 cases hi:r.findIdx? fun g=>decide (g.pl=f.pl+4 * (i:Int)+x.imm) with
 | none =>
   rw [List.findIdx?_eq_none_iff] at hi
   have:=hi g hgm
   simp [hge] at this
 | some k =>
   obtain ⟨hlt,hk,_⟩:=List.findIdx?_eq_some_iff_getElem.1 hi
   exact ⟨k,_,rfl,List.getElem?_eq_getElem hlt,by simpa using hk⟩
theorem QyE (hT:Qk Tryz.prog tab) (r:List Rg.Fn) (hr:r.length≤1000) (f:Rg.Fn) (hf:FnB f) (i:Int) (hi:-9≤i∧i≤2000):Am.Pure Tryz.prog G0 Qfg [Qad r,.agg (fC f),.int .i64 i] fun v=>v=Qyq (Qqi r f i):=by
 have hnl:Qb (fC f)=true:=Qfl
 have hl:=hf.len
 have hpl:=hf.pl
 intro t
 refine Qp 0 (zL _) (Qt hT Qe8 (by simp [Qay]) (Qn 6 ?_))
 simp -implicitDefEqProofs (disch:=omega) only [go_sem,↓reduceIte,reduceCtorEq,rA,rq,Qad]
 refine Q8 (Shift.freeze (k:=0) (v:=t) (T:=37) (cs:=fC f) (zL _) rfl hnl) ?_
 simp only [fC,fnC,Q9,Qz,inC,YG,Zd,QiX,Qaa,Xt,List.set_cons_zero,Option.map_none]
 refine Qa 12 ?_
 by_cases h0:i<0
 ·have h0':decide (i<0)=true:=decide_eq_true h0
  have hc:Qqi r f i=none:=by unfold Qqi nth; rw [if_pos h0]
  rw [hc]
  simp -implicitDefEqProofs (disch:=omega) only [go_sem,↓reduceIte,reduceCtorEq,rq,h0]
  iterate 9 (try (refine Qa 4 ?_; simp -implicitDefEqProofs (disch:=omega) only [go_sem,↓reduceIte,reduceCtorEq,rq]))
  try simp [Qyq]
 have h0':decide (i<0)=false:=decide_eq_false h0
 obtain ⟨k,rfl⟩:∃ k:Nat,i=k:=⟨i.toNat,by omega⟩
 by_cases h1:f.code.length≤k
 ·have h1':decide ((f.code.length:Int)≤(k:Int))=true:=decide_eq_true (by omega)
  have hc:Qqi r f k=none:=by unfold Qqi; rw [Z2,List.getElem?_eq_none h1]
  rw [hc]
  simp -implicitDefEqProofs (disch:=omega) only [go_sem,↓reduceIte,reduceCtorEq,rA,rq,rL,h0]
  iterate 9 (try (refine Qa 4 ?_; simp -implicitDefEqProofs (disch:=omega) only [go_sem,↓reduceIte,reduceCtorEq,rq,h1]))
  try simp [Qyq]
 have h1':decide ((f.code.length:Int)≤(k:Int))=false:=decide_eq_false (by omega)
 have h1'':¬ (f.code.length:Int)≤(k:Int):=by omega
 have hlt:k<f.code.length:=by omega
 obtain ⟨x,hx⟩:∃ x,f.code[k]?=some x:=⟨_,List.getElem?_eq_getElem hlt⟩
 have hD:=Xo hx
 simp only [inC] at hD
 have hcal:Qqi r f k=if x.op=3∧x.rd=1 then r.findIdx? fun g=>decide (g.pl=f.pl+4 * (k:Int)+x.imm) else none:=by unfold Qqi; rw [Z2,hx]
 by_cases h3:x.op=3
 ·have h3':(x.op != 3)=false:=by simp [h3]
  by_cases h4:x.rd=1
  ·have h4':(x.rd != 1)=false:=by simp [h4]
   rw [if_pos ⟨h3,h4⟩] at hcal
   have hxb:=hf.imm x (List.mem_of_getElem? hx)
   have w1:IntKind.i64.wrap (4 * (k:Int))=4 * (k:Int):=XA (by omega)
   have w2:IntKind.i64.wrap (f.pl+4 * (k:Int))=f.pl+4 * (k:Int):=XA (by omega)
   have w3:IntKind.i64.wrap (f.pl+4 * (k:Int)+x.imm)=f.pl+4 * (k:Int)+x.imm:=XA (by omega)
   have hF:=c_find (P:=Tryz.prog) (G:=G0) hT (base:=0) (t:=t+1+1) (w:=t+1) (T:=2) (k:=1) (o:=[none,some (.arr (t+1) 2 [.int .i64 (f.pl+4 * (k:Int)+x.imm)])]) (at_:=f.pl+4 * (k:Int)+x.imm) rfl (zL _) r hr
   have hFl:=@List.findIdx?_eq_some_iff_getElem _ r (fun g=>decide (g.pl=f.pl+4 * (k:Int)+x.imm))
   rw [← hcal] at hF hFl
   generalize Qqi r f k=c at *
   have hfv:fV=fun f=>V.agg (fC f):=rfl
   simp only [hfv,fC,fnC,Q9,Qz,inC] at hF
   simp -implicitDefEqProofs (disch:=omega) only [go_sem,↓reduceIte,reduceCtorEq,rA,rq,rL,h0]
   iterate 16 (try (refine Qa 4 ?_; simp -implicitDefEqProofs (disch:=omega) only [go_sem,↓reduceIte,reduceCtorEq,rA,rq,rL,h1,hD,hlt,h3',h4',w1,w2,w3]))
   refine call hT XM hF 4 fun v σ hv=>?_
   obtain ⟨rfl,t',ht,rfl⟩:=hv
   cases c with
   | none =>
     simp -implicitDefEqProofs (disch:=omega) only [go_sem,↓reduceIte,reduceCtorEq,rq]
     iterate 4 (try (refine Qa 4 ?_; simp -implicitDefEqProofs (disch:=omega) only [go_sem,↓reduceIte,reduceCtorEq,rA,rq,Int.reduceLT]))
     try simp [Qyq]
   | some j =>
     have hj:¬ ((j:Int)<0):=by omega
     have hj':decide ((j:Int)<0)=false:=decide_eq_false hj
     simp -implicitDefEqProofs (disch:=omega) only [go_sem,↓reduceIte,reduceCtorEq,rq]
     iterate 4 (try (refine Qa 4 ?_; simp -implicitDefEqProofs (disch:=omega) only [go_sem,↓reduceIte,reduceCtorEq,rA,rq,hj]))
     try simp [Qyq]
  ·have h4':(x.rd != 1)=true:=by simp [h4]
   rw [if_neg fun h=>h4 h.2] at hcal
   rw [hcal]
   simp -implicitDefEqProofs (disch:=omega) only [go_sem,↓reduceIte,reduceCtorEq,rA,rq,rL,h0]
   iterate 9 (try (refine Qa 4 ?_; simp -implicitDefEqProofs (disch:=omega) only [go_sem,↓reduceIte,reduceCtorEq,rA,rq,rL,h1,hD,hlt,h3',h4']))
   try simp [Qyq]
 ·have h3':(x.op != 3)=true:=by simp [h3]
  rw [if_neg fun h=>h3 h.1] at hcal
  rw [hcal]
  simp -implicitDefEqProofs (disch:=omega) only [go_sem,↓reduceIte,reduceCtorEq,rA,rq,rL,h0]
  iterate 9 (try (refine Qa 4 ?_; simp -implicitDefEqProofs (disch:=omega) only [go_sem,↓reduceIte,reduceCtorEq,rA,rq,rL,h1,hD,hlt,h3']))
  try simp [Qyq]
end
end Go.Proofs.YtaidbdgndljaeaaGreatDoor
