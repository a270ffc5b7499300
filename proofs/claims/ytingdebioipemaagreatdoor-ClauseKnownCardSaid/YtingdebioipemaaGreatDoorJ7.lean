/- Contracts: a formula read, line by line. -/
import Derived.Test.YtingdebioipemaaGreatDoorJ6
import Derived.Test.YtingdebioipemaaGreatDoorJ3
open Nat renaming reduceEqDiff → rq, reduceAdd → rA, reduceLeDiff → rL, reduceLT → rT, zero_add → zA, le_refl → lR, zero_le → zL, add_zero → aZ
open List renaming length_cons → lC, length_nil → lN, take_succ_cons → tS, length_append → lAq, nil_append → nAq, cons_append → cAq, append_assoc → aA, take_nil → tN, take_zero → tZ, length_map → lM
open Bool renaming not_false → nFq, not_true → nT
namespace Go.Proofs.YtingdebioipemaaGreatDoor
open Go Go.Am Go.Cl Go.Ct
set_option maxRecDepth 100000
variable {G:Nat→Option V}
section
attribute [local go_sem] nFq nT lM lR Nat.mul_one Nat.one_mul zA zL and_true beq_self_eq_true QnE QnD Qhu Qht Qhs Qhr Qhq Qhp Qho QnC QnB QnA Qnz QtF QtE decide_false decide_true false_implies gt_iff_lt Qt not_false_eq_true true_and true_implies
def trw (c:List Int):V:=.lst 1 (ints c) true
def gO (v0 v1 w:Nat) (va:Int):List (List Int)→List (Option Ob)
 | []=>[some (.arr v0 24 [.int .i64 0,.lst 0 [] true]),some (.arr v1 24 [.int .i64 va,.lst 0 [] true])]
 | c::R=>[some (.arr v0 24 [.int .i64 0,.lst 0 [] true]),some (.arr v1 24 [.int .i64 va,.sl 2 w 0 1 (c::R).length none]),some (.arr w 41 ((c::R).map trw))]
def Qtl (b:List UInt8) (va:Int) (i:Nat) (R:List (List Int)) (e:V):Prop:=R.length≤i∧ErrV e∧(∀ c∈R,c.length≤1000)∧∀ v F,Good b v F→R=F.take i∧e=.val .nilIface∧va=v
abbrev goJ (b:List UInt8) (T:Bool) (v0 v1:Nat) (va:Int) (ls:List (List UInt8)):Nat→Fr→H→Prop:=fun i fr σ=>∃ (R:List (List Int)) (e:V) (w t:Nat),Qtl b va i R e∧Qi fr 0=.lst 1 (Qg b) T∧Qi fr 2=.ptr 0 v0 0∧Qi fr 7=e∧Qi fr 8=.ptr 1 v1 0∧Qi fr 42=ZW ls∧Qi fr 43=.int .i64 (ls.length:Int)∧Qi fr 44=.int .i64 (i:Int)∧σ=⟨t,gO v0 v1 w va R⟩
abbrev goE (b:List UInt8) (T:Bool) (v0 v1:Nat) (va:Int) (ls:List (List UInt8)):AE→Fr→H→Prop:=fun e fr σ=>e=.ex 0∧goJ b T v0 v1 va ls ls.length fr σ
variable {ls:List (List UInt8)} {i:Nat} {va:Int} {b hd:List UInt8}
theorem QoM {R:List (List Int)} {e e':V} {ws:List (List UInt8)} {cs:List Int} (hb:splitB 10 b=hd::ls) (hi:i<ls.length) (hL:Qtl b va i R e) (hF:Fld ls[i] ws) (hN:NumI ws e ws.length cs e') (hw:ws.length≤1000) :
 (cs=[]→Qtl b va (i+1) R e')∧(∀ q z,cs=q++[z]→z≠0→Qtl b va (i+1) R e')∧∀ q,cs=q++[0]→Qtl b va (i+1) (R++[q]) e':=by
 obtain ⟨h1,h2,h3,h4⟩:=hL
 obtain ⟨n1,n2,n3⟩:=hN
 have good:∀ v F,Good b v F→R=F.take i∧e'=.val .nilIface∧va=v∧((i<F.length∧cs=F.getD i []++[0])∨(F.length≤i∧cs=[])):=fun v F hg=>by
  obtain ⟨g1,g2,g3⟩:=h4 v F hg
  obtain ⟨hr,hp⟩:=hg
  have hls:ls=F.map Qfc++[[]]:=by
   have:=QhM hr
   rw [hp,hb] at this
   exact (List.cons.inj this).2
  obtain ⟨_,_,hs3⟩:=XQ hr
  rcases Nat.lt_or_ge i F.length with hiF | hiF
  ·have hli:ls[i]=Qfc F[i]:=by simp [hls,List.getElem_append_left,hiF]
   have hsm:∀ n∈F[i],Sml n:=fun n hn=>(hs3 _ (List.getElem_mem hiF) n hn).2
   have hws:ws=(F[i]++[0]).map Qw:=by
    rw [hF.2.2 (fun x hx=>(Qjk hsm (hli▸hx)).2),hli,Qn1 hsm]
   obtain ⟨k1,k2⟩:=n3 (F[i]++[0]) (fun n hn=>by
    rcases List.mem_append.1 hn with hn | hn
    ·exact hsm n hn
    ·rw [List.mem_singleton] at hn; subst hn; exact ⟨by omega,by omega⟩) hws
   have hwl:ws.length=(F[i]++[0]).length:=by rw [hws,lM]
   refine ⟨g1,k2.trans g2,g3,.inl ⟨hiF,?_⟩⟩
   rw [k1,hwl,List.take_length,List.getD_eq_getElem?_getD,List.getElem?_eq_getElem hiF]
   rfl
  ·have hie:i=F.length:=by have:=hi; rw [hls] at this; simp at this; omega
   have hli:ls[i]=[]:=by simp [hls,hie]
   have hws:ws=[]:=by rw [hF.2.2 (fun x hx=>by rw [hli] at hx; cases hx),hli]; rfl
   obtain ⟨k1,k2⟩:=n3 [] (fun n hn=>by cases hn) (by rw [hws]; rfl)
   exact ⟨g1,k2.trans g2,g3,.inr ⟨hiF,by rw [k1]; simp⟩⟩
 refine ⟨fun hc=>⟨by omega,n2,h3,fun v F hg=>?_⟩,fun q z hc hz=>⟨by omega,n2,h3,fun v F hg=>?_⟩,fun q hc=>⟨by simp; omega,n2,fun c hcm=>?_,fun v F hg=>?_⟩⟩
 ·obtain ⟨g1,g2,g3,⟨_,g4⟩ | ⟨g4,_⟩⟩:=good v F hg
  ·rw [hc] at g4; simp at g4
  ·exact ⟨by rw [g1,List.take_of_length_le g4,List.take_of_length_le (by omega)],g2,g3⟩
 ·obtain ⟨g1,g2,g3,⟨_,g4⟩ | ⟨g4,g5⟩⟩:=good v F hg
  ·rw [hc] at g4
   have:=List.append_inj_right' g4 rfl
   simp at this; exact absurd this hz
  ·rw [hc] at g5; simp at g5
 ·rcases List.mem_append.1 hcm with hcm | hcm
  ·exact h3 c hcm
  ·rw [List.mem_singleton] at hcm; subst hcm
   rw [hc] at n1; simp at n1; omega
 ·obtain ⟨g1,g2,g3,⟨g4,g5⟩ | ⟨g4,g5⟩⟩:=good v F hg
  ·rw [hc] at g5
   have:=List.append_inj_left' g5 rfl
   refine ⟨?_,g2,g3⟩
   rw [g1,List.take_add_one,List.getElem?_eq_getElem g4,this,List.getD_eq_getElem?_getD,List.getElem?_eq_getElem g4]
   rfl
  ·rw [hc] at g5; simp at g5
theorem gO_len (v0 v1 w:Nat) (va:Int) (R:List (List Int)):(gO v0 v1 w va R).length=2∨(gO v0 v1 w va R).length=3:=by
 cases R <;> simp [gO]
theorem go_frz (v0 v1 w w' t:Nat) (va:Int) (R:List (List Int)) (q:List Int) (z:Int) (fr:Fr) :
 Shift G 112 0 fr ⟨t,gO v0 v1 w va R++[some (.arr w' 3 (ints q++[.int .i64 z]))]⟩ (Qd4 (gO v0 v1 w va R).length w' (ints q++[.int .i64 z]) fr) ⟨t,gO v0 v1 w va R⟩:=by
 have hn:Qb (ints q++[V.int .i64 z])=true:=Yl (QQ q) rfl
 have h:=Shift.freeze (G:=G) (n:=112) (base:=0) (fr:=fr) (σ:=⟨t,gO v0 v1 w va R++[some (.arr w' 3 (ints q++[.int .i64 z]))]⟩) (k:=(gO v0 v1 w va R).length) (v:=w') (T:=3) (cs:=ints q++[.int .i64 z]) (zL _) (by simp) hn
 refine h.trans ?_
 refine Shift.drop ?_ (lR _) (zL _)
 cases R with
 | nil=>simp [gO,Q5,Ob.mapV,XJ,X3]
 | cons c R=>simp [gO,Q5,Ob.mapV,XJ,X3,trw]
theorem Qui (hT:Qn Tryz.prog tab) (K:Qtp Tryz.prog) (Er:Qtm G) (X:QuU G) {T:Bool} {v0 v1:Nat} (hb:splitB 10 b=hd::ls) (hll:ls.length≤1000) (hlw:∀ l∈ls,l.length≤1000) (hi:i<ls.length) {fr:Fr} {σ:H} (hJ:goJ b T v0 v1 va ls i fr σ) :
 W Tryz.prog G 112 0 (zg QtF [] (.seq (zw 45 .skip (.exit 0)) (.seq (.block 1 (zg QtE [46,47] (zg QnE [] (.seq (zg QnD [48] (.block 2 (.loop (zg Qhu [] (.seq (zw 52 .skip (.exit 2)) (.seq (.block 3 (zg Qht [53,54] (zg Qhs [56,57,58,55,59,60] (.seq (zg Qhr [61] (zw 62 (.reg Qhq [63]) .skip)) (.reg Qhp [64,65,66,67]))))) (.reg Qho [68]))))))) (zg QnC [69,70] (zg QnB [71,72,73,74,75,76,77,78,79] (zw 80 (.reg QnA [81,82,83,84,85,86,87,88,89,90,91]) .skip))))))) (.reg Qnz [92])))) fr σ (ZB (fun fr σ=>∃ fr' σ',Shift G 112 0 fr σ fr' σ'∧goJ b T v0 v1 va ls (i+1) fr' σ') (goE b T v0 v1 va ls)):=by
 obtain ⟨R,e,w,t,hL,f0,f2,f7,f8,f42,f43,f44,rfl⟩:=hJ
 have hlt:(i:Int)<(ls.length:Int):=by omega
 have e2:=YR hi (by omega)
 have hat:(ls.map QjC).getD i .any=QjC ls[i]:=by simp [List.getD_eq_getElem?_getD,List.getElem?_eq_getElem hi]
 have hlen:=hlw ls[i] (List.getElem_mem hi)
 have hFd:=QuM (G:=G) hT X ls[i] false (by omega)
 simp only [QjC] at hat
 refine Qh [(0,.lst 1 (Qg b) T),(2,.ptr 0 v0 0),(7,e),(8,.ptr 1 v1 0),(42,ZW ls),(43,.int .i64 (ls.length:Int)),(44,.int .i64 (i:Int))] ⟨f0,f2,f7,f8,f42,f43,f44,trivial⟩  1000 ?_
 simp -implicitDefEqProofs (disch:=omega) only [go_sem,↓reduceIte,reduceCtorEq,rq,hlt,hi,hat,ZW]
 refine Qcc hT Qes hFd (by simp [Qb,Qd]) 1000 fun u hu=>?_
 obtain ⟨ws,hF,rfl⟩:=hu
 have hwl:ws.length≤1000:=by have:=hF.1; omega
 simp -implicitDefEqProofs (disch:=omega) only [go_sem,↓reduceIte,reduceCtorEq,rq,ZW]
 refine Y7 ws.length (giJ (gO v0 v1 w va R) v0 v1 (.lst 1 (Qg b) T) (.lst 1 (ls.map QjC) false) (.int .i64 (ls.length:Int)) (.int .i64 (i:Int)) e ws) (giE (gO v0 v1 w va R) v0 v1 (.lst 1 (Qg b) T) (.lst 1 (ls.map QjC) false) (.int .i64 (ls.length:Int)) (.int .i64 (i:Int)) e ws) ⟨[],e,0,t,⟨rfl,hL.2.1,fun ns _ _=>⟨by simp,rfl⟩⟩,rfl,rfl,rfl,rfl,rfl,rfl,rfl,rfl,rfl,rfl,rfl,by simp [Qit]⟩ (fun j hj fr σ hJ=>Quj hT K Er hwl (fun w hw=>by have:=hF.2.1 w hw; omega) hj hJ) (fun j hj fr σ hJ=>by subst hj; exact QAR hT hJ) (fun ee fr σ hE=>?_)
 obtain ⟨rfl,cs,e',w',t',hN,g0,g2,g7,g8,g11,g42,g43,g44,g49,g50,g51,rfl⟩:=hE
 obtain ⟨k1,k2,k3⟩:=QoM hb hi hL hF hN hwl
 have hsl:∀ (L:Nat),Qfh fr [(0,.lst 1 (Qg b) T),(2,.ptr 0 v0 0),(7,e'),(8,.ptr 1 v1 0),(11,Qip (gO v0 v1 w va R).length w' cs),(42,ZW ls),(43,.int .i64 (ls.length:Int)),(44,.int .i64 (i:Int))]:=fun _=>⟨g0,g2,g7,g8,g11,g42,g43,g44,trivial⟩
 rcases List.eq_nil_or_concat cs with rfl | ⟨q,z,hcz⟩
 ·have c0:((0:Nat):Int)=0:=rfl
  have z0:¬ (0:Int)<0:=by decide
  refine QO _ (hsl 0) 1000 ?_
  simp only [Qip,Qit,List.append_nil]
  simp -implicitDefEqProofs (disch:=omega) only [go_sem,↓reduceIte,reduceCtorEq,rq,c0,z0,ZW]
  exact ⟨_,_,Shift.refl _ _ _ _,R,e',w,t',k1 rfl,rfl,rfl,rfl,rfl,rfl,rfl,by rw [e2]; rfl,rfl⟩
 ·rw [List.concat_eq_append] at hcz
  subst hcz
  have hq:q.length+1≤1000:=by have:=hN.1; simp at this; omega
  have w1:IntKind.i64.wrap (((q.length+1:Nat):Int) - 1)=(q.length:Int):=by
   rw [show ((q.length+1:Nat):Int) - 1=(q.length:Int) by omega]
   exact Ya .i64 (by show -9223372036854775808≤_; omega) (by show _≤9223372036854775807; omega)
  have hp:(0:Int)<((q.length+1:Nat):Int):=by omega
  have hql:q.length<q.length+1:=by omega
  have hg:(ints q++[V.int .i64 z]).getD q.length .any=.int .i64 z:=by simp [List.getD_eq_getElem?_getD,ints]
  have hlz:(ints q++[V.int .i64 z]).length=q.length+1:=by simp [ints]
  have hfz:X3 (gO v0 v1 w va R).length w' (ints q++[.int .i64 z]) (.sl (gO v0 v1 w va R).length w' 0 1 (q.length+1) none)=.lst 1 (ints q++[.int .i64 z]) false:=by
   have:=Qez (k:=(gO v0 v1 w va R).length) (w:=w') (sz:=1) (cs:=ints q++[V.int .i64 z]) (fun u hu=>by
    rcases List.mem_append.1 hu with hu | hu
    ·obtain ⟨n,_,rfl⟩:=List.mem_map.1 hu; rfl
    ·rw [List.mem_singleton] at hu; subst hu; rfl)
   rwa [hlz] at this
  have hg0:(gO v0 v1 w va R).length≠0∧(gO v0 v1 w va R).length≠1:=by rcases gO_len v0 v1 w va R with h | h <;> rw [h] <;> decide
  refine QO _ (hsl 0) 0 ?_
  rw [Qdr,Qds]
  refine Xk (go_frz v0 v1 w w' t' va R q z _) ?_
  have he7:X3 (gO v0 v1 w va R).length w' (ints q++[.int .i64 z]) e'=e':=by
   rcases hN.2.1 with rfl | ⟨T,rfl⟩ <;> simp [X3]
  have hfr:Qd4 (gO v0 v1 w va R).length w' (ints q++[.int .i64 z]) [(0,.lst 1 (Qg b) T),(2,.ptr 0 v0 0),(7,e'),(8,.ptr 1 v1 0),(11,.sl (gO v0 v1 w va R).length w' 0 1 (q.length+1) none),(42,ZW ls),(43,.int .i64 (ls.length:Int)),(44,.int .i64 (i:Int))]=[(0,.lst 1 (Qg b) T),(2,.ptr 0 v0 0),(7,e'),(8,.ptr 1 v1 0),(11,.lst 1 (ints q++[.int .i64 z]) false),(42,.lst 1 (ls.map QjC) false),(43,.int .i64 (ls.length:Int)),(44,.int .i64 (i:Int))]:=by
   simp only [Qd4,List.map_cons,List.map_nil,hfz,he7]
   simp [X3,ZW,Ne.symm hg0.1,Ne.symm hg0.2]
  rw [hfr]
  by_cases hz:z=0
  ·subst hz
   have hk3:=k3 q rfl
   have htk:List.take q.length (ints q++[V.int .i64 0])=ints q:=by simp [ints]
   have hR:R.length≤1000:=by have:=hL.1; omega
   cases R with
   | nil =>
     refine Qc 1000 ?_
     simp only [gO]
     simp -implicitDefEqProofs (disch:=omega) only [go_sem,↓reduceIte,reduceCtorEq,rA,rq,rL,rT,hp,w1,hlz,Int.toNat_natCast,hql,hg,Nat.sub_zero,htk]
     exact ⟨_,_,Shift.refl _ _ _ _,[q],e',t',t'+1,hk3,rfl,rfl,rfl,rfl,rfl,rfl,by rw [e2]; rfl,rfl⟩
   | cons c R =>
     have hgo:gO v0 v1 w va (c::R)=[some (.arr v0 24 [.int .i64 0,.lst 0 [] true]),some (.arr v1 24 [.int .i64 va,.sl 2 w 0 1 (c::R).length none]),some (.arr w 41 ((c::R).map trw))]:=rfl
     have hgn:∀ w2,gO v0 v1 w2 va (c::R++[q])=[some (.arr v0 24 [.int .i64 0,.lst 0 [] true]),some (.arr v1 24 [.int .i64 va,.sl 2 w2 0 1 ((c::R).length+1) none]),some (.arr w2 41 ((c::R).map trw++[.lst 1 (ints q) true]))]:=fun w2=>by
      simp [gO,trw]
     rw [hgo]
     generalize c::R=Q at *
     have hQl:(Q.map trw).length=Q.length:=lM ..
     refine Qc 1000 ?_
     simp -implicitDefEqProofs (disch:=omega) only [go_sem,↓reduceIte,reduceCtorEq,rA,rq,rL,hp,w1,hlz,Int.toNat_natCast,hql,hg,Nat.sub_zero,htk]
     exact ⟨_,_,Shift.refl _ _ _ _,Q++[q],e',t',t'+1,hk3,rfl,rfl,rfl,rfl,rfl,rfl,by rw [e2]; rfl,by rw [hgn]⟩
  ·refine Qc 1000 ?_
   simp -implicitDefEqProofs (disch:=omega) only [go_sem,↓reduceIte,reduceCtorEq,rA,rq,rL,rT,hp,w1,hlz,Int.toNat_natCast,hql,hg,hz]
   exact ⟨_,_,Shift.refl _ _ _ _,R,e',w,t',k2 q z rfl hz,rfl,rfl,rfl,rfl,rfl,rfl,by rw [e2]; rfl,rfl⟩
end
section
attribute [local go_sem] nFq nT lR zA zL bne_self_eq_false bytes_Equal zqr_0 zqr_1 Qcb zq7_0 zq7_1 QnE QnD Qhu Qht Qhs Qhr Qhq Qhp Qho QnC zq7_2 QnB QnA Qnz QvE QvD QvC QvB zq7_3 zq7_4 zq7_5 zq7_6 zq7_7 QtF QtE decide_false decide_true Qt
theorem Qs3 (hT:Qn Tryz.prog tab) (x y:List UInt8) (S T:Bool):Am.Pure Tryz.prog G Qe9 [.lst 1 (Qg x) S,.lst 1 (Qg y) T] fun u=>u=.bool (decide (x=y)):=by
 intro t
 have f1:=Yf x
 have f2:=Yf y
 have o1:=Zy x
 have o2:=Zy y
 have b1:=Yg x
 have b2:=Yg y
 refine Xa 0 (zL _) (QM hT QeW (by simp [bytes_Equal]) (Qx 1000 ?_))
 simp -implicitDefEqProofs (disch:=omega) only [go_sem,↓reduceIte,reduceCtorEq,rq]
 simp only [evW]
 simp -implicitDefEqProofs (disch:=omega) only [go_sem,↓reduceIte,reduceCtorEq,rq,f1,o1]
 simp only [evW]
 simp -implicitDefEqProofs (disch:=omega) only [go_sem,↓reduceIte,reduceCtorEq,rq,f2,o2]
 congr 1; rw [Bool.eq_iff_iff]; simp
theorem Qdm (c:UInt8):∀ (l:List UInt8),∀ w∈splitB c l,w.length≤l.length
 | [],w,h=>by simp [splitB] at h; subst h; simp
 | b::r,w,h=>by
   have ih:=Qdm c r
   unfold splitB at h
   split at h
   ·rcases List.mem_cons.1 h with rfl | h
    ·simp
    ·have:=ih w h; simp; omega
   ·split at h
    ·rename_i e; exact absurd e (QhH c r)
    ·rename_i x y e
     rcases List.mem_cons.1 h with rfl | h
     ·have:=ih x (by rw [e]; simp); simpa using this
     ·have:=ih w (by rw [e]; simp [h]); simp; omega
theorem Qr1 (Q:List (List Int)):Qb (Q.map row)=true:=XW fun u hu=>by
 obtain ⟨q,_,rfl⟩:=List.mem_map.1 hu
 simp [row,Qd]
theorem QjN (Q:List (List Int)):Qb (Q.map trw)=true:=XW fun u hu=>by
 obtain ⟨q,_,rfl⟩:=List.mem_map.1 hu
 simp [trw,Qd]
theorem QAS (b:List UInt8) (T:Bool) (t:Nat) (va:Int) (w t':Nat) (Q:List (List Int)) {e:V} (he:ErrV e) :
 Shift G 112 0 [(0,.lst 1 (Qg b) T),(2,.ptr 0 t 0),(7,e),(8,.ptr 1 (t+1) 0)] ⟨t',[some (.arr t 24 [.int .i64 0,.lst 0 [] true]),some (.arr (t+1) 24 [.int .i64 va,.sl 2 w 0 1 Q.length none]),some (.arr w 41 (Q.map trw))]⟩ [(0,.lst 1 (Qg b) T),(2,.ptr 0 t 0),(7,e),(8,.ptr 1 (t+1) 0)] ⟨t',[some (.arr t 24 [.int .i64 0,.lst 0 [] true]),some (.arr (t+1) 24 [.int .i64 va,.lst 1 (Q.map trw) false])]⟩:=by
 have hn:=QjN Q
 have hcl:∀ u∈Q.map trw,u.cells=[u]:=fun u hu=>by
  obtain ⟨q,_,rfl⟩:=List.mem_map.1 hu
  rfl
 have hql:Q.length=(Q.map trw).length:=(lM ..).symm
 rw [hql]
 generalize Q.map trw=C at *
 have h:=Shift.freeze (G:=G) (n:=112) (base:=0) (fr:=[(0,.lst 1 (Qg b) T),(2,.ptr 0 t 0),(7,e),(8,.ptr 1 (t+1) 0)]) (σ:=⟨t',[some (.arr t 24 [.int .i64 0,.lst 0 [] true]),some (.arr (t+1) 24 [.int .i64 va,.sl 2 w 0 1 C.length none]),some (.arr w 41 C)]⟩) (k:=2) (v:=w) (T:=41) (cs:=C) (zL _) rfl hn
 have hf:=Qez (k:=2) (w:=w) (sz:=1) hcl
 have he7:X3 2 w C e=e:=by
  rcases he with rfl | ⟨T,rfl⟩ <;> simp [X3]
 have hfr:Qd4 2 w C [(0,.lst 1 (Qg b) T),(2,.ptr 0 t 0),(7,e),(8,.ptr 1 (t+1) 0)]=[(0,.lst 1 (Qg b) T),(2,.ptr 0 t 0),(7,e),(8,.ptr 1 (t+1) 0)]:=by
  simp only [Qd4,List.map_cons,List.map_nil,he7]
  simp [X3]
 rw [hfr] at h
 refine h.trans (Shift.drop ?_ (lR _) (zL _))
 simp only [Q5,Ob.mapV,XJ,List.set_cons_succ,List.set_cons_zero,List.map_cons,List.map_nil,Option.map_some,hf]
 simp [X3]
def QuV (b:List UInt8) (u:V):Prop:=(∃ v F,Good b v F∧u=.tup [fml v F,.int .i64 0])∨((∀ v F,¬ Good b v F)∧u=.tup [.agg [.int .i64 0,.lst 0 [] true],.int .i64 2])
theorem c_Get (hT:Qn Tryz.prog tab) (KB:QuX Tryz.prog) (It:QeR Tryz.prog G) (K:Qtp Tryz.prog) (Er:Qtm G) (X:QuU G) (b:List UInt8) (T:Bool) (hl:b.length≤100000) (hc:b.count 10≤1000) (hw:∀ l∈splitB 10 b,l.length≤1000) :
 Am.Pure Tryz.prog G QgF [.lst 1 (Qg b) T] (QuV b):=by
 have hS:=Qs4 (G:=G) hT b T 10 (by omega)
 obtain ⟨hd,ls,hb⟩:∃ hd ls,splitB 10 b=hd::ls:=List.exists_cons_of_ne_nil (QhH 10 b)
 have hll:ls.length≤1000:=by have:=QfO 10 b; rw [hb] at this; simp at this; omega
 have hhd:hd.length≤1000:=hw hd (by rw [hb]; simp)
 have hlw:∀ l∈ls,l.length≤1000:=fun l h=>hw l (by rw [hb]; simp [h])
 rw [hb] at hS
 have hS2:=Qs4 (G:=G) hT hd false 32 (by omega)
 simp only [QjB,ZW,List.map_cons] at hS hS2
 have u10:((UInt8.toNat 10:Nat):Int)=10:=rfl
 have u32:((UInt8.toNat 32:Nat):Int)=32:=rfl
 rw [u10] at hS
 rw [u32] at hS2
 intro t
 have hgood:∀ v F,Good b v F→hd=Qiw v F∧ls=F.map Qfc++[[]]∧right v F=true:=fun v F ⟨hr,hp⟩=>by
  have:=QhM hr
  rw [hp,hb] at this
  exact ⟨(List.cons.inj this).1,(List.cons.inj this).2,hr⟩
 refine QfG (Q:=fun u _=>Qd u=true∧∃ u',Wk u u'∧Qd u'=true∧QuV b u') ?_ fun u σ hu=>by
  obtain ⟨_,u',h1,h2,h3⟩:=hu
  exact ⟨u',h1,h2,h3⟩
 refine QM hT Qbl (by simp [Qcb]) (Qx 1000 ?_)
 simp -implicitDefEqProofs (disch:=omega) only [go_sem,↓reduceIte,reduceCtorEq,rq,and_true]
 refine Qj hT Qci hS (by simp [Qb,Qd]) 1000 ?_
 have hbr:QjC hd=.lst 1 (Qg hd) false:=rfl
 simp -implicitDefEqProofs (disch:=omega) only [go_sem,↓reduceIte,reduceCtorEq,rq,Int.reduceToNat,Int.reduceLE,lM,true_implies,true_and,and_true,hbr]
 refine Qj hT Qci hS2 (by simp [Qb,Qd]) 8 ?_
 have bad:(∀ v F,¬ Good b v F)→∃ u',Wk (.tup [.agg [.int .i64 0,.lst 0 [] true],.int .i64 2]) u'∧Qd u'=true∧QuV b u':=fun h=>⟨_,.refl _,rfl,.inr ⟨h,rfl⟩⟩
 by_cases g:(splitB 32 hd).length=4
 ·have g4:(((splitB 32 hd).length:Nat):Int)=4:=by omega
  have l2:2<(splitB 32 hd).length:=by omega
  have hat:((splitB 32 hd).map QjC).getD 2 .any=.lst 1 (Qg (splitB 32 hd)[2]) false:=by simp [List.getD_eq_getElem?_getD,List.getElem?_eq_getElem l2,QjC]
  have hsl:=Qdm 32 hd _ (List.getElem_mem l2)
  have hA:=Qzc (G:=G) K Er (splitB 32 hd)[2] (by omega)
  have hgv:∀ v F,Good b v F→(splitB 32 hd)[2]=Qw v∧Sml v:=fun v F hg=>by
   obtain ⟨h1,_,h3⟩:=hgood v F hg
   refine ⟨?_,(XQ h3).1⟩
   simp only [h1,Qjn h3]
   rfl
  have hfl:=Yf (splitB 32 hd)[2]
  have hof:=Zy (splitB 32 hd)[2]
  have hby:=Yg (splitB 32 hd)[2]
  generalize (splitB 32 hd)[2]=s2 at *
  simp -implicitDefEqProofs (disch:=omega) only [go_sem,↓reduceIte,reduceCtorEq,rq,lM,g4]
  refine Qc 1000 ?_
  simp -implicitDefEqProofs (disch:=omega) only [go_sem,↓reduceIte,reduceCtorEq,rq,Int.reduceToNat,Int.reduceLE,lM,true_implies,and_true,hat,l2]
  simp only [evW]
  simp -implicitDefEqProofs (disch:=omega) only [go_sem,↓reduceIte,reduceCtorEq,rq,hfl,hof]
  refine Qcc hT Qer hA rfl 1000 fun u hu=>?_
  obtain ⟨va,en,rfl,hvr,hen,hm⟩:=hu
  have hdr:List.take (ls.length+1 - 1) (ls.map QjC)=ls.map QjC:=List.take_of_length_le (by simp)
  simp -implicitDefEqProofs (disch:=omega) only [go_sem,↓reduceIte,reduceCtorEq,rA,rq,rL,rT,Int.reduceToNat,Int.reduceLE,lM,and_true,hdr]
  refine Y7 ls.length (goJ b T t (t+1) va ls) (goE b T t (t+1) va ls) ⟨[],en,0,t+1+1,⟨lR _,hen,(fun c h=>by cases h),fun v F hg=>?_⟩,rfl,rfl,rfl,rfl,rfl,rfl,rfl,rfl⟩ (fun i hi fr σ hJ=>Qui hT K Er X hb hll hlw hi hJ) (fun i hi fr σ hJ=>?_) (fun e fr σ hE=>?_)
  ·obtain ⟨h1,h2⟩:=hgv v F hg
   obtain ⟨h3,h4⟩:=hm v (by rw [h1]; exact Qhh h2)
   exact ⟨by simp,h4,h3⟩
  ·obtain ⟨R,e,w,t',hL,f0,f2,f7,f8,f42,f43,f44,rfl⟩:=hJ
   subst hi
   refine Qh [(0,.lst 1 (Qg b) T),(2,.ptr 0 t 0),(7,e),(8,.ptr 1 (t+1) 0),(42,ZW ls),(43,.int .i64 (ls.length:Int)),(44,.int .i64 (ls.length:Int))] ⟨f0,f2,f7,f8,f42,f43,f44,trivial⟩ 1000 ?_
   simp -implicitDefEqProofs (disch:=omega) only [go_sem,↓reduceIte,reduceCtorEq,rq,Int.lt_irrefl]
   exact ⟨rfl,R,e,w,t',hL,rfl,rfl,rfl,rfl,rfl,rfl,rfl,rfl⟩
  ·obtain ⟨rfl,R,e,w,t',hL,f0,f2,f7,f8,f42,f43,f44,rfl⟩:=hE
   refine QO [(0,.lst 1 (Qg b) T),(2,.ptr 0 t 0),(7,e),(8,.ptr 1 (t+1) 0)] ⟨f0,f2,f7,f8,trivial⟩ 0 ?_
   have hsh:∃ CV,(∃ z C T3,CV=.lst z C T3)∧Qd CV=true∧Wk CV (.lst 1 (R.map row) false)∧Shift G 112 0 [(0,.lst 1 (Qg b) T),(2,.ptr 0 t 0),(7,e),(8,.ptr 1 (t+1) 0)] ⟨t',gO t (t+1) w va R⟩ [(0,.lst 1 (Qg b) T),(2,.ptr 0 t 0),(7,e),(8,.ptr 1 (t+1) 0)] ⟨t',[some (.arr t 24 [.int .i64 0,.lst 0 [] true]),some (.arr (t+1) 24 [.int .i64 va,CV])]⟩:=by
    cases R with
    | nil=>exact ⟨.lst 0 [] true,⟨_,_,_,rfl⟩,rfl,.lst 0 1 [] [] true .nil (.inl rfl),Shift.refl _ _ _ _⟩
    | cons c R =>
      refine ⟨.lst 1 ((c::R).map trw) false,⟨_,_,_,rfl⟩,by simp only [Qd],.lst 1 1 _ _ false (WkL.map fun q _=>.lst 1 1 _ _ true (.refl _) (.inr rfl)) (.inr rfl),?_⟩
      exact QAS b T t va w t' (c::R) hL.2.1
   obtain ⟨_,⟨z3,C3,T3,rfl⟩,hcn,hcw,hsh⟩:=hsh
   refine Xk hsh ?_
   have hP:Am.Pure Tryz.prog G Zg [.agg [.int .i64 va,V.lst z3 C3 T3]] _:=Pure.args (.cons _ _ _ _ (.agg _ _ (.cons _ _ _ _ (.refl _) (.cons _ _ _ _ hcw .nil))) .nil) (QuL (G:=G) hT KB It va R (by have:=hL.1; omega) hL.2.2.1)
   have hnl:Qb [V.agg [.int .i64 va,V.lst z3 C3 T3]]=true:=by simp [Qb,Qd]
   have hall:∀ v F,Good b v F→R=F∧e=.val .nilIface∧va=v∧right v F=true∧QbU v F=b:=fun v F hg=>by
    obtain ⟨h1,h2,h3⟩:=hL.2.2.2 v F hg
    obtain ⟨_,h4,h5⟩:=hgood v F hg
    rw [h4,List.take_of_length_le (by simp)] at h1
    exact ⟨h1,h2,h3,h5,hg.2⟩
   cases hr:right va R with
   | false =>
     rw [hr,if_neg (by simp)] at hP
     have hbad:∀ v F,¬ Good b v F:=fun v F hg=>by
      obtain ⟨h1,_,h3,h4,_⟩:=hall v F hg
      rw [h1,h3,h4] at hr; cases hr
     rcases hL.2.1 with rfl | ⟨T2,rfl⟩
     ·refine Qc 1000 ?_
      simp -implicitDefEqProofs (disch:=omega) only [go_sem,↓reduceIte,reduceCtorEq,rA,rq,false_implies,and_true]
      refine Qj hT XP hP hnl 1000 ?_
      simp -implicitDefEqProofs (disch:=omega) only [go_sem,↓reduceIte,reduceCtorEq,rA,rq,rT,Int.reduceEq,false_implies,true_implies,true_and,and_true,not_false_eq_true]
      exact bad hbad
     ·refine Qc 1000 ?_
      simp -implicitDefEqProofs (disch:=omega) only [go_sem,↓reduceIte,reduceCtorEq,rA,rq,false_implies,and_true]
      refine Qj hT XP hP hnl 1000 ?_
      simp -implicitDefEqProofs (disch:=omega) only [go_sem,↓reduceIte,reduceCtorEq,rA,rq,rT,false_implies,true_and,and_true]
      exact bad hbad
   | true =>
     rw [hr,if_pos rfl] at hP
     have hE:=Qs3 (G:=G) hT (QbU va R) b false T
     rcases hL.2.1 with rfl | ⟨T2,rfl⟩
     ·refine Qc 1000 ?_
      simp -implicitDefEqProofs (disch:=omega) only [go_sem,↓reduceIte,reduceCtorEq,rA,rq,false_implies,and_true]
      refine Qj hT XP hP hnl 1000 ?_
      simp -implicitDefEqProofs (disch:=omega) only [go_sem,↓reduceIte,reduceCtorEq,rA,rq,rT]
      refine Qj hT QeW hE (by simp [Qb,Qd]) 1000 ?_
      by_cases hpb:QbU va R=b
      ·have hd1:decide (QbU va R=b)=true:=decide_eq_true hpb
       simp -implicitDefEqProofs (disch:=omega) only [go_sem,↓reduceIte,reduceCtorEq,rA,rq,false_implies,true_and,and_true,hpb]
       have hwk:Wk (.tup [.agg [.int .i64 va,V.lst z3 C3 T3],.int .i64 0]) (.tup [fml va R,.int .i64 0]):=.tup _ _ (.cons _ _ _ _ (.agg _ _ (.cons _ _ _ _ (.refl _) (.cons _ _ _ _ hcw .nil))) (.cons _ _ _ _ (.refl _) .nil))
       have hnn:Qd (.tup [fml va R,.int .i64 0])=true:=by simp [fml,rows,Qd,Qb]
       exact ⟨_,hwk,hnn,.inl ⟨va,R,⟨hr,hpb⟩,rfl⟩⟩
      ·have hd1:decide (QbU va R=b)=false:=decide_eq_false hpb
       simp -implicitDefEqProofs (disch:=omega) only [go_sem,↓reduceIte,reduceCtorEq,rA,rq,false_implies,true_and,and_true,hpb]
       exact bad fun v F hg=>by
        obtain ⟨h1,_,h3,_,h5⟩:=hall v F hg
        exact hpb (by rw [h1,h3,h5])
     ·refine Qc 1000 ?_
      simp -implicitDefEqProofs (disch:=omega) only [go_sem,↓reduceIte,reduceCtorEq,rA,rq,false_implies,and_true]
      refine Qj hT XP hP hnl 1000 ?_
      simp -implicitDefEqProofs (disch:=omega) only [go_sem,↓reduceIte,reduceCtorEq,rA,rq,rT,false_implies,true_and,and_true]
      exact bad fun v F hg=>by
       obtain ⟨_,h2,_⟩:=hall v F hg
       cases h2
 ·have g4:¬ (((splitB 32 hd).length:Nat):Int)=4:=by omega
  simp -implicitDefEqProofs (disch:=omega) only [go_sem,↓reduceIte,reduceCtorEq,rq,lM]
  refine Qc 1000 ?_
  simp -implicitDefEqProofs (disch:=omega) only [go_sem,↓reduceIte,reduceCtorEq,rA,rq,Int.reduceToNat,Int.reduceLE,lM,false_implies,true_implies,true_and,and_true,not_false_eq_true,g4]
  exact bad fun v F hg=>by
   obtain ⟨h1,_,h3⟩:=hgood v F hg
   exact g (by rw [h1,Qjn h3]; rfl)
end
section
attribute [local go_sem] nFq nT lAq lC lM lN aZ lR zA zL and_true decide_false decide_true false_implies Qe Qt XT zq5_0 zq5_1 QvH QvG QvF zq5_2 zq5_3 zq5_4 zq5_5 zq5_6 zq5_7 zq5_8 zq5_9 rfH true_and true_implies
theorem QoL {c:List Int} {m:Nat} {n:Int} (h:c[m]?=some n):Zt (c.take (m+1))=Zt (c.take m)++Qw n++[32]:=by
 unfold Zt
 rw [Qp h,List.map_append,List.flatten_append]
 simp
theorem Qy9 (hT:Qn Tryz.prog tab) (It:QeR Tryz.prog G) (v:Int) (F:List (List Int)) (hF:F.length≤1000) (hc:∀ c∈F,c.length≤1000) :
 Am.Pure Tryz.prog G YU [fml v F] fun u=>u=if right v F=true then .tup [.str (QbU v F),.int .i64 0] else .tup [.str [],.int .i64 2]:=by
 have hR:=Qfw (P:=Tryz.prog) (G:=G) hT v F (by omega) (fun c h=>by have:=hc c h; omega)
 have hnr:=Qr1 F
 intro t
 simp only [fml,rows] at hR ⊢
 refine Xa 0 (zL _) (QM hT QW (by simp [XT]) (Qx 1000 ?_))
 simp -implicitDefEqProofs (disch:=omega) only [go_sem,↓reduceIte,reduceCtorEq,rA,rq]
 refine Qj hT QE hR (by simp [Qb,Qd]) 1000 ?_
 cases hr:right v F with
 | false =>
   simp -implicitDefEqProofs (disch:=omega) only [go_sem,↓reduceIte,reduceCtorEq,rq]
 | true =>
   obtain ⟨hs1,hs2,hs3⟩:=XQ hr
   have hnz:∀ c∈F,∀ n∈c,n≠0∧-16777216≤n∧n≤16777216:=fun c h n hn=>hs3 c h n hn
   have i1:=It v (by unfold Sml at hs1; omega)
   have i2:=It F.length (by omega)
   have l1:=Qa1 (n:=v) (by unfold Sml at hs1; omega)
   have l2:=Qa1 (n:=(F.length:Int)) (by omega)
   simp -implicitDefEqProofs (disch:=omega) only [go_sem,↓reduceIte,reduceCtorEq,rA,rq,rL]
   refine Qj hT Yv i1 rfl 1000 ?_
   simp -implicitDefEqProofs (disch:=omega) only [go_sem,↓reduceIte,reduceCtorEq,rA,rq,rL]
   refine Qj hT Yv i2 rfl 1000 ?_
   simp -implicitDefEqProofs (disch:=omega) only [go_sem,↓reduceIte,reduceCtorEq,rq,rL]
   have hH:(Zh v F).length≤100:=by unfold Zh; simp; omega
   have hCl:∀ i,(clB (F.take i)).length≤30000000:=fun i=>by
    have:=QmN (F:=F.take i) (fun c h=>hc c (List.mem_of_mem_take h)) (fun c h=>hnz c (List.mem_of_mem_take h))
    have h2:(F.take i).length≤F.length:=by simp; omega
    omega
   refine XZ F (fun i fr σ=>Qi fr 1=.ptr 0 t 0∧Qi fr 4=.str (Zh v F++clB (F.take i))∧Qi fr 5=.int .i64 (i:Int)∧σ=⟨t+1,rfH t v F⟩) (fun e fr σ=>e=.ex 0∧Qi fr 4=.str (QbU v F)) ⟨rfl,?_,rfl,rfl⟩ (fun i c hci fr σ hJ=>?_) (fun i hi fr σ hJ=>?_) (fun e fr σ hE=>?_)
   ·simp [Qi,Zh,clB]
   ·obtain ⟨f1,f4,f5,rfl⟩:=hJ
    obtain ⟨hlt,hD,e2⟩:=Zz hci (by omega)
    have hcm:=List.mem_of_getElem? hci
    have hcl:=hc c hcm
    have hCi:=hCl i
    refine Qh [(1,.ptr 0 t 0),(4,.str (Zh v F++clB (F.take i))),(5,.int .i64 (i:Int))] ⟨f1,f4,f5,trivial⟩  1000 ?_
    simp -implicitDefEqProofs (disch:=omega) only [go_sem,↓reduceIte,rA,rq,hlt]
    refine XZ c (fun k fr σ=>Qi fr 1=.ptr 0 t 0∧Qi fr 4=.str (Zh v F++clB (F.take i)++Zt (c.take k))∧Qi fr 5=.int .i64 (i:Int)∧Qi fr 6=.int .i64 (k:Int)∧σ=⟨t+1,rfH t v F⟩) (fun e fr σ=>e=.ex 2∧Qi fr 1=.ptr 0 t 0∧Qi fr 4=.str (Zh v F++clB (F.take i)++Zt c)∧Qi fr 5=.int .i64 (i:Int)∧σ=⟨t+1,rfH t v F⟩) ⟨rfl,?_,rfl,rfl,rfl⟩ (fun k n hnk fr σ hJ=>?_) (fun k hk fr σ hJ=>?_) (fun e fr σ hE=>?_)
    ·simp [Qi,Zt]
    ·obtain ⟨f1,f4,f5,f6,rfl⟩:=hJ
     obtain ⟨hlt2,hD2,e3⟩:=Qas hnk (by omega)
     have hn:=hnz c hcm n (List.mem_of_getElem? hnk)
     have iN:=It n (by omega)
     have hf:=Qa1 (n:=n) (by omega)
     have hLl:=Qb4 (c:=c.take k) fun x hx=>hnz c hcm x (List.mem_of_mem_take hx)
     have hkl:(c.take k).length≤1000:=by simp; omega
     have hst:=QoL hnk
     refine Qh [(1,.ptr 0 t 0),(4,.str (Zh v F++clB (F.take i)++Zt (c.take k))),(5,.int .i64 (i:Int)),(6,.int .i64 (k:Int))] ⟨f1,f4,f5,f6,trivial⟩  1000 ?_
     simp -implicitDefEqProofs (disch:=omega) only [go_sem,↓reduceIte,rA,rq,hlt,hD,hlt2,hD2]
     refine Qj hT Yv iN rfl 1000 ?_
     simp -implicitDefEqProofs (disch:=omega) only [go_sem,↓reduceIte,rq,rL]
     refine ⟨_,_,Shift.refl _ _ _ _,rfl,?_,rfl,by rw [e3]; rfl,rfl⟩
     rw [hst]; simp [Qi]
    ·obtain ⟨f1,f4,f5,f6,rfl⟩:=hJ
     subst hk
     rw [List.take_length] at f4
     refine Qh [(1,.ptr 0 t 0),(4,.str (Zh v F++clB (F.take i)++Zt c)),(5,.int .i64 (i:Int)),(6,.int .i64 (c.length:Int))] ⟨f1,f4,f5,f6,trivial⟩ 1000 ?_
     simp -implicitDefEqProofs (disch:=omega) only [go_sem,↓reduceIte,rA,rq,hlt,hD,Int.lt_irrefl]
    ·obtain ⟨rfl,f1,f4,f5,rfl⟩:=hE
     have hLl:=Qb4 (c:=c) fun x hx=>hnz c hcm x hx
     have hst:=Qoa hci
     refine QO [(1,.ptr 0 t 0),(4,.str (Zh v F++clB (F.take i)++Zt c)),(5,.int .i64 (i:Int))] ⟨f1,f4,f5,trivial⟩ 1000 ?_
     simp -implicitDefEqProofs (disch:=omega) only [go_sem,↓reduceIte,rA,rq,rL]
     refine ⟨_,_,Shift.refl _ _ _ _,rfl,?_,by rw [e2]; rfl,rfl⟩
     rw [hst]; simp [Qi]
   ·obtain ⟨f1,f4,f5,rfl⟩:=hJ
    subst hi
    rw [List.take_length] at f4
    refine Qh [(1,.ptr 0 t 0),(4,.str (Zh v F++clB F)),(5,.int .i64 (F.length:Int))] ⟨f1,f4,f5,trivial⟩ 1000 ?_
    simp -implicitDefEqProofs (disch:=omega) only [go_sem,↓reduceIte,rA,rq,Int.lt_irrefl]
    exact rfl
   ·obtain ⟨rfl,f4⟩:=hE
    refine QO [(4,.str (QbU v F))] ⟨f4,trivial⟩ 1000 ?_
    simp -implicitDefEqProofs (disch:=omega) only [go_sem,↓reduceIte,rq]
end
section
attribute [local go_sem] lR zA zL and_true beq_self_eq_true decide_false decide_true false_implies gt_iff_lt Qt not_false_eq_true Xo zqs_0 zqs_1 Qu8 Qu7 zqs_2 QzA Qzz Qzy Qzx Qzw Qzv zqs_9 true_and true_implies
theorem Qjf:∀ (l:List UInt8) (a u:Nat),Lib.parseUint10 a l=.ok u→a≤u
 | [],a,u,h=>by simp only [Lib.parseUint10] at h; injection h with h; omega
 | c::l,a,u,h=>by
   simp only [Lib.parseUint10] at h
   split at h
   ·split at h
    ·cases h
    ·split at h
     ·cases h
     ·have:=Qjf l _ u h; omega
   ·cases h
variable {m n:Int}
theorem Qh6 (h:Sml m):(m<0∧Qw m=45::Lib.decDigits m.natAbs)∨(0≤m∧Qw m=Lib.decDigits m.natAbs):=by
 rw [Qhc h]
 unfold Lib.itoa
 split
 ·exact .inl ⟨by omega,rfl⟩
 ·exact .inr ⟨by omega,by rw [show m.toNat=m.natAbs by omega]⟩
theorem Qjv (u:Nat):(Lib.decDigits u).filter (fun b=>b != 45)=Lib.decDigits u:=List.filter_eq_self.2 fun b hb=>by
 have:=ZU u b hb
 simp only [QmB,Bool.and_eq_true,decide_eq_true_eq] at this
 have:b≠45:=fun e=>by subst e; revert this; decide
 simpa using this
def QBv (s:List UInt8) (i:Nat) (n:Int):Prop:=∀ m,Sml m→s=Qw m→Lib.parseUint10 0 ((s.take i).filter fun b=>b != 45)=.ok n.toNat∧n≤16777216
variable {c:UInt8} {i:Nat}
theorem fmt_at (h:Sml m) (hc:(Qw m)[i]?=some c):(c=45∧i=0)∨QmB c=true:=by
 rcases Qh6 h with ⟨_,e⟩ | ⟨_,e⟩ <;> rw [e] at hc
 ·cases i with
  | zero=>simp at hc; exact .inl ⟨hc.symm,rfl⟩
  | succ i=>exact .inr (ZU _ c (List.mem_of_getElem? (by simpa using hc)))
 ·exact .inr (ZU _ c (List.mem_of_getElem? hc))
theorem Qjs (h:Sml m):Lib.parseUint10 0 ((Qw m).filter fun b=>b != 45)=.ok m.natAbs:=by
 have hp:=QhN m.natAbs (by unfold Sml at h; omega)
 rcases Qh6 h with ⟨_,e⟩ | ⟨_,e⟩ <;> rw [e]
 ·rw [List.filter_cons_of_neg (by decide),Qjv]; exact hp
 ·rw [Qjv]; exact hp
variable {s:List UInt8}
theorem Qr9 (hc:s[0]?=some 45) (h:QBv s 0 n):QBv s 1 n:=fun m hm hs=>by
 have:=h m hm hs
 rw [List.take_add_one,hc]
 simpa using this
theorem Qsa (hn:0≤n) (hc:s[i]?=some c) (hd:QmB c=true) (h:QBv s i n):QBv s (i+1) (n * 10+((c.toNat:Nat) - 48:Int)):=fun m hm hs=>by
 obtain ⟨h1,h2⟩:=h m hm hs
 simp only [QmB,Bool.and_eq_true,decide_eq_true_eq] at hd
 have hne:(c != 45)=true:=by
  have:c≠45:=fun e=>by subst e; revert hd; decide
  simpa using this
 have e:(s.take (i+1)).filter (fun b=>b != 45)=(s.take i).filter (fun b=>b != 45)++[c]:=by
  rw [List.take_add_one,hc,List.filter_append]
  simp [hne]
 have h3:Lib.parseUint10 0 ((s.take (i+1)).filter fun b=>b != 45)=.ok (n * 10+((c.toNat:Nat) - 48:Int)).toNat:=by
  rw [e,Qe4 _ _ 0 _ h1]
  simp only [Lib.parseUint10]
  rw [if_pos hd,if_neg (by omega),if_neg (by omega)]
  congr 1; omega
 refine ⟨h3,?_⟩
 have h4:=Qjs hm
 rw [← hs,← List.take_append_drop (i+1) s,List.filter_append,Qe4 _ _ 0 _ h3] at h4
 have:=Qjf _ _ _ h4
 unfold Sml at hm
 omega
theorem QAq (hn:0≤n) (h:QBv s s.length n):∀ m,Sml m→s=Qw m→n=m.natAbs:=fun m hm hs=>by
 obtain ⟨h1,_⟩:=h m hm hs
 rw [List.take_length] at h1
 have h2:=Qjs hm
 rw [← hs,h1] at h2
 injection h2 with h2
 omega
def NumQ (s:List UInt8) (u:V):Prop:=∃ (n:Int) (ok:Bool),u=.tup [.int .i64 n,.bool ok]∧∀ m,Sml m→s=Qw m→n=m∧ok=true
abbrev nuJ (s:List UInt8) (t:Nat):Nat→Fr→H→Prop:=fun i fr σ=>∃ n:Int,0≤n∧n≤10737418249∧QBv s i n∧Qi fr 0=.str s∧Qi fr 4=.int .i64 n∧Qi fr 5=.int .i64 (i:Int)∧σ=⟨t,[]⟩
abbrev nuE (s:List UInt8) (t:Nat):AE→Fr→H→Prop:=fun e fr σ=>(e=.ret∧Qi fr 2=.int .i64 0∧Qi fr 3=.bool false∧∀ m,Sml m→s≠Qw m)∨(e=.ex 0∧∃ n:Int,0≤n∧n≤10737418249∧QBv s s.length n∧Qi fr 0=.str s∧Qi fr 4=.int .i64 n∧σ=⟨t,[]⟩)
theorem Qt0 (hT:Qn Tryz.prog tab) {t:Nat} (hl:s.length≤1000000) (hi:i<s.length) {fr:Fr} {σ:H} (hJ:nuJ s t i fr σ) :
 W Tryz.prog G 57 0 (.seq (zg QzA [6,7,8] (zw 9 .skip (.exit 0))) (.seq (.block 1 (.seq (zg Qzz [12,13,14,15,16,17,18] (zw 19 (.exit 1) .skip)) (.seq (zg Qzy [20,21,22,23,24,25,26,27,28,29,30,31,32] (zw 33 (zg Qzx [] .ret) .skip)) (.reg Qzw [34,35,36,37,38,39,40,41])))) (.reg Qzv [10,11]))) fr σ (ZB (fun fr σ=>∃ fr' σ',Shift G 57 0 fr σ fr' σ'∧nuJ s t (i+1) fr' σ') (nuE s t)):=by
 obtain ⟨n,hn0,hn1,hp,f0,f4,f5,rfl⟩:=hJ
 have hlt:(i:Int)<(s.length:Int):=by omega
 have e2:=YR hi (by omega)
 have hc:s[i]?=some s[i]:=List.getElem?_eq_getElem hi
 have hb:=s[i].toNat_lt
 have hD:s.getD i 0=s[i]:=by simp [List.getD_eq_getElem?_getD,hc]
 have no:(QmB s[i]=false∧(s[i]≠45∨i≠0))→∀ m,Sml m→s≠Qw m:=fun ⟨h1,h2⟩ m hm e=>by
  have hcm:(Qw m)[i]?=some s[i]:=by rw [← e]; exact hc
  rcases fmt_at hm hcm with ⟨h3,h4⟩ | h3
  ·rcases h2 with h2 | h2
   ·exact h2 h3
   ·exact h2 h4
  ·rw [h1] at h3; cases h3
 by_cases g:((s[i].toNat:Nat):Int)=45
 ·have hc45:s[i]=45:=UInt8.toNat_inj.1 (by show s[i].toNat=45; omega)
  have g48:((s[i].toNat:Nat):Int)<48:=by omega
  by_cases g0:i=0
  ·subst g0
   have c0:((0:Nat):Int)=0:=rfl
   have hlt0:(0:Int)<(s.length:Int):=hlt
   have e20:IntKind.i64.wrap (0+1)=1:=rfl
   refine Qh [(0,.str s),(4,.int .i64 n),(5,.int .i64 ((0:Nat):Int))] ⟨f0,f4,f5,trivial⟩ 1000 ?_
   simp -implicitDefEqProofs (disch:=omega) only [go_sem,↓reduceIte,reduceCtorEq,rA,rq,Int.reduceToNat,Int.reduceLE,hlt0,hi,hD,g,c0]
   exact ⟨_,_,Shift.refl _ _ _ _,n,hn0,hn1,Qr9 (hc45▸hc) hp,rfl,rfl,rfl,rfl⟩
  ·have g1:¬ (i:Int)=0:=by omega
   refine Qh [(0,.str s),(4,.int .i64 n),(5,.int .i64 (i:Int))] ⟨f0,f4,f5,trivial⟩  1000 ?_
   simp -implicitDefEqProofs (disch:=omega) only [go_sem,↓reduceIte,reduceCtorEq,rA,rq,Int.reduceLT,hlt,hi,hD,g,g1]
   exact .inl ⟨rfl,rfl,rfl,no ⟨by rw [hc45]; decide,.inr g0⟩⟩
 ·have hc45:s[i]≠45:=fun e=>g (by rw [e]; rfl)
  by_cases g48:((s[i].toNat:Nat):Int)<48
  ·refine Qh [(0,.str s),(4,.int .i64 n),(5,.int .i64 (i:Int))] ⟨f0,f4,f5,trivial⟩  1000 ?_
   simp -implicitDefEqProofs (disch:=omega) only [go_sem,↓reduceIte,reduceCtorEq,rA,rq,hlt,hi,hD,g,g48]
   exact .inl ⟨rfl,rfl,rfl,no ⟨by simp [QmB]; omega,.inl hc45⟩⟩
  by_cases g57:(57:Int)<((s[i].toNat:Nat):Int)
  ·refine Qh [(0,.str s),(4,.int .i64 n),(5,.int .i64 (i:Int))] ⟨f0,f4,f5,trivial⟩  1000 ?_
   simp -implicitDefEqProofs (disch:=omega) only [go_sem,↓reduceIte,reduceCtorEq,rA,rq,hlt,hi,hD,g,g48,g57]
   exact .inl ⟨rfl,rfl,rfl,no ⟨by simp [QmB]; omega,.inl hc45⟩⟩
  by_cases gn:(1073741824:Int)<n
  ·refine Qh [(0,.str s),(4,.int .i64 n),(5,.int .i64 (i:Int))] ⟨f0,f4,f5,trivial⟩  1000 ?_
   simp -implicitDefEqProofs (disch:=omega) only [go_sem,↓reduceIte,reduceCtorEq,rA,rq,hlt,hi,hD,g,g48,g57,gn]
   exact .inl ⟨rfl,rfl,rfl,fun m hm e=>by have:=(hp m hm e).2; omega⟩
  ·have hd:QmB s[i]=true:=by simp [QmB]; omega
   have w1:IntKind.u8.wrap (((s[i].toNat:Nat):Int) - 48)=((s[i].toNat:Nat):Int) - 48:=Ya .u8 (by show (0:Int)≤_; omega) (by show _≤(255:Int); omega)
   have w2:IntKind.i64.wrap (((s[i].toNat:Nat):Int) - 48)=((s[i].toNat:Nat):Int) - 48:=Ya .i64 (by show -9223372036854775808≤_; omega) (by show _≤9223372036854775807; omega)
   have w3:IntKind.i64.wrap (n * 10)=n * 10:=Ya .i64 (by show -9223372036854775808≤_; omega) (by show _≤9223372036854775807; omega)
   have w4:IntKind.i64.wrap (n * 10+(((s[i].toNat:Nat):Int) - 48))=n * 10+(((s[i].toNat:Nat):Int) - 48):=Ya .i64 (by show -9223372036854775808≤_; omega) (by show _≤9223372036854775807; omega)
   refine Qh [(0,.str s),(4,.int .i64 n),(5,.int .i64 (i:Int))] ⟨f0,f4,f5,trivial⟩  1000 ?_
   simp -implicitDefEqProofs (disch:=omega) only [go_sem,↓reduceIte,reduceCtorEq,rA,rq,hlt,hi,hD,g,g48,g57,gn,w1,w2,w3,w4]
   exact ⟨_,_,Shift.refl _ _ _ _,_,by omega,by omega,Qsa hn0 hc hd hp,rfl,rfl,by rw [e2]; rfl,rfl⟩
theorem Qoh (hT:Qn Tryz.prog tab) (It:QeR Tryz.prog G) (s:List UInt8) (hl:s.length≤1000000):Am.Pure Tryz.prog G Zo [.str s] (NumQ s):=by
 intro t
 refine Xa 0 (zL _) (QM hT Yb (by simp [Xo]) (Qx 1000 ?_))
 simp -implicitDefEqProofs (disch:=omega) only [go_sem,↓reduceIte,reduceCtorEq,rq]
 refine Y7 s.length (nuJ s t) (nuE s t) ⟨0,by omega,by omega,fun m hm hs=>⟨by simp [Lib.parseUint10],by omega⟩,rfl,rfl,rfl,rfl⟩ (fun i hi fr σ hJ=>Qt0 hT hl hi hJ) (fun i hi fr σ hJ=>?_) (fun e fr σ hE=>?_)
 ·obtain ⟨n,hn0,hn1,hp,f0,f4,f5,rfl⟩:=hJ
  subst hi
  refine Qh [(0,.str s),(4,.int .i64 n),(5,.int .i64 (s.length:Int))] ⟨f0,f4,f5,trivial⟩ 1000 ?_
  simp -implicitDefEqProofs (disch:=omega) only [go_sem,↓reduceIte,reduceCtorEq,rq,Int.lt_irrefl]
  exact .inr ⟨rfl,n,hn0,hn1,hp,rfl,rfl,rfl⟩
 ·rcases hE with ⟨rfl,f2,f3,hno⟩ | ⟨rfl,n,hn0,hn1,hp,f0,f4,rfl⟩
  ·refine Qc 1000 ?_
   simp -implicitDefEqProofs (disch:=omega) only [go_sem,f2,f3]
   exact ⟨0,false,rfl,fun m hm e=>absurd e (hno m hm)⟩
  ·have hend:=QAq hn0 hp
   have i1:=It n (by omega)
   have i2:=It (-n) (by omega)
   have wn:IntKind.i64.wrap (0 - n)=-n:=by
    rw [Int.zero_sub]
    exact Ya .i64 (by show -9223372036854775808≤_; omega) (by show _≤9223372036854775807; omega)
   refine QO [(0,.str s),(4,.int .i64 n)] ⟨f0,f4,trivial⟩ 0 ?_
   rcases s with _ | ⟨c,s⟩
   ·have c0:((0:Nat):Int)=0:=rfl
    have z0:¬ (0:Int)<0:=by decide
    refine Qc 1000 ?_
    simp -implicitDefEqProofs (disch:=omega) only [go_sem,↓reduceIte,reduceCtorEq,rq,lN,c0,z0]
    refine Qj hT Yv i1 rfl 1000 ?_
    simp -implicitDefEqProofs (disch:=omega) only [go_sem,↓reduceIte,reduceCtorEq,rq]
    exact ⟨n,_,rfl,fun m hm e=>absurd e.symm (QyR hm)⟩
   ·have hp1:(0:Int)<(((c::s).length:Nat):Int):=by rw [lC]; omega
    have hD:(c::s).getD 0 0=c:=rfl
    have hp2:0<(c::s).length:=by simp
    have sgn:∀ m,Sml m→c::s=Qw m→(m<0↔c=45):=fun m hm e=>by
     rcases Qh6 hm with ⟨h1,h2⟩ | ⟨h1,h2⟩ <;> rw [h2] at e
     ·injection e with e1 _; simp [h1,e1]
     ·have hd:=ZU m.natAbs c (by rw [← e]; simp)
      constructor
      ·intro h; omega
      ·intro h; subst h; exact absurd hd (by decide)
    generalize c::s=S at *
    by_cases g:((c.toNat:Nat):Int)=45
    ·have hc45:c=45:=UInt8.toNat_inj.1 (by show c.toNat=45; omega)
     refine Qc 1000 ?_
     simp -implicitDefEqProofs (disch:=omega) only [go_sem,↓reduceIte,reduceCtorEq,rA,rq,Int.reduceToNat,Int.reduceLE,hp1,hp2,hD,g,wn]
     refine Qj hT Yv i2 rfl 1000 ?_
     simp -implicitDefEqProofs (disch:=omega) only [go_sem,↓reduceIte,reduceCtorEq,rq]
     refine ⟨-n,_,rfl,fun m hm e=>?_⟩
     have h1:=hend m hm e
     have h2:=(sgn m hm e).2 hc45
     have h3:-n=m:=by omega
     exact ⟨h3,by rw [h3]; simp [e]⟩
    ·have hc45:c≠45:=fun e=>g (by rw [e]; rfl)
     refine Qc 1000 ?_
     simp -implicitDefEqProofs (disch:=omega) only [go_sem,↓reduceIte,reduceCtorEq,rA,rq,Int.reduceToNat,Int.reduceLE,hp1,hp2,hD,g]
     refine Qj hT Yv i1 rfl 1000 ?_
     simp -implicitDefEqProofs (disch:=omega) only [go_sem,↓reduceIte,reduceCtorEq,rq]
     refine ⟨n,_,rfl,fun m hm e=>?_⟩
     have h1:=hend m hm e
     have h2:¬ m<0:=fun h=>hc45 ((sgn m hm e).1 h)
     have h3:n=m:=by omega
     exact ⟨h3,by rw [h3]; simp [e]⟩
end
section
attribute [local go_sem] nFq nT cAq lM nAq lR Nat.mul_one Nat.one_mul zA zL and_true beq_self_eq_true Xu decide_false decide_true false_implies Qt not_false_eq_true Qot Qos Qor Qoq Qop true_and true_implies
def QrI (w:Nat):List (List UInt8)→V
 | []=>.lst 0 [] true
 | x::l=>.sl 1 w 0 1 (x::l).length none
def QtH (w:Nat):List (List UInt8)→List (Option Ob)
 | []=>[]
 | x::l=>[some (.arr w 9 ((x::l).map V.str))]
theorem QkV (w:Nat) (l:List (List UInt8)) (x:List UInt8):QrI w (l++[x])=.sl 1 w 0 1 (l.length+1) none:=by
 cases l <;> simp [QrI]
theorem QkW (w:Nat) (l:List (List UInt8)) (x:List UInt8):QtH w (l++[x])=[some (.arr w 9 (l.map V.str++[.str x]))]:=by
 cases l <;> simp [QtH]
abbrev dwH (v0:Nat):List (Option Ob):=[some (.arr v0 33 [.int .i64 0,.lst 0 [] true])]
abbrev dwJ (b:List UInt8) (T:Bool) (v0:Nat):Nat→Fr→H→Prop:=fun i fr σ=>∃ (l:List (List UInt8)) (fr0 w t:Nat),fr0≤i∧l.length≤i∧l++wD ((b.take i).drop fr0) (b.drop i)=wD [] b∧Qi fr 0=.lst 1 (Qg b) T∧Qi fr 2=.ptr 0 v0 0∧Qi fr 4=QrI w l∧Qi fr 5=.int .i64 (fr0:Int)∧Qi fr 6=.int .i64 (i:Int)∧σ=⟨t,dwH v0++QtH w l⟩
abbrev dwE (b:List UInt8) (T:Bool) (v0:Nat):AE→Fr→H→Prop:=fun e fr σ=>e=.ex 0∧∃ (w t:Nat),(wD [] b).length≤b.length∧Qi fr 0=.lst 1 (Qg b) T∧Qi fr 2=.ptr 0 v0 0∧Qi fr 4=QrI w (wD [] b)∧σ=⟨t,dwH v0++QtH w (wD [] b)⟩
variable {σ:H} {fr:Fr} {v0:Nat} {T:Bool} {b:List UInt8}
theorem QuB (hT:Qn Tryz.prog tab) (hl:b.length≤1000) {i:Nat} (hi:i<b.length) (hJ:dwJ b T v0 i fr σ) :
 W Tryz.prog G 118 0 wa fr σ (ZB (fun fr σ=>∃ fr' σ',Shift G 118 0 fr σ fr' σ'∧dwJ b T v0 (i+1) fr' σ') (dwE b T v0)):=by
 obtain ⟨l,fr0,w,t,hfr,hll,hw,f0,f2,f4,f5,f6,rfl⟩:=hJ
 have hlt:(i:Int)<(b.length:Int):=by omega
 have e2:=YR hi (by omega)
 have hD:(Qg b).getD i .any=.int .u8 (b[i].toNat:Nat):=Qa8 hi
 have hdr:b.drop i=b[i]::b.drop (i+1):=List.drop_eq_getElem_cons hi
 have htk:(b.take (i+1)).drop fr0=(b.take i).drop fr0++[b[i]]:=by
  rw [List.take_add_one,List.getElem?_eq_getElem hi,List.drop_append,List.length_take]
  simp [show fr0 - min i b.length=0 by omega]
 rw [hdr,wD] at hw
 by_cases g:b[i]=32∨b[i]=10
 ·rw [if_pos g] at hw
  have hx:List.take (i - fr0) (List.drop fr0 (Qg b))=Qg ((b.take i).drop fr0):=by
   rw [ZV,YM,List.drop_take]
  have hfl:=Yf ((b.take i).drop fr0)
  have hof:=Zy ((b.take i).drop fr0)
  have hby:=Yg ((b.take i).drop fr0)
  have hil:i≤b.length:=by omega
  have fin:l++[(b.take i).drop fr0]++wD ((b.take (i+1)).drop (i+1)) (b.drop (i+1))=wD [] b:=by
   rw [show (b.take (i+1)).drop (i+1)=[] by simp,aA]
   exact hw
  have key:∀ (q:Int),((b[i].toNat:Nat):Int)=q→(q=32∨q=10)→W Tryz.prog G 118 0 wa [(0,.lst 1 (Qg b) T),(2,.ptr 0 v0 0),(4,QrI w l),(5,.int .i64 (fr0:Int)),(6,.int .i64 (i:Int))] ⟨t,dwH v0++QtH w l⟩ (ZB (fun fr σ=>∃ fr' σ',Shift G 118 0 fr σ fr' σ'∧dwJ b T v0 (i+1) fr' σ') (dwE b T v0)):=by
   intro q hq hq2
   rw [hq] at hD
   generalize (b.take i).drop fr0=x at *
   have n32:¬ (10:Int)=32:=by decide
   cases l with
   | nil =>
     simp only [QrI,QtH,List.append_nil]
     rcases hq2 with rfl | rfl
     ·refine Qx 1000 ?_
      simp -implicitDefEqProofs (disch:=omega) only [go_sem,↓reduceIte,reduceCtorEq,rq,hlt,hi,hD,hfr,hil,hx]
      simp only [evW]
      simp -implicitDefEqProofs (disch:=omega) only [go_sem,↓reduceIte,reduceCtorEq,rq,rL,rT,hfl,hof,e2]
      exact ⟨_,_,Shift.refl _ _ _ _,[x],i+1,t,t+1,by omega,by simp,fin,rfl,rfl,rfl,rfl,rfl,rfl⟩
     ·refine Qx 1000 ?_
      simp -implicitDefEqProofs (disch:=omega) only [go_sem,↓reduceIte,reduceCtorEq,rA,rq,hlt,hi,hD,hfr,hil,hx,n32]
      simp only [evW]
      simp -implicitDefEqProofs (disch:=omega) only [go_sem,↓reduceIte,reduceCtorEq,rq,rL,rT,hfl,hof,e2]
      exact ⟨_,_,Shift.refl _ _ _ _,[x],i+1,t,t+1,by omega,by simp,fin,rfl,rfl,rfl,rfl,rfl,rfl⟩
   | cons y l =>
     simp only [QrI,QtH]
     rcases hq2 with rfl | rfl
     ·refine Qx 1000 ?_
      simp -implicitDefEqProofs (disch:=omega) only [go_sem,↓reduceIte,reduceCtorEq,rq,hlt,hi,hD,hfr,hil,hx]
      simp only [evW]
      simp -implicitDefEqProofs (disch:=omega) only [go_sem,↓reduceIte,reduceCtorEq,rq,rL,hfl,hof,e2]
      have hll2:l.length+1≤i:=hll
      refine ⟨⟨by omega,by omega⟩,_,_,Shift.refl _ _ _ _,(y::l)++[x],i+1,t,t+1,by omega,by simp; omega,fin,rfl,rfl,by rw [QkV]; rfl,rfl,rfl,?_⟩
      rw [QkW]; rfl
     ·refine Qx 1000 ?_
      simp -implicitDefEqProofs (disch:=omega) only [go_sem,↓reduceIte,reduceCtorEq,rA,rq,hlt,hi,hD,hfr,hil,hx,n32]
      simp only [evW]
      simp -implicitDefEqProofs (disch:=omega) only [go_sem,↓reduceIte,reduceCtorEq,rq,rL,hfl,hof,e2]
      have hll2:l.length+1≤i:=hll
      refine ⟨⟨by omega,by omega⟩,_,_,Shift.refl _ _ _ _,(y::l)++[x],i+1,t,t+1,by omega,by simp; omega,fin,rfl,rfl,by rw [QkV]; rfl,rfl,rfl,?_⟩
      rw [QkW]; rfl
  rcases g with g | g
  ·exact QgA [(0,.lst 1 (Qg b) T),(2,.ptr 0 v0 0),(4,QrI w l),(5,.int .i64 (fr0:Int)),(6,.int .i64 (i:Int))] ⟨f0,f2,f4,f5,f6,trivial⟩ (key 32 (by rw [g]; rfl) (.inl rfl))
  ·exact QgA [(0,.lst 1 (Qg b) T),(2,.ptr 0 v0 0),(4,QrI w l),(5,.int .i64 (fr0:Int)),(6,.int .i64 (i:Int))] ⟨f0,f2,f4,f5,f6,trivial⟩ (key 10 (by rw [g]; rfl) (.inr rfl))
 ·rw [if_neg g,← htk] at hw
  have g1:¬ ((b[i].toNat:Nat):Int)=32:=fun h=>g (.inl (UInt8.toNat_inj.1 (by show b[i].toNat=32; omega)))
  have g2:¬ ((b[i].toNat:Nat):Int)=10:=fun h=>g (.inr (UInt8.toNat_inj.1 (by show b[i].toNat=10; omega)))
  refine Qh [(0,.lst 1 (Qg b) T),(2,.ptr 0 v0 0),(4,QrI w l),(5,.int .i64 (fr0:Int)),(6,.int .i64 (i:Int))] ⟨f0,f2,f4,f5,f6,trivial⟩  1000 ?_
  simp -implicitDefEqProofs (disch:=omega) only [go_sem,↓reduceIte,reduceCtorEq,rA,rq,hlt,hi,hD,g1,g2]
  exact ⟨_,_,Shift.refl _ _ _ _,l,fr0,w,t,by omega,by omega,hw,rfl,rfl,rfl,rfl,by rw [e2]; rfl,rfl⟩
theorem QA5 (hT:Qn Tryz.prog tab) (hJ:dwJ b T v0 b.length fr σ) :
 W Tryz.prog G 118 0 wa fr σ (ZB (fun _ _=>False) (dwE b T v0)):=by
 obtain ⟨l,fr0,w,t,hfr,hll,hw,f0,f2,f4,f5,f6,rfl⟩:=hJ
 rw [List.drop_length,wD,List.append_nil] at hw
 subst hw
 refine Qh [(0,.lst 1 (Qg b) T),(2,.ptr 0 v0 0),(4,QrI w (wD [] b)),(5,.int .i64 (fr0:Int)),(6,.int .i64 (b.length:Int))] ⟨f0,f2,f4,f5,f6,trivial⟩ 1000 ?_
 simp -implicitDefEqProofs (disch:=omega) only [go_sem,↓reduceIte,reduceCtorEq,rq,Int.lt_irrefl]
 exact ⟨rfl,w,t,hll,rfl,rfl,rfl,rfl⟩
theorem QgZ:∀ (l cur:List UInt8),∀ w∈wD cur l,w.length≤cur.length+l.length
 | [],cur,w,h=>by simp [wD] at h
 | b::r,cur,w,h=>by
   unfold wD at h
   split at h
   ·rcases List.mem_cons.1 h with rfl | h
    ·simp
    ·have:=QgZ r [] w h; simp at this ⊢; omega
   ·have:=QgZ r _ w h; simp at this ⊢; omega
def Qf8:List (List Int) × List Int→List Int→List (List Int) × List Int
 | x,[]=>x
 | x,n::l=>Qf8 (if n=0 then (x.1++[x.2],[]) else (x.1,x.2++[n])) l
theorem Qh5:∀ (a b:List Int) (x:List (List Int) × List Int),Qf8 x (a++b)=Qf8 (Qf8 x a) b
 | [],b,x=>rfl
 | n::a,b,x=>by rw [cAq,Qf8,Qf8,Qh5 a b]
theorem Qjr:∀ (c:List Int) (R:List (List Int)) (q:List Int),(∀ n∈c,n≠0)→Qf8 (R,q) (c++[0])=(R++[q++c],[])
 | [],R,q,_=>by simp [Qf8]
 | n::c,R,q,h=>by
   rw [cAq,Qf8,if_neg (h n (by simp)),Qjr c R (q++[n]) (fun m hm=>h m (by simp [hm]))]
   simp
theorem Qfj:∀ (F R:List (List Int)),(∀ c∈F,∀ n∈c,n≠0)→Qf8 (R,[]) (QbA F)=(R++F,[])
 | [],R,_=>by simp [QbA,Qf8]
 | c::F,R,h=>by
   have e:QbA (c::F)=(c++[0])++QbA F:=by simp [QbA]
   rw [e,Qh5,Qjr c R [] (h c (by simp)),Qfj F _ (fun c hc=>h c (by simp [hc]))]
   simp
end
end Go.Proofs.YtingdebioipemaaGreatDoor
