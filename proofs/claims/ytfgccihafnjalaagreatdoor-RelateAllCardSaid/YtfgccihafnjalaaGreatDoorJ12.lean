/- The chapter's examples hold: the last region. -/
import Derived.Test.YtfgccihafnjalaaGreatDoorJ11
import Derived.Test.YtfgccihafnjalaaGreatDoorJ4
import Derived.Test.YtfgccihafnjalaaGreatDoorProg
import Derived.Shelf.SlSortCmp.NoneTotal
import Derived.WalkKit
import Derived.KernelRfl
import Derived.Test.YtfgccihafnjalaaGreatDoorJ5
import Derived.Test.YtfgccihafnjalaaGreatDoorAmD
import Derived.Test.YtfgccihafnjalaaGreatDoorY
open Nat renaming reduceEqDiff → rq, reduceAdd → rA, reduceLeDiff → rL, reduceLT → rT, zero_add → zA, le_refl → lR, zero_le → zL, add_zero → aZ
open List renaming length_cons → lC, length_nil → lN, take_succ_cons → tS, length_append → lA, nil_append → nA, cons_append → cA, append_assoc → aA, take_nil → tN, take_zero → tZ, length_map → lM
open Bool renaming not_false → nF, not_true → nT
namespace Go.Proofs.YtfgccihafnjalaaGreatDoor
open Go Go.Am Go.Re
set_option maxRecDepth 100000
variable {P:Program} {G:Nat→Option V}
set_option maxHeartbeats 2000000
section
attribute [local go_sem] cA List.drop_nil List.drop_succ_cons List.drop_zero lA lC lN nA tN tS tZ aZ lR Nat.mul_one Nat.succ_ne_zero zA and_true beq_self_eq_true false_implies proofmarklaw25_works QzA Qzz Qzy QwL QwK QqA true_implies
def wl:List Pr:=[⟨0,1,5⟩,⟨1,1,5⟩,⟨1,2,0⟩,⟨2,3,3⟩]
theorem QzH:Zw wl 3 2=wl:=by decide +kernel
theorem QHE (L:List Nd):YG L (Qp (ties wl)) (frS wl 32 3).1 3 3=[.int .i64 (Xc L (sy 33)),.int .i64 (Xc L (sy 33)),.int .i64 (Xc L (co 3))]:=by rfl
theorem QzI (L L0:List Nd):QK L (Qp (ties wl)) (frS wl 32 3).1 wl 2 (fun i=>Xc L0 (sy (0+30+((i:Nat):Int)))) 2=[.int .i64 (Xc L (sy 33)),.int .i64 (Xc L0 (sy 31))]:=by rfl
theorem wl_reg (L L0:List Nd) (f:Nat→Int):(QK L (Qp (ties wl)) (frS wl 32 3).1 wl 1 f 32)[5]?=some (.int .i64 (Xc L (sy 33))):=by rfl
theorem QHF (L:List Nd) (h:AllH L (frS wl 32 3).1):Hs L (sy 33)∧Hs L (co 3):=⟨h (⟨0,2,0⟩,.s 33) (by decide +kernel),h (⟨0,3,3⟩,.c 3) (by decide +kernel)⟩
variable {a:V} {rg:List V}
theorem QES (h:rg[5]?=some a) (tl:List V):(rg++tl)[5]?=some a:=by rw [List.getElem?_append_left (List.getElem?_eq_some_iff.1 h).1,h]
theorem QHX (h:rg[5]?=some a) (tl:List V):(rg++tl).getD 5 V.any=a:=by rw [List.getD_eq_getElem?_getD,QES h]; rfl
theorem Quf (h:rg.length=32) (tl:List V):(rg++a::tl)[32]?=some a:=by rw [List.getElem?_append_right (by omega),h]; rfl
theorem QxO (h:rg.length=32) (tl:List V):(rg++a::tl).getD 32 V.any=a:=by rw [List.getD_eq_getElem?_getD,Quf h]; rfl
theorem wk_r5 (hT:Qh P tab) (F:Fmt P G) {v0 v1 v2 v3 v4 t:Nat} {L:List Nd} {a0 a31 lk:Int} {sure:Bool} {Q:V→Am.H→Prop} (hQ:∀ σ,Q (.bool true) σ) (hL:L.length≤100000) (hr:rg.length=32) (h5:rg[5]?=some (.int .i64 a0)) (hA2:Hs L (co 3)) (hne:a31≠a0) :
 W P G 117 0 (.seq (.reg QqA [38,39,40,41,42,43,44,45,46,47,48,49,50,51,52,53,54,55,56,57,58,59,60,61,62,63,64,65,66,67,68,69,70,71,72,73,74,75,76,77,78,79,80,81,82,83,84,85,86,87,88,89,90,91,92,93,94,95,96,97,98,99,100,101,102,103,104,105,106,107,108,109,110,111,112,113,114,115,116]) .ret) [(2,.ref (.agg [.int .u8 2,.int .i64 0]) 0),(4,.lst 3 (prs [⟨1,2,0⟩]) false),(5,.ptr 1 v0 0),(6,.ref (.agg (woF [.int .i64 a0,.int .i64 a0,.int .i64 (Xc L (co 3))] lk rg [.int .i64 a0,.int .i64 a31] sure)) 0)] ⟨t,kG F.fmt v0 v1 v2 v3 v4 L⟩ (QoH G proofmarklaw25_works.res Q):=by
 have g1:=QES h5
 have g2:=QHX h5
 have g3:=fun a tl=>Quf (a:=a) hr tl
 have g4:=fun a tl=>QxO (a:=a) hr tl
 have hne':(a31 != a0)=true:=by simpa using hne
 have c1:((1:Nat):Int)=1:=rfl
 have c2:((2:Nat):Int)=2:=rfl
 have c3:((3:Nat):Int)=3:=rfl
 have eq0:(a0==a0)=true:=by simp
 have hcv:=fun t=>QdA (P:=P) (G:=G) hT F (v0:=v0) (v1:=v1) (v2:=v2) (v3:=v3) (v4:=v4) (t:=t) (L:=L) (ex:=[]) (n:=3) (by unfold i64; omega) (by omega)
 simp only [prs,prV,prC,woF,List.map_cons,List.map_nil,List.append_nil] at hcv ⊢
 refine Ql 12 ?_
 simp -implicitDefEqProofs (disch:=omega) only [go_sem,↓reduceIte,reduceCtorEq,rA,rq,rL,rT,Int.reduceToNat,Int.reduceLE,c1]
 iterate 6 (try (refine Qa 14 ?_; simp -implicitDefEqProofs (disch:=omega) only [go_sem,↓reduceIte,rA,rq,rL,rT,Int.reduceToNat,Int.reduceLE,hr,g2,g4,c2,c3]))
 repeat' (first | with_reducible refine And.intro ?_ ?_ | (refine Qa 10 ?_; simp -implicitDefEqProofs (disch:=omega) only [go_sem,↓reduceIte,rA,rq]))
 all_goals
  refine CV.use 10 (CV.of hT XD (hcv _)) fun v σ hv=>?_
  obtain ⟨L2,t2,w2,w3,w4,x1,x2,x3,x4,rfl,rfl⟩:=hv
  rw [Xm hA2 x1]
  have eq2:(Xc L (co 3)==Xc L (co 3))=true:=by simp
  simp -implicitDefEqProofs (disch:=omega) only [go_sem,↓reduceIte,rA,rq,rL,rT,Int.reduceToNat,Int.reduceLE,hr,g4]
  iterate 8 (try (refine Qa 10 ?_; simp -implicitDefEqProofs (disch:=omega) only [go_sem,↓reduceIte,reduceCtorEq,rA,rq,rL,Int.reduceToNat,Int.reduceLE,hr,hne']))
  exact hQ _
end
section
attribute [local go_sem] nF lR zA zL proofmarklaw25_works QzA Qzz Qzy QwL QwK QqA
variable {t:Nat}
theorem wk_box {X:V} (hX:X.cells=[X]∨True) (hn:Qd X=true) (hf:∀ k w cs,X8 k w cs X=X):Shift G 117 0 [(1,.ptr 0 t 0),(2,.ptr 1 (t+1) 0),(3,.ptr 2 (t+1+1) 0),(4,X)] ⟨t+1+1+1,[some (.arr t 62 [.int .u8 1,.int .i64 5]),some (.arr (t+1) 62 [.int .u8 2,.int .i64 0]),some (.arr (t+1+1) 62 [.int .u8 3,.int .i64 3])]⟩
 [(1,.ref (.agg [.int .u8 1,.int .i64 5]) 0),(2,.ref (.agg [.int .u8 2,.int .i64 0]) 0),(3,.ref (.agg [.int .u8 3,.int .i64 3]) 0),(4,X)] ⟨t+1+1+1,[]⟩:=by
 refine (Shift.freeze (k:=0) (zL _) rfl rfl).trans ?_
 simp only [QC,QW,hf,X8,QA,Ob.mapV,List.set_cons_zero,Option.map_none,Option.map_some,List.map_cons,List.map_nil,Nat.succ_ne_zero,false_and,true_and,if_true,if_false,reduceCtorEq]
 refine (Shift.freeze (k:=1) (zL _) rfl rfl).trans ?_
 simp only [QC,QW,hf,X8,QA,Ob.mapV,List.set_cons_zero,List.set_cons_succ,Option.map_none,Option.map_some,List.map_cons,List.map_nil,rq,false_and,true_and,if_true,if_false,reduceCtorEq]
 refine (Shift.freeze (k:=2) (zL _) rfl rfl).trans ?_
 simp only [QC,QW,hf,X8,QA,List.set_cons_zero,List.set_cons_succ,Option.map_none,true_and,if_true,if_false,reduceCtorEq]
 exact Shift.drop (o':=[]) trivial (lR _) (zL _)
theorem QAN (l:List Pr) (tg:Bool) (k w:Nat) (cs:List V):X8 k w cs (.lst 3 (prs l) tg)=.lst 3 (prs l) tg:=by simp [X8]
theorem wk_end (hT:Qh P tab) (F:Fmt P G) {v0 v1 v2 v3 v4 w:Nat} {L L0:List Nd} {Q:V→Am.H→Prop} (hQ:∀ σ,Q (.bool true) σ) (hL:L.length≤100000) (hS:AllS L0 0 2) (hE:Ext L0 L) (hA:AllH L (frS wl 32 3).1) :
 W P G 117 0 (.seq (.reg QqA [38,39,40,41,42,43,44,45,46,47,48,49,50,51,52,53,54,55,56,57,58,59,60,61,62,63,64,65,66,67,68,69,70,71,72,73,74,75,76,77,78,79,80,81,82,83,84,85,86,87,88,89,90,91,92,93,94,95,96,97,98,99,100,101,102,103,104,105,106,107,108,109,110,111,112,113,114,115,116]) .ret) [(2,.ref (.agg [.int .u8 2,.int .i64 0]) 0),(4,.lst 3 (prs [⟨1,2,0⟩]) false),(5,.ptr 1 v0 0),(6,.ptr 5 w 0)] ⟨t,kG F.fmt v0 v1 v2 v3 v4 L++[some (.arr w 49 (frV L0 L 0 wl 32 3 2 2))]⟩ (QoH G proofmarklaw25_works.res Q):=by
 have hnl:=QuF L0 L 0 wl 32 3 2 2
 have hsh:Shift G 117 0 [(2,.ref (.agg [.int .u8 2,.int .i64 0]) 0),(4,.lst 3 (prs [⟨1,2,0⟩]) false),(5,.ptr 1 v0 0),(6,.ptr 5 w 0)] ⟨t,kG F.fmt v0 v1 v2 v3 v4 L++[some (.arr w 49 (frV L0 L 0 wl 32 3 2 2))]⟩ [(2,.ref (.agg [.int .u8 2,.int .i64 0]) 0),(4,.lst 3 (prs [⟨1,2,0⟩]) false),(5,.ptr 1 v0 0),(6,.ref (.agg (frV L0 L 0 wl 32 3 2 2)) 0)] ⟨t,kG F.fmt v0 v1 v2 v3 v4 L⟩:=by
  refine (Shift.freeze (k:=5) (zL _) rfl hnl).trans ?_
  have hne:¬ frV L0 L 0 wl 32 3 2 2=[]:=by simp [frV,woF]
  have e:(kG F.fmt v0 v1 v2 v3 v4 L++[some (Ob.arr w 49 (frV L0 L 0 wl 32 3 2 2))]).set 5 none=kG F.fmt v0 v1 v2 v3 v4 L++[none]:=rfl
  rw [e,Z4 (by decide)]
  simp only [QC,QW,X8,hne,QA,rq,false_and,and_self,if_true,if_false]
  exact Shift.drop (XK _ _) (lR _) (zL _)
 refine QfS hsh ?_
 unfold frV
 rw [QHE,QzI]
 obtain ⟨h33,h3⟩:=QHF L hA
 refine wk_r5 hT F hQ hL (Xs _ _ _ _ _ _ _) (wl_reg L L0 _) h3 ?_
 have h31:Hs L0 (sy 31):=hS 1 (by decide)
 rw [← Xm h31 hE]
 intro he
 have:=(Qf3 (h31.ext hE) h33).1 he
 exact absurd this (by decide)
theorem QA5 (hT:Qh P tab) (F:Fmt P G) (hS:Qb0 P G) (hfn:Am.Pure P G Qr [.int .u8 2] fun v=>v=.agg (fnC 2)):Works P G:=by
 refine fun t=>Xq 0 (zL _) (Q0 hT Xe (by simp [proofmarklaw25_works]) ?_)
 show W P G 117 0 (.seq (.reg QzA []) (.seq (.reg Qzz [8,9,10]) (.seq (.reg Qzy [11,12,13,14,15,16,17,18,19,20,21]) (.seq (.reg QwL [22]) (.seq (.reg QwK [24,25,26,27,28,29,30,31,32,33,34,35,23,36,37,7]) (.seq (.reg QqA [38,39,40,41,42,43,44,45,46,47,48,49,50,51,52,53,54,55,56,57,58,59,60,61,62,63,64,65,66,67,68,69,70,71,72,73,74,75,76,77,78,79,80,81,82,83,84,85,86,87,88,89,90,91,92,93,94,95,96,97,98,99,100,101,102,103,104,105,106,107,108,109,110,111,112,113,114,115,116]) .ret)))))) _ _ (QoH G proofmarklaw25_works.res _)
 obtain ⟨T3,hT3⟩:∃ c:AC,c=.seq (.reg QwL [22]) (.seq (.reg QwK [24,25,26,27,28,29,30,31,32,33,34,35,23,36,37,7]) (.seq (.reg QqA [38,39,40,41,42,43,44,45,46,47,48,49,50,51,52,53,54,55,56,57,58,59,60,61,62,63,64,65,66,67,68,69,70,71,72,73,74,75,76,77,78,79,80,81,82,83,84,85,86,87,88,89,90,91,92,93,94,95,96,97,98,99,100,101,102,103,104,105,106,107,108,109,110,111,112,113,114,115,116]) .ret)):=⟨_,rfl⟩
 rw [← hT3]
 refine Ql 14 ?_
 simp -implicitDefEqProofs (disch:=omega) only [go_sem,↓reduceIte,reduceCtorEq,rA,rq,rL,and_true,lC,lN,cA,nA,List.getElem?_cons_zero,List.getElem?_cons_succ,List.set_cons_zero,List.set_cons_succ,tS,tZ,List.drop_succ_cons,List.drop_zero,List.drop_nil]
 iterate 5 (try (refine Qa 10 ?_; simp -implicitDefEqProofs (disch:=omega) only [go_sem,↓reduceIte,reduceCtorEq,rA,rq,rL,false_implies,and_true,lC,lN,cA,nA,List.getElem?_cons_zero,List.getElem?_cons_succ,List.set_cons_zero,List.set_cons_succ,tS,tZ,tN,List.drop_succ_cons,List.drop_zero,List.drop_nil]))
 refine QX hT QhK (c_Meet hT hS [⟨0,1,5⟩,⟨1,2,0⟩] [⟨1,2,0⟩,⟨2,3,3⟩] true true (by simp) (by simp)) rfl 2 ?_
 have hm:meet [⟨0,1,5⟩,⟨1,2,0⟩] [⟨1,2,0⟩,⟨2,3,3⟩]=[⟨1,2,0⟩]:=by decide +kernel
 rw [hm]
 refine ya ?_
 refine Qd3 ?_
 refine Xv [(1,.ptr 0 t 0),(2,.ptr 1 (t+1) 0),(3,.ptr 2 (t+1+1) 0),(4,.lst 3 (prs [⟨1,2,0⟩]) false)] (by simp only [QH]; simp -implicitDefEqProofs (disch:=omega) only [go_sem,↓reduceIte,reduceCtorEq,rq]; done) ?_
 refine QfS (wk_box (.inr trivial) (by rfl) (QAN _ _)) ?_
 rw [hT3]
 obtain ⟨T5,hT5⟩:∃ c:AC,c=.seq (.reg QqA [38,39,40,41,42,43,44,45,46,47,48,49,50,51,52,53,54,55,56,57,58,59,60,61,62,63,64,65,66,67,68,69,70,71,72,73,74,75,76,77,78,79,80,81,82,83,84,85,86,87,88,89,90,91,92,93,94,95,96,97,98,99,100,101,102,103,104,105,106,107,108,109,110,111,112,113,114,115,116]) .ret:=⟨_,rfl⟩
 rw [← hT5]
 refine Ql 14 ?_
 refine ya ?_
 refine call hT QfX (QI9 hT (o:=[]) (zL _)) 14 fun v σ hv=>?_
 obtain ⟨v0,v1,v2,v3,v4,t',i1,i2,i3,i4,ht',rfl,rfl,rfl,rfl,rfl,rfl⟩:=hv
 have hk0:([]:List (Option Ob))++[some (.map v1 []),some (.arr v0 93 [.sl (([]:List (Option Ob)).length+2) v2 0 6 0 none,.mp ([]:List (Option Ob)).length v1,.sl (([]:List (Option Ob)).length+3) v3 0 1 0 none,.sl (([]:List (Option Ob)).length+4) v4 0 1 0 none]),some (.arr v2 108 []),some (.arr v3 3 []),some (.arr v4 3 [])]=kG F.fmt v0 v1 v2 v3 v4 []++[]:=by
  simp [kG,Qf8,ndC,Qg8,QgZ]
 rw [hk0]
 simp -implicitDefEqProofs (disch:=omega) only [go_sem,↓reduceIte,reduceCtorEq,rA,rq,rL,false_implies,and_true,lC,lN,cA,nA,tS,tZ,tN,List.drop_succ_cons,List.drop_zero,List.drop_nil]
 have hFr:=fun (ex:List (Option Ob)) (t:Nat)=>QpY (P:=P) (G:=G) hT F hS (v0:=v0) (v1:=v1) (v2:=v2) (v3:=v3) (v4:=v4) (t:=t) (L:=[]) wl true (by decide) (by intro x hx; simp only [wl,List.mem_cons,List.not_mem_nil,or_false] at hx; rcases hx with rfl | rfl | rfl | rfl <;> (unfold i64; simp)) 3 2 (by decide) (by decide) 0 0 (by decide) (by simp) ex
 repeat' (first | with_reducible refine And.intro ?_ ?_ | (refine QX hT QG hfn rfl 14 ?_; simp -implicitDefEqProofs (disch:=omega) only [go_sem,↓reduceIte,rA,rq,rL,and_true,lC,lN,cA,nA,tS,tZ,tN,List.drop_succ_cons,List.drop_zero,List.drop_nil,QcM]) | (refine Qa 6 ?_; simp -implicitDefEqProofs (disch:=omega) only [go_sem,↓reduceIte,rA,rq,rL,and_true,lC,lN,cA,nA,lA,tS,tZ,tN,List.drop_succ_cons,List.drop_zero,List.drop_nil,QcM]))
 all_goals
  first
   | refine call hT Zg (hFr [] _) 7 fun v σ hv=>?_
   | refine call hT Zg (hFr [_] _) 6 fun v σ hv=>?_
  obtain ⟨L0,L',t2,u2,u3,u4,ps,hps,b,hb,h1,h2,h3,h4,h5,h6,rfl,rfl⟩:=hv
  have e0:max (0:Int) 0=0:=rfl
  have e1:Zk 2 0=2:=rfl
  rw [e1,QzH] at hps
  subst hps
  rw [e0,e1] at hb h3
  have hb':b=32:=by rw [hb]; rfl
  subst hb'
  rw [e0,e1]
  have hlen:(frV L0 L' 0 wl 32 3 2 2).length=36:=by simp [frV,woF,Xs]
  have hones:ones (frV L0 L' 0 wl 32 3 2 2):=by
   intro c hc
   simp only [frV,woF,QK,List.mem_cons,List.mem_append,List.mem_map,List.not_mem_nil,or_false] at hc
   rcases hc with rfl | rfl | ⟨r,_,rfl⟩ | rfl | rfl <;> rfl
  have hend:=fun (t w:Nat)=>wk_end (P:=P) (G:=G) hT F (v0:=v0) (v1:=v1) (v2:=u2) (v3:=u3) (v4:=u4) (t:=t) (w:=w) (Q:=Keep 0 fun v x=>Qd v=true∧v=V.bool true) (fun σ=>⟨zL _,rfl,rfl⟩) (L0:=L0) (L:=L') (by simp at h5; omega) h3 h4 h6
  obtain ⟨wo,hwo⟩:∃ wo,wo=frV L0 L' 0 wl 32 3 2 2:=⟨_,rfl⟩
  rw [← hwo] at hlen hones hend ⊢
  have htk:List.take 36 wo=wo:=List.take_of_length_le (by omega)
  simp -implicitDefEqProofs (disch:=omega) only [go_sem,↓reduceIte,rA,rq,rT,and_true,lC,lN,nA,tZ,List.drop_succ_cons,List.drop_nil,QcM,Qkg,QdB,hlen,hones,List.append_nil]
  rw [hT5]
  refine Qd3 (Xv [(2,.ref (.agg [.int .u8 2,.int .i64 0]) 0),(4,.lst 3 (prs [⟨1,2,0⟩]) false),(5,.ptr 1 v0 0),(6,.ptr 5 _ 0)] (by simp only [QH]; simp -implicitDefEqProofs (disch:=omega) only [go_sem,↓reduceIte,rq]; done) (hend _ _))
end
end Go.Proofs.YtfgccihafnjalaaGreatDoor
namespace Go.Proofs.YtfgccihafnjalaaGreatDoor
open Go Go.Am Go.Sort Go.Re
set_option maxRecDepth 100000
set_option maxHeartbeats 2000000
theorem w_nan1 (x:Int) (w:World):Calls Tryz.prog 79 #[.int .i64 x] w fun e w'=>e=.returned (.bool false)∧w'=w:=by
 go_enter Tryz.func79,Tryz.ntmps79
 go_wp2
 go_ret
 simp
theorem w_nan2 (x:Int) (w:World):Calls Tryz.prog 80 #[.int .u8 x] w fun e w'=>e=.returned (.bool false)∧w'=w:=by
 go_enter Tryz.func80,Tryz.ntmps80
 go_wp2
 go_ret
 simp
theorem w_nan3 (x:Int) (w:World):Calls Tryz.prog 81 #[.int .i64 x] w fun e w'=>e=.returned (.bool false)∧w'=w:=by
 go_enter Tryz.func81,Tryz.ntmps81
 go_wp2
 go_ret
 simp
def Qwk (x y:Int):Int:=if x<y then -1 else if y<x then 1 else 0
theorem w_cmp1 (x y:Int) (w:World):Calls Tryz.prog 56 #[.int .i64 x,.int .i64 y] w fun e w'=>e=.returned (.int .i64 (Qwk x y))∧w'=w:=by
 unfold Qwk
 go_enter Tryz.func56,Tryz.ntmps56
 go_wp2_with (go_at_call 79; refine (w_nan1 _ _).mono ?_; rintro e w' ⟨rfl,rfl⟩)
 all_goals (go_ret)
 all_goals (try simp_all)
theorem w_cmp2 (x y:Int) (w:World):Calls Tryz.prog 57 #[.int .u8 x,.int .u8 y] w fun e w'=>e=.returned (.int .i64 (Qwk x y))∧w'=w:=by
 unfold Qwk
 go_enter Tryz.func57,Tryz.ntmps57
 go_wp2_with (go_at_call 80; refine (w_nan2 _ _).mono ?_; rintro e w' ⟨rfl,rfl⟩)
 all_goals (go_ret)
 all_goals (try simp_all)
theorem w_cmp3 (x y:Int) (w:World):Calls Tryz.prog 58 #[.int .i64 x,.int .i64 y] w fun e w'=>e=.returned (.int .i64 (Qwk x y))∧w'=w:=by
 unfold Qwk
 go_enter Tryz.func58,Tryz.ntmps58
 go_wp2_with (go_at_call 81; refine (w_nan3 _ _).mono ?_; rintro e w' ⟨rfl,rfl⟩)
 all_goals (go_ret)
 all_goals (try simp_all)
def orI (x y z:Int):Int:=if x≠0 then x else if y≠0 then y else z
theorem w_Or (x y z:Int) (b o c:Nat) (w:World) (h0:w.cell? ⟨b,o,none⟩=some (.int .i64 x)) (h1:w.cell? ⟨b,o+1,none⟩=some (.int .i64 y)) (h2:w.cell? ⟨b,o+2,none⟩=some (.int .i64 z)) :
 Calls Tryz.prog 55 #[.slice (some ⟨b,o,none⟩) 3 c] w fun e w'=>e=.returned (.int .i64 (orI x y z))∧w'=w:=by
 by_cases hx:x=0
 ·by_cases hy:y=0
  ·have e:orI x y z=z:=by simp [orI,hx,hy]
   rw [e]
   by_cases hz:z=0
   ·subst hx hy hz
    go_enter Tryz.func55,Tryz.ntmps55
    go_wp2
    refine wp_loop_rounds 4 ?_
    rw [rounds_succ]
    go_wp2
    rw [rounds_succ]
    go_wp2
    rw [rounds_succ]
    go_wp2
    rw [rounds_succ]
    go_wp2
    go_ret
    exact ⟨rfl,rfl⟩
   ·subst hx hy
    go_enter Tryz.func55,Tryz.ntmps55
    go_wp2
    refine wp_loop_rounds 4 ?_
    rw [rounds_succ]
    go_wp2
    rw [rounds_succ]
    go_wp2
    rw [rounds_succ]
    go_wp2
    go_ret
    exact ⟨rfl,rfl⟩
  ·have e:orI x y z=y:=by simp [orI,hx,hy]
   rw [e]
   subst hx
   go_enter Tryz.func55,Tryz.ntmps55
   go_wp2
   refine wp_loop_rounds 4 ?_
   rw [rounds_succ]
   go_wp2
   rw [rounds_succ]
   go_wp2
   go_ret
   exact ⟨rfl,rfl⟩
 ·have e:orI x y z=x:=by simp [orI,hx]
  rw [e]
  go_enter Tryz.func55,Tryz.ntmps55
  go_wp2
  refine wp_loop_rounds 4 ?_
  rw [rounds_succ]
  go_wp2
  go_ret
  exact ⟨rfl,rfl⟩
def cfP (x y:Pr):Int:=orI (Qwk x.v y.v) (Qwk x.k y.k) (Qwk x.n y.n)
def ordT:Tr:=.pu 0 (.rd 1 (.pu 2 (.rd 3 (.pu 5 (.pu 6 (.rd 7 (.pu 8 (.pu 9 (.rd 10 (.pu 12 (.pu 13 (.rd 14 (.pu 15 (.pu 16 (.rd 17 (.op 4 true (.op 11 true (.op 18 false (.op 19 false (.op 20 false (.pu 21 (.done))))))))))))))))))))))
def ordS (b:Nat):SZ:=⟨⟨fun c _=>c=b∨c=b+1,fun _=>False⟩,⟨fun c _=>c=b∨c=b+1,fun _=>False⟩⟩
variable {v:Value} {o:Oper} {w:World} {a:Act} {S:SZ} {t:Tr} {i b:Nat} {Q:Act→World→Prop} {ops:Array Oper} {P:Program}
theorem Qvr (d:Nat) (ho:ops[i]?=some o) (hg:o.guard=none∧o.dst=some d)
 (hv:∀ w',Ek S.s w w'→(execOp a.eval o).run P w'=.ok (.value v) w') (h:RTree P ops Q t S (a.put (some d) v) w):RTree P ops Q (.rd i t) S a w :=
 ⟨o,v,ho,.inl ⟨by simp [Region.wanted,hg.1],hv⟩,hg.2▸h⟩
theorem QlS (d:Nat) (ho:ops[i]?=some o) (hg:o.guard=none∧o.dst=some d)
 (hv:∀ w',Ek S.z w w'→(execOp a.eval o).run P w'=.ok (.value v) w') (h:RTree P ops Q t S (a.put (some d) v) w):RTree P ops Q (.pu i t) S a w :=
 ⟨o,v,ho,.inl ⟨by simp [Region.wanted,hg.1],hv⟩,hg.2▸h⟩
variable {k:Bool}
theorem Qpk {f:FuncId} {args:Array Value} {R:Ending→World→Prop} (d:Nat) (ho:ops[i]?=some o) (hg:o.guard=none∧o.dst=some d)
 (hv:(execOp a.eval o).run P w=.ok (.enter f args) w) (hc:Calls P f args w R) (h:∀ e w',R e w'→∃ v,e=.returned v∧w'=w∧RTree P ops Q t S (a.put (some d) v) w'):RTree P ops Q (.op i k t) S a w:=by
 refine ⟨o,ho,?_⟩
 rw [if_pos (by simp [Region.wanted,hg.1]),op1,hv,hg.2]
 exact hc.mono fun e w' hr=>by
  obtain ⟨v,h1,h2,h4⟩:=h e w' hr
  subst h2
  exact ⟨v,h1,S,⟨Sg.le.refl _,Ek.refl _ _⟩,fun _=>⟨Sg.le.refl _,Ek.refl _ _⟩,h4⟩
theorem rt_new {w':World} (d:Nat) (ho:ops[i]?=some o) (hg:o.guard=none∧o.dst=some d)
 (hv:(execOp a.eval o).run P w=.ok (.value v) w') (hz:Ek S.z w w') (hs:Ek S.s w w') (h:RTree P ops Q t S (a.put (some d) v) w'):RTree P ops Q (.op i k t) S a w:=by
 refine ⟨o,ho,?_⟩
 rw [if_pos (by simp [Region.wanted,hg.1]),op1,hv,hg.2]
 exact ⟨S,⟨Sg.le.refl _,hz⟩,fun _=>⟨Sg.le.refl _,hs⟩,h⟩
theorem alloc_old (w:World) (o:Obj) {c:Nat} (h:c<w.heap.size):(w.alloc o).heap[c]?=w.heap[c]?:=by
 show (w.heap.push o)[c]?=_
 simp [Array.getElem?_push,Nat.ne_of_lt h]
theorem QfR (w:World) (o:Obj):(w.alloc o).heap[w.heap.size]?=some o:=by
 show (w.heap.push o)[w.heap.size]?=_
 simp
theorem QmV {T:Nat} {cs:Array Value} (h:w.heap[b]?=some (.cells cs T)):w.cell? ⟨b,i,none⟩=cs[i]?:=by
 simp [World.cell?,h]
theorem QEY (h:b+1<w.heap.size) (o:Obj):Ek ⟨fun c _=>c=b∨c=b+1,fun _=>False⟩ w (w.alloc o) :=
 ⟨rfl,rfl,rfl,by simp,fun c o' e=>by
  have hc:c<w.heap.size:=by rcases e with e | e <;> omega
  show World.cell? (w.alloc o) _=_
  simp only [World.cell?,alloc_old w o hc],fun _ h=>h.elim⟩
theorem QzJ (K O3:Int→Int→Int) (O:Int→Int→Int→Int) (h1:∀ x y w,Calls Tryz.prog 56 #[.int .i64 x,.int .i64 y] w fun e w'=>e=.returned (.int .i64 (K x y))∧w'=w)
 (h2:∀ x y w,Calls Tryz.prog 57 #[.int .u8 x,.int .u8 y] w fun e w'=>e=.returned (.int .i64 (K x y))∧w'=w) (h3:∀ x y w,Calls Tryz.prog 58 #[.int .i64 x,.int .i64 y] w fun e w'=>e=.returned (.int .i64 (K x y))∧w'=w)
 (hO:∀ x y z b o c w,w.cell? ⟨b,o,none⟩=some (.int .i64 x)→w.cell? ⟨b,o+1,none⟩=some (.int .i64 y)→w.cell? ⟨b,o+2,none⟩=some (.int .i64 z)→Calls Tryz.prog 55 #[.slice (some ⟨b,o,none⟩) 3 c] w fun e w'=>e=.returned (.int .i64 (O x y z))∧w'=w)
 (x y:Pr) (w:World):Calls Tryz.prog 31 #[.agg #[.int .i64 x.v,.int .u8 x.k,.int .i64 x.n],.agg #[.int .i64 y.v,.int .u8 y.k,.int .i64 y.n]] w fun e w'=>e=.returned (.int .i64 (O (K x.v y.v) (K x.k y.k) (K x.n y.n)))∧∃ q os',w'=grow (w.drewN q) os':=by
 go_enter Tryz.func31,Tryz.ntmps31
 go_wp2_with (first | (go_at_call 56; refine (h1 _ _ _).mono ?_; rintro e w' ⟨rfl,rfl⟩) | (go_at_call 57; refine (h2 _ _ _).mono ?_; rintro e w' ⟨rfl,rfl⟩) | (go_at_call 58; refine (h3 _ _ _).mono ?_; rintro e w' ⟨rfl,rfl⟩))
 have hw2:∃ w2,w2=((w.alloc (.cells #[.int .i64 x.v,.int .u8 x.k,.int .i64 x.n] 64)).alloc (.cells #[.int .i64 y.v,.int .u8 y.k,.int .i64 y.n] 64)).drew:=⟨_,rfl⟩
 obtain ⟨w2,hw2⟩:=hw2
 refine Qxj (t:=ordT) (kd:=fun i=>[3,0,3,0,1,3,3,0,3,3,0,1,3,3,0,3,3,0,2,2,2,3].getD i 0) (S:=ordS w.heap.size) (by kernel_rfl) (by kernel_rfl) ?_
 rw [← hw2]
 have hsz:w2.heap.size=w.heap.size+2:=by rw [hw2]; simp
 have hx0:w2.heap[w.heap.size]?=some (.cells #[.int .i64 x.v,.int .u8 x.k,.int .i64 x.n] 64):=by
  rw [hw2]
  exact (alloc_old _ _ (by simp)).trans (QfR w _)
 have hy0:w2.heap[w.heap.size+1]?=some (.cells #[.int .i64 y.v,.int .u8 y.k,.int .i64 y.n] 64):=by
  rw [hw2]
  have:=QfR (w.alloc (.cells #[.int .i64 x.v,.int .u8 x.k,.int .i64 x.n] 64)) (.cells #[.int .i64 y.v,.int .u8 y.k,.int .i64 y.n] 64)
  rwa [show (w.alloc (.cells #[.int .i64 x.v,.int .u8 x.k,.int .i64 x.n] 64)).heap.size=w.heap.size+1 by simp] at this
 have cx:∀ (i:Nat) (v:Value),(#[Value.int .i64 x.v,.int .u8 x.k,.int .i64 x.n])[i]?=some v→∀ w',Ek (ordS w.heap.size).s w2 w'→w'.cell? ⟨w.heap.size,i,none⟩=some v:=fun i v hv w' hk=>by
  rw [hk.cells _ _ (.inl rfl),QmV hx0]; exact hv
 have cy:∀ (i:Nat) (v:Value),(#[Value.int .i64 y.v,.int .u8 y.k,.int .i64 y.n])[i]?=some v→∀ w',Ek (ordS w.heap.size).s w2 w'→w'.cell? ⟨w.heap.size+1,i,none⟩=some v:=fun i v hv w' hk=>by
  rw [hk.cells _ _ (.inr rfl),QmV hy0]; exact hv
 refine QlS (v:=.pointer (some ⟨w.heap.size,0,none⟩)) 5 rfl ⟨rfl,rfl⟩ (fun w' hk=>?_) ?_
 ·go_simp
 refine Qvr (v:=.int .i64 x.v) 6 rfl ⟨rfl,rfl⟩ (fun w' hk=>?_) ?_
 ·have:=cx 0 _ rfl w' hk
  go_simp
 refine QlS (v:=.pointer (some ⟨w.heap.size+1,0,none⟩)) 7 rfl ⟨rfl,rfl⟩ (fun w' hk=>?_) ?_
 ·go_simp
 refine Qvr (v:=.int .i64 y.v) 8 rfl ⟨rfl,rfl⟩ (fun w' hk=>?_) ?_
 ·have:=cy 0 _ rfl w' hk
  go_simp
 refine QlS (v:=.pointer (some ⟨w.heap.size,1,none⟩)) 10 rfl ⟨rfl,rfl⟩ (fun w' hk=>?_) ?_
 ·go_simp
 refine QlS (v:=.pointer (some ⟨w.heap.size,1,none⟩)) 11 rfl ⟨rfl,rfl⟩ (fun w' hk=>?_) ?_
 ·go_simp
 refine Qvr (v:=.int .u8 x.k) 12 rfl ⟨rfl,rfl⟩ (fun w' hk=>?_) ?_
 ·have:=cx 1 _ rfl w' hk
  go_simp
 refine QlS (v:=.pointer (some ⟨w.heap.size+1,1,none⟩)) 13 rfl ⟨rfl,rfl⟩ (fun w' hk=>?_) ?_
 ·go_simp
 refine QlS (v:=.pointer (some ⟨w.heap.size+1,1,none⟩)) 14 rfl ⟨rfl,rfl⟩ (fun w' hk=>?_) ?_
 ·go_simp
 refine Qvr (v:=.int .u8 y.k) 15 rfl ⟨rfl,rfl⟩ (fun w' hk=>?_) ?_
 ·have:=cy 1 _ rfl w' hk
  go_simp
 refine QlS (v:=.pointer (some ⟨w.heap.size,1,none⟩)) 17 rfl ⟨rfl,rfl⟩ (fun w' hk=>?_) ?_
 ·go_simp
 refine QlS (v:=.pointer (some ⟨w.heap.size,2,none⟩)) 18 rfl ⟨rfl,rfl⟩ (fun w' hk=>?_) ?_
 ·go_simp
 refine Qvr (v:=.int .i64 x.n) 19 rfl ⟨rfl,rfl⟩ (fun w' hk=>?_) ?_
 ·have:=cx 2 _ rfl w' hk
  go_simp
 refine QlS (v:=.pointer (some ⟨w.heap.size+1,1,none⟩)) 20 rfl ⟨rfl,rfl⟩ (fun w' hk=>?_) ?_
 ·go_simp
 refine QlS (v:=.pointer (some ⟨w.heap.size+1,2,none⟩)) 21 rfl ⟨rfl,rfl⟩ (fun w' hk=>?_) ?_
 ·go_simp
 refine Qvr (v:=.int .i64 y.n) 22 rfl ⟨rfl,rfl⟩ (fun w' hk=>?_) ?_
 ·have:=cy 2 _ rfl w' hk
  go_simp
 refine Qpk (f:=56) (args:=#[.int .i64 x.v,.int .i64 y.v]) 9 rfl ⟨rfl,rfl⟩ (by go_simp) (h1 _ _ _) (fun e w3 ⟨he,hw3⟩=>⟨_,he,hw3,?_⟩)
 subst hw3
 refine Qpk (f:=57) (args:=#[.int .u8 x.k,.int .u8 y.k]) 16 rfl ⟨rfl,rfl⟩ (by go_simp) (h2 _ _ _) (fun e w4 ⟨he,hw4⟩=>⟨_,he,hw4,?_⟩)
 subst hw4
 refine Qpk (f:=58) (args:=#[.int .i64 x.n,.int .i64 y.n]) 23 rfl ⟨rfl,rfl⟩ (by go_simp) (h3 _ _ _) (fun e w5 ⟨he,hw5⟩=>⟨_,he,hw5,?_⟩)
 subst hw5
 subst_vars
 clear hx0 hy0 cx cy h1 h2 h3
 generalize hw3:((w.alloc (.cells #[.int .i64 x.v,.int .u8 x.k,.int .i64 x.n] 64)).alloc (.cells #[.int .i64 y.v,.int .u8 y.k,.int .i64 y.n] 64)).drew=w3 at *
 refine rt_new (v:=.slice (some ⟨w3.heap.size,0,none⟩) 3 3) (w':=w3.alloc (.cells #[.int .i64 (K x.v y.v),.int .i64 (K x.k y.k),.int .i64 (K x.n y.n)] 3)) 24 rfl ⟨rfl,rfl⟩ (by go_simp) (QEY (by omega) _) (QEY (by omega) _) ?_
 refine Qpk (f:=55) (args:=#[.slice (some ⟨w3.heap.size,0,none⟩) 3 3]) 25 rfl ⟨rfl,rfl⟩ (by go_simp) (hO (K x.v y.v) (K x.k y.k) (K x.n y.n) _ _ _ _ ?_ ?_ ?_) (fun e w6 ⟨he,hw6⟩=>⟨_,he,hw6,?_⟩)
 ·rw [QmV (QfR _ _)]; rfl
 ·rw [QmV (QfR _ _)]; rfl
 ·rw [QmV (QfR _ _)]; rfl
 subst hw6
 refine QlS (v:=.int .i64 (O (K x.v y.v) (K x.k y.k) (K x.n y.n))) 4 rfl ⟨rfl,rfl⟩ (fun w' hk=>?_) ?_
 ·go_simp
 simp only [RTree]
 go_wp2
 go_ret
 refine ⟨rfl,1,#[.cells #[.int .i64 x.v,.int .u8 x.k,.int .i64 x.n] 64,.cells #[.int .i64 y.v,.int .u8 y.k,.int .i64 y.n] 64,.cells #[.int .i64 (K x.v y.v),.int .i64 (K x.k y.k),.int .i64 (K x.n y.n)] 3],?_⟩
 rw [← hw3]
 simp only [World.alloc,grow,World.drewN,World.drew]
 simp
 apply Array.ext'
 simp
theorem QHG (x y:Pr) (w:World):Calls Tryz.prog 31 #[.agg #[.int .i64 x.v,.int .u8 x.k,.int .i64 x.n],.agg #[.int .i64 y.v,.int .u8 y.k,.int .i64 y.n]] w fun e w'=>e=.returned (.int .i64 (cfP x y))∧∃ q os',w'=grow (w.drewN q) os':=QzJ Qwk Qwk orI w_cmp1 w_cmp2 w_cmp3 w_Or x y w
end Go.Proofs.YtfgccihafnjalaaGreatDoor
