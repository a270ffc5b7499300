/- Contracts: what an operation makes. -/
import Derived.Test.YtoeicjlflmmmcaaGreatDoorJ7
import Derived.Test.YtoeicjlflmmmcaaGreatDoorJ3
open Nat renaming reduceEqDiff → rq, reduceAdd → rA, reduceLeDiff → rL, reduceLT → rT, zero_add → zA, le_refl → lR, zero_le → zL, add_zero → aZ
open List renaming length_cons → lC, length_nil → lN, take_succ_cons → tSq, length_append → lA, nil_append → nA, cons_append → cA, append_assoc → aA, take_nil → tN, take_zero → tZ, length_map → lM
open Bool renaming not_false → nFq, not_true → nT
namespace Go.Proofs.YtoeicjlflmmmcaaGreatDoor
open Go Go.Am Go.Bl
set_option maxRecDepth 100000
variable {P:Program} {G:Nat→Option V} {I:Int→Int→Bool}
set_option maxHeartbeats 1000000
section
attribute [local go_sem] nFq List.append_nil cA lC lN nA lR Nat.mul_one zA and_true Q8 X0 QK Qag beq_self_eq_true Qs QFT QFS Qv3 Qv2 Qv1 Qv0 QvZ QvY QvX QvW QvV QvU QFR QvT QvS QvR QvQ QvP QvO QvN QvM QvL QFQ QFP QFO QFN QFM QFL QFK false_implies Xl true_and true_implies x12 x13 x14 y14
def dV:Option (St × List Int)→V
 | some r=>.tup [.agg (Qb r.2),.bool true]
 | none=>.tup [.agg (List.replicate 64 [V.int .i64 0]).flatten,.bool false]
def dS (S:St):Option (St × List Int)→St
 | some r=>r.1
 | none=>S
variable {x y:List Int} {t:Nat}
theorem QLp (hT:Qe P tab) {g:Gr} {B:Bv} {S:St} {K:List (Int × List Int)} {E:Ev} (h:Rd I S 3456 24576) (hx:Nb S.gs.length x) (hy:Nb S.gs.length y) :
 C P G 5 Qp [.ptr 7 g.b 0,.int .u8 1,.agg (Qb x),.agg (Qb y)] ⟨t,bH g B S K E⟩ fun v σ=>v=dV (Xo S 1 x y)∧∃ t' B',t≤t'∧σ=⟨t',bH g B' (dS S (Xo S 1 x y)) K E⟩:=by
 obtain ⟨a,ta⟩:=ZB (mdl I S.gs) x
 obtain ⟨b,tb⟩:=ZB (mdl I S.gs) y
 have e:Xo S 1 x y=some ((Qeb S x y (-1)).2.1,(Qeb S x y (-1)).1):=by simp [Xo]
 rw [e]
 simp only [dV,dS]
 have hS:=fun t B ex=>Qy8 (P:=P) (G:=G) (K:=K) (E:=E) (g:=g) hT (h.less (by omega) (by omega)) hx hy (QC (YA h.ok.wf)) t B ex
 have hl:(Qeb S x y (-1)).1.length=64:=Y5 64
 refine Qj 12 (by decide) (Qo hT Qu (by simp [Qs]) (Qm 1000 ?_))
 simp -implicitDefEqProofs (disch:=omega) only [go_sem,↓reduceIte,reduceCtorEq,rA,rq,QG hx.len,QG hy.len,Qx hx.len,Qx hy.len]
 refine call hT Xy (hS _ _ _) 1000 fun v σ hv=>?_
 obtain ⟨rfl,t1,B1,ht1,rfl⟩:=hv
 simp -implicitDefEqProofs (disch:=omega) only [go_sem,↓reduceIte,reduceCtorEq,rA,rq,rL,rT,QG hl,Qx hl,Zt hl]
 first | exact ⟨t1,B1,by omega,rfl,rfl⟩ | exact ⟨rfl,t1,B1,by omega,rfl,rfl⟩
theorem QLo (hT:Qe P tab) {g:Gr} {B:Bv} {S:St} {K:List (Int × List Int)} {E:Ev} (h:Rd I S 3456 24576) (hx:Nb S.gs.length x) (hy:Nb S.gs.length y) :
 C P G 5 Qp [.ptr 7 g.b 0,.int .u8 2,.agg (Qb x),.agg (Qb y)] ⟨t,bH g B S K E⟩ fun v σ=>v=dV (Xo S 2 x y)∧∃ t' B',t≤t'∧σ=⟨t',bH g B' (dS S (Xo S 2 x y)) K E⟩:=by
 obtain ⟨a,ta⟩:=ZB (mdl I S.gs) x
 obtain ⟨b,tb⟩:=ZB (mdl I S.gs) y
 have e:Xo S 2 x y=some ((Qeb S x (QlO y) 1).2.1,(Qeb S x (QlO y) 1).1):=by simp [Xo]
 rw [e]
 simp only [dV,dS]
 have hS:=fun t B ex=>Qy8 (P:=P) (G:=G) (K:=K) (E:=E) (g:=g) hT (h.less (by omega) (by omega)) hx (Qm6 hy) (YA h.ok.wf) t B ex
 have hl:(Qeb S x (QlO y) 1).1.length=64:=Y5 64
 have hN:=c_not (P:=P) (G:=G) hT hy.len (fun k hk=>by have:=h.sm (hy.all k hk); unfold sm at this; omega)
 have hnl:Qc [V.agg (Qb y)]=true:=by simp [Qc,Qf,QL]
 refine Qj 12 (by decide) (Qo hT Qu (by simp [Qs]) (Qm 1000 ?_))
 simp -implicitDefEqProofs (disch:=omega) only [go_sem,↓reduceIte,reduceCtorEq,rA,rq,Int.reduceEq,QG hx.len,QG hy.len,Qx hx.len,Qx hy.len]
 refine Qy hT Qdu hN hnl 1000 ?_
 simp -implicitDefEqProofs (disch:=omega) only [go_sem,↓reduceIte,reduceCtorEq,rq]
 refine call hT Xy (hS _ _ _) 1000 fun v σ hv=>?_
 obtain ⟨rfl,t1,B1,ht1,rfl⟩:=hv
 simp -implicitDefEqProofs (disch:=omega) only [go_sem,↓reduceIte,reduceCtorEq,rA,rq,rL,rT,QG hl,Qx hl,Zt hl]
 first | exact ⟨t1,B1,by omega,rfl,rfl⟩ | exact ⟨rfl,t1,B1,by omega,rfl,rfl⟩
theorem QLn (hT:Qe P tab) {g:Gr} {B:Bv} {S:St} {K:List (Int × List Int)} {E:Ev} (h:Rd I S 81920 24576) (hx:Nb S.gs.length x) (hy:Nb S.gs.length y) :
 C P G 5 Qp [.ptr 7 g.b 0,.int .u8 3,.agg (Qb x),.agg (Qb y)] ⟨t,bH g B S K E⟩ fun v σ=>v=dV (Xo S 3 x y)∧∃ t' B',t≤t'∧σ=⟨t',bH g B' (dS S (Xo S 3 x y)) K E⟩:=by
 obtain ⟨a,ta⟩:=ZB (mdl I S.gs) x
 obtain ⟨b,tb⟩:=ZB (mdl I S.gs) y
 have e:Xo S 3 x y=some (Qri S x y):=by simp [Xo]
 rw [e]
 simp only [dV,dS]
 have hS:=fun t B ex=>x_mul (P:=P) (G:=G) (K:=K) (E:=E) (g:=g) hT (h.less (by omega) (by omega)) hx hy t B ex
 have hl:(Qri S x y).2.length=64:=(Qxo h.ok hx hy ta tb).2.1.len
 refine Qj 12 (by decide) (Qo hT Qu (by simp [Qs]) (Qm 1000 ?_))
 simp -implicitDefEqProofs (disch:=omega) only [go_sem,↓reduceIte,reduceCtorEq,rA,rq,Int.reduceEq,QG hx.len,QG hy.len,Qx hx.len,Qx hy.len]
 refine call hT Qb3 (hS _ _ _) 1000 fun v σ hv=>?_
 obtain ⟨rfl,t1,B1,ht1,rfl⟩:=hv
 simp -implicitDefEqProofs (disch:=omega) only [go_sem,↓reduceIte,reduceCtorEq,rA,rq,rL,QG hl,Qx hl,Zt hl]
 first | exact ⟨t1,B1,by omega,rfl,rfl⟩ | exact ⟨rfl,t1,B1,by omega,rfl,rfl⟩
theorem QLm (hT:Qe P tab) {g:Gr} {B:Bv} {S:St} {K:List (Int × List Int)} {E:Ev} (h:Rd I S 3456 24576) (hx:Nb S.gs.length x) (hy:Nb S.gs.length y) :
 C P G 5 Qp [.ptr 7 g.b 0,.int .u8 8,.agg (Qb x),.agg (Qb y)] ⟨t,bH g B S K E⟩ fun v σ=>v=dV (Xo S 8 x y)∧∃ t' B',t≤t'∧σ=⟨t',bH g B' (dS S (Xo S 8 x y)) K E⟩:=by
 obtain ⟨a,ta⟩:=ZB (mdl I S.gs) x
 obtain ⟨b,tb⟩:=ZB (mdl I S.gs) y
 have e:Xo S 8 x y=some ((QaU Qd3 S x y).2,(QaU Qd3 S x y).1):=by simp [Xo]
 rw [e]
 simp only [dV,dS]
 have hS:=fun t B ex=>Qws (P:=P) (G:=G) (K:=K) (E:=E) (g:=g) (I:=I) hT Xb (f:=Qd3) (vv:=fun p q=>p&&q) (fc:=3) (fg:=1) (fun h' _ _ hx' hy'=>Qdp h' hx' hy') (fun r lx ly t B ex=>Qy9 hT r lx ly t B ex) (h.less (by omega) (by omega)) hx hy t B ex
 have hl:(QaU Qd3 S x y).1.length=64:=Y5 64
 refine Qj 12 (by decide) (Qo hT Qu (by simp [Qs]) (Qm 1000 ?_))
 simp -implicitDefEqProofs (disch:=omega) only [go_sem,↓reduceIte,reduceCtorEq,rA,rq,Int.reduceEq,QG hx.len,QG hy.len,Qx hx.len,Qx hy.len]
 refine call hT QcC (hS _ _ _) 1000 fun v σ hv=>?_
 obtain ⟨rfl,t1,B1,ht1,rfl⟩:=hv
 simp -implicitDefEqProofs (disch:=omega) only [go_sem,↓reduceIte,reduceCtorEq,rA,rq,rL,QG hl,Qx hl,Zt hl]
 first | exact ⟨t1,B1,by omega,rfl,rfl⟩ | exact ⟨rfl,t1,B1,by omega,rfl,rfl⟩
theorem QLl (hT:Qe P tab) {g:Gr} {B:Bv} {S:St} {K:List (Int × List Int)} {E:Ev} (h:Rd I S 3456 24576) (hx:Nb S.gs.length x) (hy:Nb S.gs.length y) :
 C P G 5 Qp [.ptr 7 g.b 0,.int .u8 9,.agg (Qb x),.agg (Qb y)] ⟨t,bH g B S K E⟩ fun v σ=>v=dV (Xo S 9 x y)∧∃ t' B',t≤t'∧σ=⟨t',bH g B' (dS S (Xo S 9 x y)) K E⟩:=by
 obtain ⟨a,ta⟩:=ZB (mdl I S.gs) x
 obtain ⟨b,tb⟩:=ZB (mdl I S.gs) y
 have e:Xo S 9 x y=some ((QaU orS S x y).2,(QaU orS S x y).1):=by simp [Xo]
 rw [e]
 simp only [dV,dS]
 have hS:=fun t B ex=>Qws (P:=P) (G:=G) (K:=K) (E:=E) (g:=g) (I:=I) hT YL (f:=orS) (vv:=fun p q=>p || q) (fc:=3) (fg:=1) (fun h' _ _ hx' hy'=>Qw3 h' hx' hy') (fun r lx ly t B ex=>x_or hT r lx ly t B ex) (h.less (by omega) (by omega)) hx hy t B ex
 have hl:(QaU orS S x y).1.length=64:=Y5 64
 refine Qj 12 (by decide) (Qo hT Qu (by simp [Qs]) (Qm 1000 ?_))
 simp -implicitDefEqProofs (disch:=omega) only [go_sem,↓reduceIte,reduceCtorEq,rA,rq,Int.reduceEq,QG hx.len,QG hy.len,Qx hx.len,Qx hy.len]
 refine call hT QcC (hS _ _ _) 1000 fun v σ hv=>?_
 obtain ⟨rfl,t1,B1,ht1,rfl⟩:=hv
 simp -implicitDefEqProofs (disch:=omega) only [go_sem,↓reduceIte,reduceCtorEq,rA,rq,rL,QG hl,Qx hl,Zt hl]
 first | exact ⟨t1,B1,by omega,rfl,rfl⟩ | exact ⟨rfl,t1,B1,by omega,rfl,rfl⟩
theorem QAd (hT:Qe P tab) {g:Gr} {B:Bv} {S:St} {K:List (Int × List Int)} {E:Ev} (h:Rd I S 3456 24576) (hx:Nb S.gs.length x) (hy:Nb S.gs.length y) :
 C P G 5 Qp [.ptr 7 g.b 0,.int .u8 10,.agg (Qb x),.agg (Qb y)] ⟨t,bH g B S K E⟩ fun v σ=>v=dV (Xo S 10 x y)∧∃ t' B',t≤t'∧σ=⟨t',bH g B' (dS S (Xo S 10 x y)) K E⟩:=by
 obtain ⟨a,ta⟩:=ZB (mdl I S.gs) x
 obtain ⟨b,tb⟩:=ZB (mdl I S.gs) y
 have e:Xo S 10 x y=some ((QaU Qd5 S x y).2,(QaU Qd5 S x y).1):=by simp [Xo]
 rw [e]
 simp only [dV,dS]
 have hS:=fun t B ex=>Qws (P:=P) (G:=G) (K:=K) (E:=E) (g:=g) (I:=I) hT Xa (f:=Qd5) (vv:=fun p q=>p != q) (fc:=4) (fg:=1) (fun h' _ _ hx' hy'=>Qjs h' hx' hy') (fun r lx ly t B ex=>Qy7 hT r lx ly t B ex) (h.less (by omega) (by omega)) hx hy t B ex
 have hl:(QaU Qd5 S x y).1.length=64:=Y5 64
 refine Qj 12 (by decide) (Qo hT Qu (by simp [Qs]) (Qm 1000 ?_))
 simp -implicitDefEqProofs (disch:=omega) only [go_sem,↓reduceIte,reduceCtorEq,rA,rq,Int.reduceEq,QG hx.len,QG hy.len,Qx hx.len,Qx hy.len]
 refine call hT QcC (hS _ _ _) 1000 fun v σ hv=>?_
 obtain ⟨rfl,t1,B1,ht1,rfl⟩:=hv
 simp -implicitDefEqProofs (disch:=omega) only [go_sem,↓reduceIte,reduceCtorEq,rA,rq,rL,QG hl,Qx hl,Zt hl]
 first | exact ⟨t1,B1,by omega,rfl,rfl⟩ | exact ⟨rfl,t1,B1,by omega,rfl,rfl⟩
theorem QAc (hT:Qe P tab) {g:Gr} {B:Bv} {S:St} {K:List (Int × List Int)} {E:Ev} (h:Rd I S 3456 24576) (hx:Nb S.gs.length x) (hy:Nb S.gs.length y) :
 C P G 5 Qp [.ptr 7 g.b 0,.int .u8 11,.agg (Qb x),.agg (Qb y)] ⟨t,bH g B S K E⟩ fun v σ=>v=dV (Xo S 11 x y)∧∃ t' B',t≤t'∧σ=⟨t',bH g B' (dS S (Xo S 11 x y)) K E⟩:=by
 obtain ⟨a,ta⟩:=ZB (mdl I S.gs) x
 obtain ⟨b,tb⟩:=ZB (mdl I S.gs) y
 have e:Xo S 11 x y=some (Qpb S x y true (-1)):=by simp [Xo]
 rw [e]
 simp only [dV,dS]
 have hS:=fun t B ex=>QqZ (P:=P) (G:=G) (K:=K) (E:=E) (g:=g) (up:=true) (fill:=(-1)) hT (h.less (by omega) (by omega)) hx hy (QC (YA h.ok.wf)) t B ex
 have hl:(Qpb S x y true (-1)).2.length=64:=(Qt4 h.ok hx hy (QC (YA h.ok.wf)) 6 (by omega)).2.len
 have gx:=hx.lts (show 63<64 by omega)
 refine Qj 12 (by decide) (Qo hT Qu (by simp [Qs]) (Qm 1000 ?_))
 simp -implicitDefEqProofs (disch:=omega) only [go_sem,↓reduceIte,reduceCtorEq,rA,rq,Int.reduceEq,QG hx.len,QG hy.len,Qx hx.len,Qx hy.len]
 refine call hT YM (hS _ _ _) 1000 fun v σ hv=>?_
 obtain ⟨rfl,t1,B1,ht1,rfl⟩:=hv
 simp -implicitDefEqProofs (disch:=omega) only [go_sem,↓reduceIte,reduceCtorEq,rA,rq,rL,QG hl,Qx hl,Zt hl]
 first | exact ⟨t1,B1,by omega,rfl,rfl⟩ | exact ⟨rfl,t1,B1,by omega,rfl,rfl⟩
theorem QAb (hT:Qe P tab) {g:Gr} {B:Bv} {S:St} {K:List (Int × List Int)} {E:Ev} (h:Rd I S 3456 24576) (hx:Nb S.gs.length x) (hy:Nb S.gs.length y) :
 C P G 5 Qp [.ptr 7 g.b 0,.int .u8 12,.agg (Qb x),.agg (Qb y)] ⟨t,bH g B S K E⟩ fun v σ=>v=dV (Xo S 12 x y)∧∃ t' B',t≤t'∧σ=⟨t',bH g B' (dS S (Xo S 12 x y)) K E⟩:=by
 obtain ⟨a,ta⟩:=ZB (mdl I S.gs) x
 obtain ⟨b,tb⟩:=ZB (mdl I S.gs) y
 have e:Xo S 12 x y=some (Qpb S x y false (-1)):=by simp [Xo]
 rw [e]
 simp only [dV,dS]
 have hS:=fun t B ex=>QqZ (P:=P) (G:=G) (K:=K) (E:=E) (g:=g) (up:=false) (fill:=(-1)) hT (h.less (by omega) (by omega)) hx hy (QC (YA h.ok.wf)) t B ex
 have hl:(Qpb S x y false (-1)).2.length=64:=(Qt4 h.ok hx hy (QC (YA h.ok.wf)) 6 (by omega)).2.len
 have gx:=hx.lts (show 63<64 by omega)
 refine Qj 12 (by decide) (Qo hT Qu (by simp [Qs]) (Qm 1000 ?_))
 simp -implicitDefEqProofs (disch:=omega) only [go_sem,↓reduceIte,reduceCtorEq,rA,rq,Int.reduceEq,QG hx.len,QG hy.len,Qx hx.len,Qx hy.len]
 refine call hT YM (hS _ _ _) 1000 fun v σ hv=>?_
 obtain ⟨rfl,t1,B1,ht1,rfl⟩:=hv
 simp -implicitDefEqProofs (disch:=omega) only [go_sem,↓reduceIte,reduceCtorEq,rA,rq,rL,QG hl,Qx hl,Zt hl]
 first | exact ⟨t1,B1,by omega,rfl,rfl⟩ | exact ⟨rfl,t1,B1,by omega,rfl,rfl⟩
theorem QAa (hT:Qe P tab) {g:Gr} {B:Bv} {S:St} {K:List (Int × List Int)} {E:Ev} (h:Rd I S 3456 24576) (hx:Nb S.gs.length x) (hy:Nb S.gs.length y) :
 C P G 5 Qp [.ptr 7 g.b 0,.int .u8 13,.agg (Qb x),.agg (Qb y)] ⟨t,bH g B S K E⟩ fun v σ=>v=dV (Xo S 13 x y)∧∃ t' B',t≤t'∧σ=⟨t',bH g B' (dS S (Xo S 13 x y)) K E⟩:=by
 obtain ⟨a,ta⟩:=ZB (mdl I S.gs) x
 obtain ⟨b,tb⟩:=ZB (mdl I S.gs) y
 have e:Xo S 13 x y=some (Qpb S x y false (gi x 63)):=by simp [Xo]
 rw [e]
 simp only [dV,dS]
 have hS:=fun t B ex=>QqZ (P:=P) (G:=G) (K:=K) (E:=E) (g:=g) (up:=false) (fill:=(gi x 63)) hT (h.less (by omega) (by omega)) hx hy (hx.all 63 (by omega)) t B ex
 have hl:(Qpb S x y false (gi x 63)).2.length=64:=(Qt4 h.ok hx hy (hx.all 63 (by omega)) 6 (by omega)).2.len
 have gx:=hx.lts (show 63<64 by omega)
 refine Qj 12 (by decide) (Qo hT Qu (by simp [Qs]) (Qm 1000 ?_))
 simp -implicitDefEqProofs (disch:=omega) only [go_sem,↓reduceIte,reduceCtorEq,rA,rq,rT,Int.reduceToNat,Int.reduceLE,Int.reduceEq,QG hx.len,QG hy.len,Qx hx.len,Qx hy.len,gx]
 refine call hT YM (hS _ _ _) 1000 fun v σ hv=>?_
 obtain ⟨rfl,t1,B1,ht1,rfl⟩:=hv
 simp -implicitDefEqProofs (disch:=omega) only [go_sem,↓reduceIte,reduceCtorEq,rA,rq,rL,QG hl,Qx hl,Zt hl]
 first | exact ⟨t1,B1,by omega,rfl,rfl⟩ | exact ⟨rfl,t1,B1,by omega,rfl,rfl⟩
theorem Qz9 (hT:Qe P tab) {g:Gr} {B:Bv} {S:St} {K:List (Int × List Int)} {E:Ev} (h:Rd I S 3456 24576) (hx:Nb S.gs.length x) (hy:Nb S.gs.length y) :
 C P G 5 Qp [.ptr 7 g.b 0,.int .u8 14,.agg (Qb x),.agg (Qb y)] ⟨t,bH g B S K E⟩ fun v σ=>v=dV (Xo S 14 x y)∧∃ t' B',t≤t'∧σ=⟨t',bH g B' (dS S (Xo S 14 x y)) K E⟩:=by
 obtain ⟨a,ta⟩:=ZB (mdl I S.gs) x
 obtain ⟨b,tb⟩:=ZB (mdl I S.gs) y
 have e:Xo S 14 x y=some ((Qam S (sgL x) (sgL y)).1,Qml (Qam S (sgL x) (sgL y)).2):=by simp [Xo]
 rw [e]
 simp only [dV,dS]
 have hS:=fun t B ex=>Qwt (P:=P) (G:=G) (K:=K) (E:=E) (g:=g) hT (h.less (by omega) (by omega)) (Qzu hx) (Qzu hy) t B ex
 have hl:(Qml (Qam S (sgL x) (sgL y)).2).length=64:=Qk2 _
 have hG1:=c_sgn (P:=P) (G:=G) hT hx.len (by have:=h.sm (hx.all 63 (by omega)); unfold sm at this; omega)
 have hG2:=c_sgn (P:=P) (G:=G) hT hy.len (by have:=h.sm (hy.all 63 (by omega)); unfold sm at this; omega)
 have hn1:Qc [V.agg (Qb x)]=true:=by simp [Qc,Qf,QL]
 have hn2:Qc [V.agg (Qb y)]=true:=by simp [Qc,Qf,QL]
 have hO:=fun l=>QL7 (P:=P) (G:=G) hT l
 refine Qj 12 (by decide) (Qo hT Qu (by simp [Qs]) (Qm 1000 ?_))
 simp -implicitDefEqProofs (disch:=omega) only [go_sem,↓reduceIte,reduceCtorEq,rA,rq,rT,Int.reduceToNat,Int.reduceLE,Int.reduceEq,QG hx.len,QG hy.len,Qx hx.len,Qx hy.len]
 refine Qy hT Zf hG1 hn1 1000 ?_
 simp -implicitDefEqProofs (disch:=omega) only [go_sem,↓reduceIte,reduceCtorEq,rq]
 refine Qy hT Zf hG2 hn2 1000 ?_
 simp -implicitDefEqProofs (disch:=omega) only [go_sem,↓reduceIte,reduceCtorEq,rq]
 refine call hT ZH (hS _ _ _) 1000 fun v σ hv=>?_
 obtain ⟨rfl,t1,B1,ht1,rfl⟩:=hv
 simp -implicitDefEqProofs (disch:=omega) only [go_sem,↓reduceIte,reduceCtorEq,rq]
 refine Qy hT Qdt (hO _) rfl 1000 ?_
 simp -implicitDefEqProofs (disch:=omega) only [go_sem,↓reduceIte,reduceCtorEq,rA,rq,rL,QG hl,Qx hl,Zt hl]
 first | exact ⟨t1,B1,by omega,rfl,rfl⟩ | exact ⟨rfl,t1,B1,by omega,rfl,rfl⟩
theorem Qz8 (hT:Qe P tab) {g:Gr} {B:Bv} {S:St} {K:List (Int × List Int)} {E:Ev} (h:Rd I S 3456 24576) (hx:Nb S.gs.length x) (hy:Nb S.gs.length y) :
 C P G 5 Qp [.ptr 7 g.b 0,.int .u8 15,.agg (Qb x),.agg (Qb y)] ⟨t,bH g B S K E⟩ fun v σ=>v=dV (Xo S 15 x y)∧∃ t' B',t≤t'∧σ=⟨t',bH g B' (dS S (Xo S 15 x y)) K E⟩:=by
 obtain ⟨a,ta⟩:=ZB (mdl I S.gs) x
 obtain ⟨b,tb⟩:=ZB (mdl I S.gs) y
 have e:Xo S 15 x y=some ((Qam S x y).1,Qml (Qam S x y).2):=by simp [Xo]
 rw [e]
 simp only [dV,dS]
 have hS:=fun t B ex=>Qwt (P:=P) (G:=G) (K:=K) (E:=E) (g:=g) hT (h.less (by omega) (by omega)) hx hy t B ex
 have hl:(Qml (Qam S x y).2).length=64:=Qk2 _
 have hO:=fun l=>QL7 (P:=P) (G:=G) hT l
 refine Qj 12 (by decide) (Qo hT Qu (by simp [Qs]) (Qm 1000 ?_))
 simp -implicitDefEqProofs (disch:=omega) only [go_sem,↓reduceIte,reduceCtorEq,rA,rq,rT,Int.reduceToNat,Int.reduceLE,Int.reduceEq,QG hx.len,QG hy.len,Qx hx.len,Qx hy.len]
 refine call hT ZH (hS _ _ _) 1000 fun v σ hv=>?_
 obtain ⟨rfl,t1,B1,ht1,rfl⟩:=hv
 simp -implicitDefEqProofs (disch:=omega) only [go_sem,↓reduceIte,reduceCtorEq,rq]
 refine Qy hT Qdt (hO _) rfl 1000 ?_
 simp -implicitDefEqProofs (disch:=omega) only [go_sem,↓reduceIte,reduceCtorEq,rA,rq,rL,QG hl,Qx hl,Zt hl]
 first | exact ⟨t1,B1,by omega,rfl,rfl⟩ | exact ⟨rfl,t1,B1,by omega,rfl,rfl⟩
theorem Qz7 (hT:Qe P tab) {g:Gr} {B:Bv} {S:St} {K:List (Int × List Int)} {E:Ev} (h:Rd I S 3456 24576) (hx:Nb S.gs.length x) (hy:Nb S.gs.length y) :
 C P G 5 Qp [.ptr 7 g.b 0,.int .u8 16,.agg (Qb x),.agg (Qb y)] ⟨t,bH g B S K E⟩ fun v σ=>v=dV (Xo S 16 x y)∧∃ t' B',t≤t'∧σ=⟨t',bH g B' (dS S (Xo S 16 x y)) K E⟩:=by
 obtain ⟨a,ta⟩:=ZB (mdl I S.gs) x
 obtain ⟨b,tb⟩:=ZB (mdl I S.gs) y
 have e:Xo S 16 x y=some ((Qv S x y).1,Qml (-(Qv S x y).2)):=by simp [Xo]
 rw [e]
 simp only [dV,dS]
 have hS:=fun t B ex=>QsH (P:=P) (G:=G) (K:=K) (E:=E) (g:=g) hT (h.less (by omega) (by omega)) hx hy t B ex
 obtain ⟨u1,u2,-⟩:=QcZ h.ok hx hy ta tb
 have nz:=wng ((h.go (c':=0) (g':=0) u1 (by omega) (by omega)).sm u2)
 have hl:(Qml (-(Qv S x y).2)).length=64:=Qk2 _
 have hO:=fun l=>QL7 (P:=P) (G:=G) hT l
 refine Qj 12 (by decide) (Qo hT Qu (by simp [Qs]) (Qm 1000 ?_))
 simp -implicitDefEqProofs (disch:=omega) only [go_sem,↓reduceIte,reduceCtorEq,rA,rq,rT,Int.reduceToNat,Int.reduceLE,Int.reduceEq,QG hx.len,QG hy.len,Qx hx.len,Qx hy.len]
 refine call hT XW (hS _ _ _) 1000 fun v σ hv=>?_
 obtain ⟨rfl,t1,B1,ht1,rfl⟩:=hv
 simp -implicitDefEqProofs (disch:=omega) only [go_sem,↓reduceIte,reduceCtorEq,rq,nz]
 refine Qy hT Qdt (hO _) rfl 1000 ?_
 simp -implicitDefEqProofs (disch:=omega) only [go_sem,↓reduceIte,reduceCtorEq,rA,rq,rL,QG hl,Qx hl,Zt hl]
 first | exact ⟨t1,B1,by omega,rfl,rfl⟩ | exact ⟨rfl,t1,B1,by omega,rfl,rfl⟩
variable {op:Int}
theorem QLk (hT:Qe P tab) {g:Gr} {B:Bv} {S:St} {K:List (Int × List Int)} {E:Ev} (hx:x.length=64) (hy:y.length=64) (ho:¬ op=1∧¬ op=2∧¬ op=3∧¬ op=8∧¬ op=9∧¬ op=10∧¬ op=11∧¬ op=12∧¬ op=13∧¬ op=14∧¬ op=15∧¬ op=16) :
 C P G 5 Qp [.ptr 7 g.b 0,.int .u8 op,.agg (Qb x),.agg (Qb y)] ⟨t,bH g B S K E⟩ fun v σ=>v=dV (Xo S op x y)∧∃ t' B',t≤t'∧σ=⟨t',bH g B' (dS S (Xo S op x y)) K E⟩:=by
 obtain ⟨o1,o2,o3,o8,o9,o10,o11,o12,o13,o14,o15,o16⟩:=ho
 have e:Xo S op x y=none:=by unfold Xo; simp [o1,o2,o3,o8,o9,o10,o11,o12,o13,o14,o15,o16]
 rw [e]
 simp only [dV,dS,zs_0]
 refine Qj 12 (by decide) (Qo hT Qu (by simp [Qs]) (Qm 1000 ?_))
 simp -implicitDefEqProofs (disch:=omega) only [go_sem,↓reduceIte,reduceCtorEq,rA,rq,rL,rT,Int.reduceToNat,Int.reduceLE,QG hx,QG hy,Qx hx,Qx hy,o1,o2,o3,o8,o9,o10,o11,o12,o13,o14,o15,o16]
 exact ⟨rfl,t+1+1+1,B,by omega,rfl,rfl⟩
theorem k_does (hT:Qe P tab) {g:Gr} {S:St} {K:List (Int × List Int)} {E:Ev} (h:Rd I S (Qlz op) 24576) (hx:Nb S.gs.length x) (hy:Nb S.gs.length y) (t:Nat) (B:Bv) :
 C P G 5 Qp [.ptr 7 g.b 0,.int .u8 op,.agg (Qb x),.agg (Qb y)] ⟨t,bH g B S K E⟩ fun v σ=>v=dV (Xo S op x y)∧∃ t' B',t≤t'∧σ=⟨t',bH g B' (dS S (Xo S op x y)) K E⟩:=by
 by_cases o1:op=1
 ·subst o1; exact QLp hT h hx hy
 by_cases o2:op=2
 ·subst o2; exact QLo hT h hx hy
 by_cases o3:op=3
 ·subst o3; exact QLn hT h hx hy
 by_cases o8:op=8
 ·subst o8; exact QLm hT h hx hy
 by_cases o9:op=9
 ·subst o9; exact QLl hT h hx hy
 by_cases o10:op=10
 ·subst o10; exact QAd hT h hx hy
 by_cases o11:op=11
 ·subst o11; exact QAc hT h hx hy
 by_cases o12:op=12
 ·subst o12; exact QAb hT h hx hy
 by_cases o13:op=13
 ·subst o13; exact QAa hT h hx hy
 by_cases o14:op=14
 ·subst o14; exact Qz9 hT h hx hy
 by_cases o15:op=15
 ·subst o15; exact Qz8 hT h hx hy
 by_cases o16:op=16
 ·subst o16; exact Qz7 hT h hx hy
 exact QLk hT hx.len hy.len ⟨o1,o2,o3,o8,o9,o10,o11,o12,o13,o14,o15,o16⟩
end
end Go.Proofs.YtoeicjlflmmmcaaGreatDoor
namespace Go.Proofs.YtoeicjlflmmmcaaGreatDoor
open Go Go.Am Go.Bl
set_option maxRecDepth 100000
variable {I:Int→Int→Bool}
set_option maxHeartbeats 1000000
def kL (K:List (Int × List Int)) (x:Int):Option (List Int):=(K.find? fun p=>decide (x=p.1)).map (·.2)
def kx (K:List (Int × List Int)) (x:Int):List Int:=(kL K x).getD []
variable {u x:Int}
theorem Qe9 {K:List (Int × List Int)} {v:List Int}:kL (K++[(u,v)]) x=(kL K x).or (if x=u then some v else none):=by
 simp only [kL,List.find?_append]
 cases h:K.find? fun p=>decide (x=p.1) with
 | some p=>simp
 | none=>by_cases hx:x=u <;> simp [hx]
theorem Qf3 {K:List (Int × List Int)} {v:List Int} (h:kL K x=some v):kx K x=v:=by rw [kx,h]; rfl
theorem Qro {K:List (Int × List Int)} {v w:List Int} (h:kL K x=some w):kL (K++[(u,v)]) x=some w:=by rw [Qe9,h]; rfl
theorem QjK {K:List (Int × List Int)} {v:List Int} (h:kL K u=none):kL (K++[(u,v)]) u=some v:=by rw [Qe9,h,if_pos rfl]; rfl
def clT (ap:Int) (x y:List Int) (S:St) (k:Nat):St:=⟨S.gs,S.cs++[[ap,-gi x k,gi y k]]++[[ap,gi x k,-gi y k]]⟩
theorem QL3 {ap a b:Int} {x y:List Int} {S:St} (h:Ok I S) (hx:Nb S.gs.length x) (hy:Nb S.gs.length y) (tx:Tl (mdl I S.gs) x a) (ty:Tl (mdl I S.gs) y b) (ha:lit S.gs.length ap) (hab:lv (mdl I S.gs) ap=true∨a=b) :
 ∀ n,n≤64→Goes I (2 * n) 0 S (it (clT ap x y) n S)∧(it (clT ap x y) n S).gs=S.gs∧(it (clT ap x y) n S).cs.length=S.cs.length+2 * n
 | 0,_=>⟨Goes.refl h _ _,rfl,rfl⟩
 | n+1,hn=>by
   obtain ⟨h1,h2,h3⟩:=QL3 h hx hy tx ty ha hab n (by omega)
   simp only [it]
   generalize it (clT ap x y) n S=r at *
   obtain ⟨gs,cs⟩:=r
   simp only at h2 h3
   subst h2
   have hxn:=hx.all n (by omega)
   have hyn:=hy.all n (by omega)
   refine ⟨⟨⟨h1.ok.wf,fun c hc=>?_,fun c hc l hl=>?_,fun c hc=>by
    simp only [clT,List.mem_append,List.mem_singleton] at hc
    rcases hc with (hc | rfl) | rfl
    ·exact h1.ok.len c hc
    ·simp
    ·simp,fun i g hg hk=>(h1.ok.df i g hg hk).pre (List.getElem?_eq_some_iff.1 hg).1 (List.prefix_refl _) fun c hc=>by simp only [clT,List.mem_append]; exact .inl (.inl hc)⟩,h1.pre,by simp [clT]; omega,by simp [clT],?_⟩,rfl,by simp [clT]; omega⟩
   ·simp only [clT,List.mem_append,List.mem_singleton] at hc
    have hor:lv (mdl I S.gs) ap=true∨lv (mdl I S.gs) (gi x n)=lv (mdl I S.gs) (gi y n):=by
     rcases hab with e | e
     ·exact .inl e
     ·exact .inr (by rw [tx n (by omega),ty n (by omega),e])
    show c.any (lv (mdl I S.gs))=true
    rcases hc with (hc | rfl) | rfl
    ·exact h1.ok.sat c hc
    ·simp only [List.any_cons,List.any_nil,Yk hxn.1]
     rcases hor with e | e <;> rw [e]
     ·rfl
     ·cases lv (mdl I S.gs) ap <;> cases lv (mdl I S.gs) (gi y n) <;> rfl
    ·simp only [List.any_cons,List.any_nil,Yk hyn.1]
     rcases hor with e | e <;> rw [e]
     ·rfl
     ·cases lv (mdl I S.gs) ap <;> cases lv (mdl I S.gs) (gi y n) <;> rfl
   ·simp only [clT,List.mem_append,List.mem_singleton] at hc
    show lit S.gs.length l
    rcases hc with (hc | rfl) | rfl
    ·exact h1.ok.lits c hc l hl
    ·simp only [List.mem_cons,List.not_mem_nil,or_false] at hl
     rcases hl with rfl | rfl | rfl
     ·exact ha
     ·exact QC hxn
     ·exact hyn
    ·simp only [List.mem_cons,List.not_mem_nil,or_false] at hl
     rcases hl with rfl | rfl | rfl
     ·exact ha
     ·exact hxn
     ·exact QC hyn
   ·simp only [clT,aA]
    exact h1.cpre.trans (List.prefix_append _ _)
def clS (L:List Nd) (K:List (Int × List Int)) (d:Nd) (x:List Int) (S:St) (o:Int):St :=
 if (nd L o).a=d.a∧(nd L o).n=d.n then it (clT (Qv S (kx K d.y) (kx K (nd L o).y)).2 x (kx K o)) 64 (Qv S (kx K d.y) (kx K (nd L o).y)).1 else S
def QcH (L:List Nd) (K:List (Int × List Int)) (E:List Int) (d:Nd) (x:List Int) (S:St):St:=E.foldl (clS L K d x) S
structure Ctx (I:Int→Int→Bool) (L:List Nd) (val:Int→Int):Prop where
 wf:gwf L
 kd:∀ id:Int,0≤id→id<L.length→((nd L id).kind=1∨(nd L id).kind=2∨(nd L id).kind=3∨(nd L id).kind=4)∧(0≤(nd L id).op∧(nd L id).op≤255)
 c1:∀ id:Int,0≤id→id<L.length→(nd L id).kind=1→val id=(nd L id).n
 c4:∀ id:Int,0≤id→id<L.length→(nd L id).kind=4→val id=doW (nd L id).op (val (nd L id).x) (val (nd L id).y)
 c3:∀ i j:Int,0≤i→i<L.length→0≤j→j<L.length→(nd L i).kind=3→(nd L j).kind=3→(nd L i).a=(nd L j).a→(nd L i).n=(nd L j).n→val (nd L i).y=val (nd L j).y→val i=val j
 bits:∀ (id:Int) (k:Nat),0≤id→id<L.length→k<64→I id k=Zc (val id) k
 v64:∀ id,Qll (val id)
structure Kn (I:Int→Int→Bool) (L:List Nd) (val:Int→Int) (S:St) (K:List (Int × List Int)) (E:List Int):Prop where
 ok:Ok I S
 kn:∀ id x,kL K id=some x→(0≤id∧id<L.length)∧Nb S.gs.length x∧Tl (mdl I S.gs) x (val id)
 cl:∀ id,(kL K id).isSome=true→∀ p∈pts L id,(kL K p).isSome=true
 ce:∀ id∈E,(kL K id).isSome=true∧(nd L id).kind=3
theorem Kn.goes {L:List Nd} {val:Int→Int} {S S':St} {K:List (Int × List Int)} {E:List Int} {n m:Nat} (h:Kn I L val S K E) (g:Goes I n m S S'):Kn I L val S' K E :=
 ⟨g.ok,fun id x hx=>⟨(h.kn id x hx).1,(h.kn id x hx).2.1.goes g,(h.kn id x hx).2.2.goes (h.kn id x hx).2.1 g⟩,h.cl,h.ce⟩
variable {L:List Nd}
theorem Kn.get {val:Int→Int} {S:St} {K:List (Int × List Int)} {E:List Int} (h:Kn I L val S K E) {id:Int} (hk:(kL K id).isSome=true):(0≤id∧id<L.length)∧Nb S.gs.length (kx K id)∧Tl (mdl I S.gs) (kx K id) (val id):=by
 obtain ⟨x,hx⟩:=Option.isSome_iff_exists.1 hk
 rw [Qf3 hx]
 exact h.kn id x hx
theorem QKP {id:Int} (h:(nd L id).kind=3):(nd L id).y∈pts L id:=by
 show _∈(nd L id).parts
 simp [Nd.parts,h]
theorem QMO {id:Int} (h:(nd L id).kind=4):(nd L id).x∈pts L id∧(nd L id).y∈pts L id:=by
 show _∈(nd L id).parts∧_∈(nd L id).parts
 simp [Nd.parts,h]
theorem cls_ok {val:Int→Int} {S:St} {K:List (Int × List Int)} {E:List Int} (C:Ctx I L val) (h:Kn I L val S K E) {id o:Int} (hid:(kL K id).isSome=true) (h3:(nd L id).kind=3) (ho:o∈E) :
 Goes I 576 128 S (clS L K (nd L id) (kx K id) S o):=by
 unfold clS
 split
 ·rename_i hc
  obtain ⟨ko,k3⟩:=h.ce o ho
  obtain ⟨i1,i2,i3⟩:=h.get hid
  obtain ⟨o1,o2,o3⟩:=h.get ko
  obtain ⟨y1,y2,y3⟩:=h.get (h.cl id hid _ (QKP h3))
  obtain ⟨z1,z2,z3⟩:=h.get (h.cl o ko _ (QKP k3))
  obtain ⟨u1,u2,u3⟩:=QcZ h.ok y2 z2 y3 z3
  have g:=QL3 u1.ok (i2.goes u1) (o2.goes u1) (i3.goes i2 u1) (o3.goes o2 u1) u2 (by
   cases hv:lv (mdl I (Qv S (kx K (nd L id).y) (kx K (nd L o).y)).1.gs) (Qv S (kx K (nd L id).y) (kx K (nd L o).y)).2 with
   | true=>exact .inl rfl
   | false =>
     right
     have e:=u3.1 hv
     have v1:=C.v64 (nd L id).y
     have v2:=C.v64 (nd L o).y
     have ee:val (nd L id).y=val (nd L o).y:=by unfold cg at e; unfold Qll at v1 v2; omega
     exact C.c3 id o i1.1 i1.2 o1.1 o1.2 h3 k3 hc.1.symm hc.2.symm ee) 64 (by omega)
  exact (u1.trans g.1).more (by omega) (by omega)
 ·exact Goes.refl h.ok _ _
theorem cells_ok {L:List Nd} {val:Int→Int} {K:List (Int × List Int)} (C:Ctx I L val) {id:Int} (hid:(kL K id).isSome=true) (h3:(nd L id).kind=3) {E:List Int} :
 ∀ (E':List Int) (S:St),(∀ o∈E',o∈E)→Kn I L val S K E→Goes I (576 * E'.length) (128 * E'.length) S (QcH L K E' (nd L id) (kx K id) S)
 | [],S,_,h=>Goes.refl h.ok _ _
 | o::E',S,hE,h=>by
   have g:=cls_ok C h hid h3 (hE o (by simp))
   have k:=cells_ok C hid h3 E' _ (fun o ho=>hE o (by simp [ho])) (h.goes g)
   exact (g.trans k).more (by simp; omega) (by simp; omega)
theorem Quw {K:List (Int × List Int)} {d:Nd} {x:List Int} {S:St} {E:List Int} {i:Nat} {o:Int} (h:E[i]?=some o):QcH L K (E.take (i+1)) d x S=clS L K d x (QcH L K (E.take i) d x S) o:=by
 unfold QcH
 rw [List.take_add_one,h,List.foldl_append]; rfl
def QaX (L:List Nd) (K:List (Int × List Int)) (S:St) (u:Int):St × List Int :=
 if (nd L u).kind=1 then (S,Qdq (nd L u).n) else if (nd L u).kind=4 then (match Xo S (nd L u).op (kx K (nd L u).x) (kx K (nd L u).y) with
  | some r=>r
  | none=>XL S u) else XL S u
theorem QA9 (f:Int→Int→Bool) (id:Int):∃ a,∀ k:Nat,k<64→f id k=Zc a k:=by
 obtain ⟨a,-,h⟩:=bits_nat (fun k=>f id k) 64
 exact ⟨(a:Int),fun k hk=>by rw [QfZ,h k hk]⟩
theorem Qys {val:Int→Int} {S:St} {K:List (Int × List Int)} {E:List Int} (C:Ctx I L val) (h:Kn I L val S K E) (hu:0≤u∧u<L.length) (hp:∀ p∈pts L u,(kL K p).isSome=true) :
 Goes I (Qlz (nd L u).op) 24576 S (QaX L K S u).1∧Nb (QaX L K S u).1.gs.length (QaX L K S u).2∧Tl (mdl I (QaX L K S u).1.gs) (QaX L K S u).2 (val u):=by
 have hf:Goes I (Qlz (nd L u).op) 24576 S (XL S u).1∧Nb (XL S u).1.gs.length (XL S u).2∧Tl (mdl I (XL S u).1.gs) (XL S u).2 (val u):=by
  obtain ⟨f1,f2,f3⟩:=QAr (a:=val u) h.ok fun k hk=>C.bits u k hu.1 hu.2 hk
  exact ⟨f1.more (by omega) (by omega),f2,f3⟩
 unfold QaX
 split
 ·rename_i k1
  refine ⟨Goes.refl h.ok _ _,QiE h.ok.wf _,?_⟩
  rw [C.c1 u hu.1 hu.2 k1]
  exact Qm5 h.ok.wf _
 split
 ·rename_i k4
  obtain ⟨x1,x2,x3⟩:=h.get (hp _ (QMO k4).1)
  obtain ⟨y1,y2,y3⟩:=h.get (hp _ (QMO k4).2)
  cases hd:Xo S (nd L u).op (kx K (nd L u).x) (kx K (nd L u).y) with
  | none=>exact hf
  | some r =>
    rw [C.c4 u hu.1 hu.2 k4]
    exact QLU h.ok x2 y2 x3 y3 (C.v64 _) (C.v64 _) hd
 ·exact hf
structure Bs where
 S:St
 K:List (Int × List Int)
 E:List Int
def bT (L:List Nd) (s:Bs) (u:Int):Bs :=
 if (kL s.K u).isSome=true then s else
 if (nd L u).kind=3 then ⟨QcH L (s.K++[(u,(QaX L s.K s.S u).2)]) s.E (nd L u) (QaX L s.K s.S u).2 (QaX L s.K s.S u).1,s.K++[(u,(QaX L s.K s.S u).2)],s.E++[u]⟩
 else ⟨(QaX L s.K s.S u).1,s.K++[(u,(QaX L s.K s.S u).2)],s.E⟩
end Go.Proofs.YtoeicjlflmmmcaaGreatDoor
namespace Go.Proofs.YtoeicjlflmmmcaaGreatDoor
open Go Go.Am Go.Bl
set_option maxRecDepth 100000
variable {I:Int→Int→Bool} {cap:Nat}
set_option maxHeartbeats 1000000
def rest (f:Int→Nat) (K:List (Int × List Int)):Nat→Nat
 | 0=>0
 | n+1=>rest f K n+if (kL K n).isSome=true then 0 else f n
theorem Qo5 {f:Int→Nat} {K K':List (Int × List Int)}:∀ n:Nat,(∀ i:Nat,i<n→kL K i=kL K' i)→rest f K n=rest f K' n
 | 0,_=>rfl
 | n+1,h=>by rw [rest,rest,Qo5 n (fun i hi=>h i (by omega)),h n (by omega)]
theorem QhT {f:Int→Nat} {K:List (Int × List Int)} {u:Int} {v:List Int} (hn:kL K u=none) (h0:0≤u):∀ n:Nat,u<n→rest f (K++[(u,v)]) n+f u=rest f K n
 | 0,h=>absurd h (by omega)
 | n+1,h=>by
   by_cases hu:u=(n:Int)
   ·subst hu
    have e:rest f (K++[((n:Int),v)]) n=rest f K n:=Qo5 n fun i hi=>by
     rw [Qe9,if_neg (by omega)]
     cases kL K i <;> rfl
    rw [rest,rest,e,QjK hn,hn]
    simp
   ·have ih:=QhT (f:=f) (v:=v) hn h0 n (by omega)
    have e:kL (K++[(u,v)]) n=kL K n:=by
     rw [Qe9,if_neg (by omega)]
     cases kL K n <;> rfl
    rw [rest,rest,e]
    omega
variable {n:Nat} {u:Int}
theorem QwW {f:Int→Nat} {K:List (Int × List Int)} (hn:kL K u=none) (h0:0≤u) (h:u<n):f u≤rest f K n:=by
 have:=QhT (f:=f) (v:=[]) hn h0 n h
 omega
def fC (L:List Nd) (i:Int):Nat:=Qlz (nd L i).op+576 * L.length
def fG (L:List Nd) (_:Int):Nat:=24576+128 * L.length
structure BInv (I:Int→Int→Bool) (L:List Nd) (val:Int→Int) (cap:Nat) (s:Bs):Prop where
 k:Kn I L val s.S s.K s.E
 c:s.S.cs.length+rest (fC L) s.K L.length≤cap
 hc:cap≤1000000
 g:s.S.gs.length+rest (fG L) s.K L.length≤8 * cap
 e:s.E.length+rest (fun _=>1) s.K L.length≤L.length
 kl:s.K.length+rest (fun _=>1) s.K L.length≤L.length
structure BUp (s s':Bs):Prop where
 k:∀ id x,kL s.K id=some x→kL s'.K id=some x
 g:s.S.gs <+: s'.S.gs
 c:s.S.cs <+: s'.S.cs
theorem BUp.refl (s:Bs):BUp s s:=⟨fun _ _ h=>h,List.prefix_refl _,List.prefix_refl _⟩
theorem BUp.trans {s s' s'':Bs} (h:BUp s s') (k:BUp s' s''):BUp s s'':=⟨fun id x hx=>k.k id x (h.k id x hx),h.g.trans k.g,h.c.trans k.c⟩
variable {s:Bs}
theorem BUp.some {s':Bs} (h:BUp s s') {id:Int} (hk:(kL s.K id).isSome=true):(kL s'.K id).isSome=true:=by
 obtain ⟨x,hx⟩:=Option.isSome_iff_exists.1 hk
 rw [h.k id x hx]; rfl
variable {L:List Nd}
theorem QIg {val:Int→Int} {S S':St} {K:List (Int × List Int)} {E:List Int} {x:List Int} {m:Nat} (h:Kn I L val S K E) (g:Goes I n m S S') (hu:0≤u∧u<L.length) (hx:Nb S'.gs.length x) (tx:Tl (mdl I S'.gs) x (val u)) (hn:kL K u=none) (hp:∀ p∈pts L u,(kL K p).isSome=true):Kn I L val S' (K++[(u,x)]) E:=by
 have h':=h.goes g
 refine ⟨g.ok,fun id y hy=>?_,fun id hk p hpm=>?_,fun id he=>⟨?_,(h.ce id he).2⟩⟩
 ·rw [Qe9] at hy
  cases hk:kL K id with
  | some z=>rw [hk] at hy; cases hy; exact h'.kn id y hk
  | none =>
    rw [hk] at hy
    by_cases hid:id=u
    ·subst hid; simp at hy; subst hy; exact ⟨hu,hx,tx⟩
    ·simp [hid] at hy
 ·rw [Qe9]
  have:(kL K p).isSome=true:=by
   rw [Qe9] at hk
   cases hk2:kL K id with
   | some z=>exact h.cl id (by rw [hk2]; rfl) p hpm
   | none =>
     rw [hk2] at hk
     by_cases hid:id=u
     ·subst hid; exact hp p hpm
     ·simp [hid] at hk
  obtain ⟨z,hz⟩:=Option.isSome_iff_exists.1 this
  rw [hz]; rfl
 ·obtain ⟨z,hz⟩:=Option.isSome_iff_exists.1 (h.ce id he).1
  rw [Qro hz]; rfl
theorem bT_ok {val:Int→Int} (C:Ctx I L val) (h:BInv I L val cap s) (hu:0≤u∧u<L.length) (hp:∀ p∈pts L u,(kL s.K p).isSome=true) :
 BInv I L val cap (bT L s u)∧BUp s (bT L s u)∧(kL (bT L s u).K u).isSome=true:=by
 unfold bT
 by_cases hk:(kL s.K u).isSome=true
 ·rw [if_pos hk]; exact ⟨h,BUp.refl s,hk⟩
 rw [if_neg hk]
 have hn:kL s.K u=none:=by cases hh:kL s.K u with
  | none=>rfl
  | some x=>rw [hh] at hk; exact absurd rfl hk
 obtain ⟨b1,b2,b3⟩:=Qys C h.k hu hp
 have rc:=QhT (f:=fC L) (v:=(QaX L s.K s.S u).2) hn hu.1 L.length hu.2
 have rg:=QhT (f:=fG L) (v:=(QaX L s.K s.S u).2) hn hu.1 L.length hu.2
 have re:=QhT (f:=fun _=>1) (v:=(QaX L s.K s.S u).2) hn hu.1 L.length hu.2
 have hc:=h.c
 have hg:=h.g
 have he:=h.e
 have hkl:=h.kl
 have b4:=b1.cl
 have b5:=b1.gl
 have hfc:fC L u=Qlz (nd L u).op+576 * L.length:=rfl
 have hfg:fG L u=24576+128 * L.length:=rfl
 have K1:=QIg h.k b1 hu b2 b3 hn hp
 generalize QaX L s.K s.S u=r at *
 obtain ⟨S1,x⟩:=r
 simp only at *
 by_cases h3:(nd L u).kind=3
 ·rw [if_pos h3]
  have e:kx (s.K++[(u,x)]) u=x:=Qf3 (QjK hn)
  have g:=cells_ok C (id:=u) (by rw [QjK hn]; rfl) h3 s.E S1 (fun o ho=>ho) K1
  rw [e] at g
  have gl:=g.cl
  have gg:=g.gl
  have m1:576 * s.E.length≤576 * L.length:=Nat.mul_le_mul_left _ (by omega)
  have m2:128 * s.E.length≤128 * L.length:=Nat.mul_le_mul_left _ (by omega)
  have K2:=K1.goes g
  refine ⟨⟨⟨K2.ok,K2.kn,K2.cl,fun id hid=>?_⟩,?_,h.hc,?_,?_,?_⟩,⟨fun id y hy=>Qro hy,b1.pre.trans g.pre,b1.cpre.trans g.cpre⟩,?_⟩
  ·rcases List.mem_append.1 hid with hid | hid
   ·exact K2.ce id hid
   ·rw [List.mem_singleton.1 hid]; exact ⟨by rw [QjK hn]; rfl,h3⟩
  ·simp only; omega
  ·simp only; omega
  ·simp only [lA,List.length_singleton]; omega
  ·simp only [lA,List.length_singleton]; omega
  ·simp only; rw [QjK hn]; rfl
 ·rw [if_neg h3]
  refine ⟨⟨K1,?_,h.hc,?_,?_,?_⟩,⟨fun id y hy=>Qro hy,b1.pre,b1.cpre⟩,?_⟩
  ·simp only; omega
  ·simp only; omega
  ·simp only; omega
  ·simp only [lA,List.length_singleton]; omega
  ·simp only; rw [QjK hn]; rfl
def bF (L:List Nd) (U:List Int) (s:Bs):Bs:=U.foldl (bT L) s
variable {U:List Int}
theorem Qyz {i:Nat} (h:U[i]?=some u):bF L (U.take (i+1)) s=bT L (bF L (U.take i) s) u:=by
 unfold bF
 rw [List.take_add_one,h,List.foldl_append]; rfl
theorem QMs {L:List Nd} {val:Int→Int} (C:Ctx I L val) {s:Bs} (h:BInv I L val cap s) {U:List Int} (hr:∀ x∈U,0≤x∧x<L.length) (hs:U.Pairwise (·<·)) (hcl:∀ x∈U,∀ p∈pts L x,p∈U) :
 ∀ n,n≤U.length→BInv I L val cap (bF L (U.take n) s)∧BUp s (bF L (U.take n) s)∧∀ x∈U.take n,(kL (bF L (U.take n) s).K x).isSome=true
 | 0,_=>⟨h,BUp.refl s,fun x hx=>by simp at hx⟩
 | n+1,hn=>by
   obtain ⟨h1,h2,h3⟩:=QMs C h hr hs hcl n (by omega)
   obtain ⟨u,hu⟩:∃ u,U[n]?=some u:=⟨_,List.getElem?_eq_getElem (by omega)⟩
   have hum:=List.mem_of_getElem? hu
   have hp:∀ p∈pts L u,(kL (bF L (U.take n) s).K p).isSome=true:=fun p hpm=>h3 p (QcP hs hu (hcl u hum p hpm) (Qk1 C.wf (hr u hum).1 (hr u hum).2 p hpm).2)
   obtain ⟨b1,b2,b3⟩:=bT_ok C h1 (hr u hum) hp
   rw [Qyz hu]
   refine ⟨b1,h2.trans b2,fun x hx=>?_⟩
   rw [List.take_add_one,hu,List.mem_append] at hx
   rcases hx with hx | hx
   ·exact b2.some (h3 x hx)
   ·simp at hx; subst hx; exact b3
theorem QyB {val:Int→Int} (C:Ctx I L val) (h:BInv I L val cap s) (hr:∀ x∈U,0≤x∧x<L.length) (hs:U.Pairwise (·<·)) (hcl:∀ x∈U,∀ p∈pts L x,p∈U) :
 BInv I L val cap (bF L U s)∧BUp s (bF L U s)∧∀ x∈U,(kL (bF L U s).K x).isSome=true:=by
 have:=QMs C h hr hs hcl U.length (lR _)
 rwa [List.take_length] at this
def b0:Bs:=⟨⟨[⟨1,1,1⟩],[[1]]⟩,[],[]⟩
theorem b0_ok:Ok I b0.S:=by
 have hw:Wf b0.S.gs:=⟨rfl,by simp [b0],fun i g h=>by
  have:=(List.getElem?_eq_some_iff.1 h)
  obtain ⟨h1,h2⟩:=this
  simp [b0] at h1
  subst h1; rw [← h2]; simp [b0],fun i g h hi=>by
  have h1:=(List.getElem?_eq_some_iff.1 h).1
  simp [b0] at h1
  omega,fun i g h hk=>by
  obtain ⟨h1,h2⟩:=List.getElem?_eq_some_iff.1 h
  simp [b0] at h1
  subst h1; rw [← h2] at hk; simp [b0] at hk⟩
 refine ⟨hw,fun c hc=>?_,fun c hc l hl=>?_,fun c hc=>by simp [b0] at hc; subst hc; simp,fun i g hg _=>?_⟩
 ·simp [b0] at hc; subst hc; simp only [List.any_cons,hw.yes]; rfl
 ·simp [b0] at hc; subst hc; simp at hl; subst hl; exact YA hw
 ·have hi:=(List.getElem?_eq_some_iff.1 hg).1
  have hi0:i=0:=by simp [b0] at hi; exact hi
  subst hi0
  exact ⟨[1],by simp [b0],fun l hl=>by simp at hl; subst hl; exact YA hw,rfl⟩
theorem QsV:∀ n,rest (fun _=>1) [] n=n:=fun n=>by
 induction n with
 | zero=>rfl
 | succ n ih=>rw [rest,ih]; rfl
theorem b0_inv {val:Int→Int} (hcap:cap≤1000000) (hc:rest (fC L) [] L.length+1≤cap) (hg:rest (fG L) [] L.length+1≤8 * cap):BInv I L val cap b0 :=
 ⟨⟨b0_ok,(fun id x h=>by simp [b0,kL] at h),(fun id h=>by simp [b0,kL] at h),(fun id h=>by simp [b0] at h)⟩,by show 1+_≤_; simp only [b0]; omega,hcap,by show 1+_≤_; simp only [b0]; omega,by
   show 0+_≤_
   rw [show b0.K=[] from rfl,QsV]; omega,by
   show 0+_≤_
   rw [show b0.K=[] from rfl,QsV]; omega⟩
end Go.Proofs.YtoeicjlflmmmcaaGreatDoor
namespace Go.Proofs.YtoeicjlflmmmcaaGreatDoor
open Go Go.Am Go.Bl
set_option maxRecDepth 100000
variable {P:Program} {G:Nat→Option V} {I:Int→Int→Bool}
set_option maxHeartbeats 1000000
section
attribute [local go_sem] nFq lR Nat.mul_one zA YD QFJ QFI QFH QFG QFF QFE QFD decide_false decide_true Q3
theorem x_made (hT:Qe P tab) {g:Gr} {S:St} {K:List (Int × List Int)} {E:Ev} (x:Gt) (hp:1≤S.gs.length) (h:S.gs.length<10000000) (t:Nat) (B:Bv) (ex:List (Option Ob)) :
 C P G 5 Qaa [.ptr 7 g.b 0,.agg (Gtc x)] ⟨t,bH g B S K E++ex⟩ fun v σ=>v=.tup [.int .i64 (mkG S.gs x).1,.bool (mkG S.gs x).2.1]∧∃ t' B',t≤t'∧σ=⟨t',bH g B' ⟨(mkG S.gs x).2.2,S.cs⟩ K E++ex⟩ :=
 QcJ (fun _ _=>QmA hT x hp h) (by simp [Gtc,QU,V.under]) rfl t B ex
theorem x_does (hT:Qe P tab) {g:Gr} {S:St} {K:List (Int × List Int)} {E:Ev} {x y:List Int} {op:Int} (h:Rd I S (Qlz op) 24576) (hx:Nb S.gs.length x) (hy:Nb S.gs.length y) (t:Nat) (B:Bv) (ex:List (Option Ob)) :
 C P G 5 Qp [.ptr 7 g.b 0,.int .u8 op,.agg (Qb x),.agg (Qb y)] ⟨t,bH g B S K E++ex⟩ fun v σ=>v=dV (Xo S op x y)∧∃ t' B',t≤t'∧σ=⟨t',bH g B' (dS S (Xo S op x y)) K E++ex⟩ :=
 QcJ (fun t B=>k_does hT h hx hy t B) (by simp [QU,V.under,Ys]) (by
  cases Xo S op x y with
  | none=>rfl
  | some r=>simp [dV,V.under,QU,Ys]) t B ex
theorem QLj (hT:Qe P tab) {g:Gr} {B:Bv} {S:St} {K:List (Int × List Int)} {E:Ev} {t:Nat} {id:Int} (h:Rd I S 0 64) :
 C P G 5 ZL [.ptr 7 g.b 0,.int .i64 id] ⟨t,bH g B S K E⟩ fun v σ=>v=.agg (Qb (XL S id).2)∧∃ t' B',t≤t'∧σ=⟨t',bH g B' (XL S id).1 K E⟩:=by
 obtain ⟨a,ha⟩:=QA9 I id
 refine Qj 12 (by decide) (Qo hT YN (by simp [YD]) (Qm 1000 ?_))
 simp -implicitDefEqProofs (disch:=omega) only [go_sem,↓reduceIte,reduceCtorEq,rq,Q8,cA,nA,and_true]
 refine XQ 64 (fun k fr σ=>∃ zl S' vz t' B',t≤t'∧fo (Qfe id) k S=(zl,S')∧σ=⟨t',bH g B' S' K E++[some (.arr vz 85 (zs zl))]⟩∧Qd fr 0=.ptr 7 g.b 0∧Qd fr 1=.int .i64 id∧Qd fr 4=.ptr 12 vz 0∧Qd fr 6=.int .i64 ((k:Nat):Int))
  (fun e fr σ=>e=.ex 0∧∃ t' B' vz,t≤t'∧σ=⟨t',bH g B' (XL S id).1 K E++[some (.arr vz 85 (Qb (XL S id).2))]⟩∧Qd fr 4=.ptr 12 vz 0) ⟨[],S,t,t+1,B,by omega,rfl,?_,by simp -implicitDefEqProofs (disch:=omega) only [go_sem,↓reduceIte],by simp -implicitDefEqProofs (disch:=omega) only [go_sem,↓reduceIte,reduceCtorEq],by simp -implicitDefEqProofs (disch:=omega) only [go_sem,↓reduceIte,reduceCtorEq,rq],by simp -implicitDefEqProofs (disch:=omega) only [go_sem,↓reduceIte,reduceCtorEq,rq]; rfl⟩ (fun k hk fr σ hJ=>?_) (fun k hk fr σ hJ=>?_) (fun e fr σ hE=>?_)
 ·rfl
 ·obtain ⟨zl,S',vz,t',B',ht,hit,rfl,f0,f1,f4,f6⟩:=hJ
  have hki:(k:Int)<64:=by omega
  have hk0:(0:Int)≤(k:Int):=by omega
  have hw:=w_k hk
  have hlz:=Y5 (step:=Qfe id) (s:=S) k
  obtain ⟨u1,-⟩:=QxW (I:=I) (step:=Qfe id) (v:=fun k=>Zc a k) (c:=0) (g:=1) h.ok (fun n hn S1 h1 _=>by
   obtain ⟨s1,s2,s3,s3',s4,s5,i,s6,s7,s8⟩:=Qkt h1.wf (g:=⟨0,id,n⟩) (by simp) (fun e=>absurd rfl e) (fun _=>⟨by show (0:Int)≤(n:Int); omega,by show (n:Int)<64; omega⟩)
   have hv:=s1.var (I:=I) s8 s6
   rw [← s7] at hv
   have g:=Qkw h1 s1 s2 s4 [] (n:=0) (by simp) (fun c hc=>by cases hc) (fun c hc=>by cases hc) (fun g' hg hk=>absurd (by rw [QIb hg]) hk)
   rw [List.append_nil] at g
   refine ⟨g,s3,?_⟩
   show lv (mdl I (mkG S1.gs ⟨0,id,n⟩).2.2) (mkG S1.gs ⟨0,id,n⟩).1=_
   rw [hv]
   simp only [if_true]
   exact ha n hn) k (by omega)
  have hit1:fo (Qfe id) (k+1) S=(zl++[(mkG S'.gs ⟨0,id,k⟩).1],⟨(mkG S'.gs ⟨0,id,k⟩).2.2,S'.cs⟩):=by rw [fo,hit]; rfl
  rw [hit] at u1 hlz
  simp only at u1 hlz
  have hM:=fun t B ex=>x_made (P:=P) (G:=G) (K:=K) (E:=E) (g:=g) (S:=S') hT ⟨0,id,k⟩ u1.ok.wf.pos (by have:=u1.gl; have:=h.gl; omega) t B ex
  simp only [Gtc] at hM
  have hz:(zs zl).length=64:=QeC (by omega)
  have hp:=QnN (v:=(mkG S'.gs ⟨0,id,k⟩).1) hlz hk
  refine Qh [(0,.ptr 7 g.b 0),(1,.int .i64 id),(4,.ptr 12 vz 0),(6,.int .i64 ((k:Nat):Int))] ⟨f0,f1,f4,f6,trivial⟩  1000 ?_
  simp -implicitDefEqProofs (disch:=omega) only [go_sem,↓reduceIte,reduceCtorEq,rA,rq,rL,lC,lN,cA,nA,and_true,hki]
  refine call hT Xm (hM _ _ _) 1000 fun v σ hv=>?_
  obtain ⟨rfl,t1,B1,ht1,rfl⟩:=hv
  simp -implicitDefEqProofs (disch:=omega) only [go_sem,↓reduceIte,reduceCtorEq,rA,rq,rL,rT,x12,y12,lC,lN,true_and,and_true,hk0,Int.toNat_natCast,hz,hp,hw]
  refine ⟨_,_,Shift.refl _ _ _ _,_,_,vz,t1,B1,by omega,hit1,rfl,?_⟩
  simp -implicitDefEqProofs (disch:=omega) only [go_sem,↓reduceIte,reduceCtorEq,rq]
 ·obtain ⟨zl,S',vz,t',B',ht,hit,rfl,f0,f1,f4,f6⟩:=hJ
  have hki:¬ (k:Int)<64:=by omega
  have hlz:=Y5 (step:=Qfe id) (s:=S) k
  rw [hk] at hit hlz
  rw [hit] at hlz
  rw [QmH (show zl.length=64 from hlz)]
  refine Qh [(0,.ptr 7 g.b 0),(1,.int .i64 id),(4,.ptr 12 vz 0),(6,.int .i64 ((k:Nat):Int))] ⟨f0,f1,f4,f6,trivial⟩  1000 ?_
  simp -implicitDefEqProofs (disch:=omega) only [go_sem,↓reduceIte,reduceCtorEq,rq,hki]
  unfold XL
  rw [hit]
  exact ⟨t',B',vz,ht,⟨rfl,rfl⟩,by simp -implicitDefEqProofs (disch:=omega) only [go_sem]⟩
 ·obtain ⟨rfl,t',B',vz,ht,rfl,f4⟩:=hE
  refine Qg 1000 ?_
  have hl:(XL S id).2.length=64:=Y5 64
  simp -implicitDefEqProofs (disch:=omega) only [go_sem,↓reduceIte,reduceCtorEq,rA,rq,rL,f4,QK,Qag,x12,y12,lC,lN,nA,false_implies,true_and,and_true,QG hl,Qx hl,Zt hl,Xl,List.append_nil]
  exact ⟨t',B',ht,rfl,rfl⟩
theorem QKo (hT:Qe P tab) {g:Gr} {S:St} {K:List (Int × List Int)} {E:Ev} {id:Int} (h:Rd I S 0 64) (t:Nat) (B:Bv) (ex:List (Option Ob)) :
 C P G 5 ZL [.ptr 7 g.b 0,.int .i64 id] ⟨t,bH g B S K E++ex⟩ fun v σ=>v=.agg (Qb (XL S id).2)∧∃ t' B',t≤t'∧σ=⟨t',bH g B' (XL S id).1 K E++ex⟩ :=
 QcJ (fun _ _=>QLj hT h) rfl (by simp [V.under,Ys]) t B ex
end
section
variable {g:Gr} {B:Bv} {S:St} {K:List (Int × List Int)} {E:Ev} {ex:List (Option Ob)}
theorem b_6:(bH g B S K E++ex)[6]?=some (some (.map g.k (kEn K))):=rfl
theorem b_7:(bH g B S K E++ex)[7]?=some (some (.arr g.b 76 [.ptr 1 g.v0 0,.sl 8 B.g 0 3 S.gs.length none,.mp 5 g.m,.sl 9 B.c 0 1 S.cs.length none,.mp 6 g.k,.sl 10 E.v 0 1 E.l.length none,.sl 11 g.n 0 1 0 none,.bool false])):=rfl
theorem b_8:(bH g B S K E++ex)[8]?=some (some (.arr B.g 78 (gC S.gs))):=rfl
theorem b_10:(bH g B S K E++ex)[10]?=some (some (.arr E.v 37 (E.l.map (V.int .i64)))):=rfl
theorem bs_6 {K':List (Int × List Int)}:(bH g B S K E++ex).set 6 (some (.map g.k (kEn K')))=bH g B S K' E++ex:=rfl
theorem a_6:(bH g B S K E)[6]?=some (some (.map g.k (kEn K))):=rfl
theorem a_7:(bH g B S K E)[7]?=some (some (.arr g.b 76 [.ptr 1 g.v0 0,.sl 8 B.g 0 3 S.gs.length none,.mp 5 g.m,.sl 9 B.c 0 1 S.cs.length none,.mp 6 g.k,.sl 10 E.v 0 1 E.l.length none,.sl 11 g.n 0 1 0 none,.bool false])):=rfl
theorem Qr3:bH g B S K E++ex=kG g.fmt g.v0 g.v1 g.v2 g.v3 g.v4 g.L++(bO g B S K E++ex):=aA ..
end
section
attribute [local go_sem] nFq aZ lR zA beq_self_eq_true Y8 QFW QFV QFU decide_false decide_true ge_iff_le gt_iff_lt QI QFY QFX QO QEf QEe QEd QEc QEb QEa QD9 QD8
theorem ZY (K:List (Int × List Int)) (x:Int):Qku [.i] (.int .i64 x) (kEn K)=(kL K x).map fun v=>V.agg (Qb v):=by
 induction K with
 | nil=>rfl
 | cons p K ih =>
   simp only [Qku,kEn,kL,List.map_cons,List.find?_cons,Qh6] at ih ⊢
   by_cases h:x=p.1
   ·simp [h,Qb]
   ·rw [decide_eq_false h]; exact ih
theorem Xr (K:List (Int × List Int)) (x:Int):Qcd false [.i] (.int .i64 x) (kEn K):=by
 refine ⟨Qpq x,fun p hp=>?_⟩
 obtain ⟨q,_,rfl⟩:=List.mem_map.1 hp
 exact ⟨rfl,by simp [Qbo,V.cells,QnM]⟩
theorem QzN {K:List (Int × List Int)} {x:Int} {v:List Int} (h:kL K x=none):Qna [.i] (.int .i64 x) (.agg (Qb v)) (kEn K)=kEn (K++[(x,v)]):=by
 induction K with
 | nil=>rfl
 | cons p K ih =>
   have hx:¬ x=p.1:=by
    intro e
    rw [kL,List.find?_cons,decide_eq_true e] at h
    cases h
   have h':kL K x=none:=by
    rw [kL,List.find?_cons,decide_eq_false hx] at h
    exact h
   simp only [kEn,List.map_cons,cA,Qna,Qh6] at ih ⊢
   rw [decide_eq_false hx]
   simp [ih h']
theorem QoR (hT:Qe P tab) {g:Gr} {S:St} {K:List (Int × List Int)} {E:Ev} {id:Int} (hid:0≤id∧id<g.L.length) (base t:Nat) (B:Bv) (ex:List (Option Ob)) :
 C P G base X1 [.ptr 1 g.v0 0,.int .i64 id] ⟨t,bH g B S K E++ex⟩ fun v σ=>v=.tup [.agg (nd g.L id).cells,.bool true]∧∃ t',t≤t'∧σ=⟨t',bH g B S K E++ex⟩:=by
 rw [Qr3]
 have h:=QIj (P:=P) (G:=G) hT (base:=base) (fmt:=g.fmt) (v0:=g.v0) (v1:=g.v1) (v2:=g.v2) (v3:=g.v3) (v4:=g.v4) (t:=t) (L:=g.L) (ex:=bO g B S K E++ex) (id:=id)
 rw [if_pos hid] at h
 exact h
theorem QH4 (hT:Qe P tab) {g:Gr} {S:St} {K:List (Int × List Int)} {E:Ev} {id:Int} (hid:0≤id∧id<g.L.length) (base t:Nat) (B:Bv) :
 C P G base X1 [.ptr 1 g.v0 0,.int .i64 id] ⟨t,bH g B S K E⟩ fun v σ=>v=.tup [.agg (nd g.L id).cells,.bool true]∧∃ t',t≤t'∧σ=⟨t',bH g B S K E⟩:=by
 have:=QoR (P:=P) (G:=G) (g:=g) (S:=S) (K:=K) (E:=E) hT hid base t B []
 rwa [List.append_nil] at this
theorem x_Uses (hT:Qe P tab) (SO:Q1 P) {g:Gr} {S:St} {K:List (Int × List Int)} {E:Ev} (hL:g.L.length≤1000000) (hwf:gwf g.L) (roots:List Int) (z:Nat) (tight:Bool) (hz:z=1∨roots=[]) (hrl:roots.length≤9223372036854775806) (base t:Nat) (B:Bv) (ex:List (Option Ob)) :
 C P G base Y2 [.ptr 1 g.v0 0,.lst z (roots.map (V.int .i64)) tight] ⟨t,bH g B S K E++ex⟩ fun v σ=>v=.lst 1 ((XP g.L roots).map (V.int .i64)) false∧∃ t',t≤t'∧σ=⟨t',bH g B S K E++ex⟩:=by
 rw [Qr3]
 exact QIi (P:=P) (G:=G) hT SO (base:=base) (fmt:=g.fmt) (v0:=g.v0) (v1:=g.v1) (v2:=g.v2) (v3:=g.v3) (v4:=g.v4) (t:=t) (L:=g.L) (ex:=bO g B S K E++ex) hL hwf roots z tight hz hrl
def QgZ (L:List Nd) (x:Int):Bool:=decide ((nd L x).kind=2)&&decide (65536<(nd L x).n)
variable {t i:Nat}
theorem k_far (hT:Qe P tab) {g:Gr} {B:Bv} {S:St} {K:List (Int × List Int)} {E:Ev} {id:Int} (hid:0≤id∧id<g.L.length) :
 C P G 5 XA [.ptr 7 g.b 0,.int .i64 id] ⟨t,bH g B S K E⟩ fun v σ=>v=.bool (QgZ g.L id)∧∃ t' B',t≤t'∧σ=⟨t',bH g B' S K E⟩:=by
 have hN:=fun t=>QH4 (P:=P) (G:=G) (S:=S) (K:=K) (E:=E) hT hid 5 t B
 refine Qj 12 (by decide) (Qo hT Qb4 (by simp [Y8]) (Qm 1000 ?_))
 simp -implicitDefEqProofs (disch:=omega) only [go_sem,↓reduceIte,reduceCtorEq,rA,rq,rL,a_7,lC,lN,true_implies,and_true]
 refine call hT XE (hN _) 1000 fun v σ hv=>?_
 obtain ⟨rfl,t1,ht1,rfl⟩:=hv
 by_cases hk:(nd g.L id).kind=2
 ·have e:QgZ g.L id=decide (65536<(nd g.L id).n):=by rw [QgZ,decide_eq_true hk,Bool.true_and]
  simp -implicitDefEqProofs (disch:=omega) only [go_sem,↓reduceIte,reduceCtorEq,rA,rq,rL,rT,Q8,QK,Qag,x12,y12,lC,lN,cA,nA,true_implies,true_and,and_true,Nd.cells,hk]
  rw [e]
  exact ⟨rfl,t1+1,B,by omega,rfl,rfl⟩
 ·have e:QgZ g.L id=false:=by rw [QgZ,decide_eq_false hk,Bool.false_and]
  simp -implicitDefEqProofs (disch:=omega) only [go_sem,↓reduceIte,reduceCtorEq,rA,rq,rL,rT,Q8,QK,Qag,x12,y12,lC,lN,cA,nA,false_implies,true_implies,true_and,and_true,Nd.cells,hk]
  rw [e]
  exact ⟨rfl,t1+1,B,by omega,rfl,rfl⟩
variable {u:Int} {U:List Int}
theorem QA8 {f:Int→Bool} (h:U[i]?=some u):(U.take (i+1)).any f=((U.take i).any f || f u):=by
 rw [List.take_add_one,h,List.any_append]; simp
theorem QiF (h:U[i]?=some u):(Qb U).getD i V.any=.int .i64 u:=by
 rw [List.getD_eq_getElem?_getD,Qb,List.getElem?_map,h]; rfl
theorem QLi (hT:Qe P tab) {g:Gr} {B:Bv} {S:St} {K:List (Int × List Int)} {E:Ev} (hU:∀ x∈U,0≤x∧x<g.L.length) (hl:U.length≤1000000) :
 C P G 5 YI [.lst 1 (Qb U) false,.fn (.func XA) [.ptr 7 g.b 0] []] ⟨t,bH g B S K E⟩ fun v σ=>(∃ n:Int,v=.int .i64 n∧(if U.any (QgZ g.L)=true then 0≤n else n=-1))∧∃ t' B',t≤t'∧σ=⟨t',bH g B' S K E⟩:=by
 refine Qj 12 (by decide) (Qo hT YH (by simp [QO]) (Qm 1000 ?_))
 simp -implicitDefEqProofs (disch:=omega) only [go_sem,↓reduceIte,reduceCtorEq,rq,Qi]
 refine Yn U (fun i fr σ=>∃ t' B',t≤t'∧σ=⟨t',bH g B' S K E⟩∧(U.take i).any (QgZ g.L)=false∧Qd fr 0=.lst 1 (Qb U) false∧Qd fr 1=.fn (.func XA) [.ptr 7 g.b 0] []∧Qd fr 7=.int .i64 U.length∧Qd fr 8=.int .i64 ((i:Nat):Int))
  (fun e fr σ=>(∃ t' B',t≤t'∧σ=⟨t',bH g B' S K E⟩)∧((e=.ret∧U.any (QgZ g.L)=true∧∃ n:Int,0≤n∧Qd fr 4=.int .i64 n)∨(e=.ex 0∧U.any (QgZ g.L)=false))) ⟨t,B,lR _,rfl,rfl,by simp -implicitDefEqProofs (disch:=omega) only [go_sem,↓reduceIte],by simp -implicitDefEqProofs (disch:=omega) only [go_sem,↓reduceIte,reduceCtorEq],by simp -implicitDefEqProofs (disch:=omega) only [go_sem,↓reduceIte,reduceCtorEq,rq],by simp -implicitDefEqProofs (disch:=omega) only [go_sem,↓reduceIte,reduceCtorEq,rq]; rfl⟩ (fun i u hu fr σ hJ=>?_) (fun i hi fr σ hJ=>?_) (fun e fr σ hE=>?_)
 ·obtain ⟨t',B',ht,rfl,hany,f0,f1,f7,f8⟩:=hJ
  have hlt:=(List.getElem?_eq_some_iff.1 hu).1
  have hum:=List.mem_of_getElem? hu
  have hki:(i:Int)<U.length:=by omega
  have hk0:(0:Int)≤(i:Int):=by omega
  have hw:IntKind.i64.wrap ((i:Int)+1)=((i+1:Nat):Int):=by rw [wrap_i64 (by omega) (by omega)]; omega
  have gu:=QiF hu
  have ha:=QA8 (f:=QgZ g.L) hu
  rw [hany,Bool.false_or] at ha
  have hF:=fun t=>k_far (P:=P) (G:=G) (S:=S) (K:=K) (E:=E) (B:=B') (t:=t) hT (hU u hum)
  refine Qh [(0,.lst 1 (Qb U) false),(1,.fn (.func XA) [.ptr 7 g.b 0] []),(7,.int .i64 U.length),(8,.int .i64 ((i:Nat):Int))] ⟨f0,f1,f7,f8,trivial⟩  1000 ?_
  simp -implicitDefEqProofs (disch:=omega) only [go_sem,↓reduceIte,reduceCtorEq,rq,lC,lN,true_implies,and_true,hki,hk0,hlt,Int.toNat_natCast,gu,Qi]
  refine QlB hT Qb4 (hF _) 1000 fun v σ hv=>?_
  obtain ⟨rfl,t1,B1,ht1,rfl⟩:=hv
  cases hf:QgZ g.L u with
  | true =>
    simp -implicitDefEqProofs (disch:=omega) only [go_sem,↓reduceIte,reduceCtorEq,rq,true_and]
    refine ⟨⟨t1,B1,by omega,rfl,rfl⟩,List.any_eq_true.2 ⟨u,hum,hf⟩,(i:Int),hk0,?_⟩
    simp -implicitDefEqProofs (disch:=omega) only [go_sem]
  | false =>
    rw [hf] at ha
    simp -implicitDefEqProofs (disch:=omega) only [go_sem,↓reduceIte,reduceCtorEq,rq,hw]
    refine ⟨_,_,Shift.refl _ _ _ _,t1,B1,by omega,rfl,ha,?_⟩
    simp -implicitDefEqProofs (disch:=omega) only [go_sem,↓reduceIte,reduceCtorEq,rq]
 ·obtain ⟨t',B',ht,rfl,hany,f0,f1,f7,f8⟩:=hJ
  rw [hi,List.take_length] at hany
  refine Qh [(0,.lst 1 (Qb U) false),(1,.fn (.func XA) [.ptr 7 g.b 0] []),(7,.int .i64 U.length),(8,.int .i64 ((i:Nat):Int))] ⟨f0,f1,f7,f8,trivial⟩  1000 ?_
  simp -implicitDefEqProofs (disch:=omega) only [go_sem,↓reduceIte,reduceCtorEq,rq,hi,Int.lt_irrefl]
  exact ⟨⟨t',B',ht,rfl,rfl⟩,hany⟩
 ·obtain ⟨⟨t',B',ht,rfl⟩,⟨rfl,hany,n,hn,f4⟩ | ⟨rfl,hany⟩⟩:=hE
  ·refine Qg 1000 ?_
   simp -implicitDefEqProofs (disch:=omega) only [go_sem,Q8,Qau,true_and,f4]
   exact ⟨⟨n,rfl,by rw [if_pos hany]; exact hn⟩,t',B',ht,rfl,rfl⟩
  ·refine Qg 1000 ?_
   simp -implicitDefEqProofs (disch:=omega) only [go_sem,↓reduceIte,Q8,Qau,true_and]
   exact ⟨⟨-1,rfl,by rw [hany]; rfl⟩,t',B',ht,rfl,rfl⟩
theorem k_any (hT:Qe P tab) {g:Gr} {B:Bv} {S:St} {K:List (Int × List Int)} {E:Ev} (hU:∀ x∈U,0≤x∧x<g.L.length) (hl:U.length≤1000000) :
 C P G 5 Yi [.lst 1 (Qb U) false,.fn (.func XA) [.ptr 7 g.b 0] []] ⟨t,bH g B S K E⟩ fun v σ=>v=.bool (U.any (QgZ g.L))∧∃ t' B',t≤t'∧σ=⟨t',bH g B' S K E⟩:=by
 refine Qj 12 (by decide) (Qo hT Yb (by simp [QI]) (Qm 1000 ?_))
 simp -implicitDefEqProofs (disch:=omega) only [go_sem,↓reduceIte,reduceCtorEq,rq]
 refine call hT YH (QLi hT hU hl) 1000 fun v σ hv=>?_
 obtain ⟨⟨n,rfl,hn⟩,t1,B1,ht1,rfl⟩:=hv
 have e:decide (0≤n)=U.any (QgZ g.L):=by
  cases h:U.any (QgZ g.L) with
  | true=>rw [h] at hn; exact decide_eq_true hn
  | false=>rw [h] at hn; simp at hn; rw [hn]; rfl
 simp -implicitDefEqProofs (disch:=omega) only [go_sem,↓reduceIte,reduceCtorEq,rq,Q8,Qau,true_and,e]
 exact ⟨t1,B1,ht1,rfl,rfl⟩
end
end Go.Proofs.YtoeicjlflmmmcaaGreatDoor
