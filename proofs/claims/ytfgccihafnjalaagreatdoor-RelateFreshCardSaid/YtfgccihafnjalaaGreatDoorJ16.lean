/- The law RelateFresh: who is tied; what is apart. -/
import Derived.Test.YtfgccihafnjalaaGreatDoorJ15
import Derived.Test.YtfgccihafnjalaaGreatDoorJ13
import Derived.Test.YtfgccihafnjalaaGreatDoorJ8
import Derived.Test.YtfgccihafnjalaaGreatDoorJ12
import Derived.Test.YtfgccihafnjalaaGreatDoorY
open Nat renaming reduceEqDiff → rq, reduceAdd → rA, reduceLeDiff → rL, reduceLT → rT, zero_add → zA, le_refl → lR, zero_le → zL, add_zero → aZ
open List renaming length_cons → lC, length_nil → lN, take_succ_cons → tS, length_append → lA, nil_append → nA, cons_append → cA, append_assoc → aA, take_nil → tN, take_zero → tZ, length_map → lM
open Bool renaming not_false → nF, not_true → nT
namespace Go.Proofs.YtfgccihafnjalaaGreatDoor
open Go Go.Am Go.Re
set_option maxRecDepth 100000
variable {P:Program} {G:Nat→Option V}
theorem HoOk.ext {L L':List Nd} {ps:List Pr} {vs:List Int} {lk:Int} {rs ss:List Int} {vars nx bh v:Int} (h:HoOk L ps vs lk rs ss vars nx bh v) (e:Ext L L'):HoOk L' ps vs lk rs ss vars nx bh v:=by
 refine ⟨h.same,fun inn hti l1 p l2 he h1 h3 hpi=>?_,fun inn hti hno=>?_,⟨h.node.1,?_⟩,h.n64,h.pv⟩
 ·obtain ⟨h4,h5⟩:=h.num inn hti l1 p l2 he h1 h3 hpi
  exact ⟨by rw [Xw h5 e]; exact h4,h5.ext e⟩
 ·obtain ⟨c,h1,h2,h3,h4,h5⟩:=h.sym inn hti hno
  exact ⟨c,by rw [Xw h2 e]; exact h1,h2.ext e,h3,h4,h5⟩
 ·obtain ⟨M,rfl,_⟩:=e
  have:=h.node.2
  simp; omega
theorem ApOk.ext {L L':List Nd} {ps:List Pr} {vs:List Int} {lk:Int} {rs ss:List Int} {nx bh:Int} (hS:∀ r:Nat,1≤r→r<32→r≠2→Xg ps 1 (r:Int)=false→Hs L (sy (rNo nx r))) (hS2:∀ i:Nat,i<ss.length→Xg ps 2 (i:Int)=false→Hs L (sy (nx+30+(i:Int)))) (h:ApOk L ps vs lk rs ss nx bh) (e:Ext L L'):ApOk L' ps vs lk rs ss nx bh:=by
 refine ⟨fun r h1 h2 h3 hp=>?_,fun i hi hp=>?_,fun c hc=>?_⟩
 ·rw [Xw (hS r h1 h2 h3 hp) e]; exact h.reg r h1 h2 h3 hp
 ·rw [Xw (hS2 i hi hp) e]; exact h.slot i hi hp
 ·obtain ⟨h1,h2,h3,h4,h5⟩:=h.all c hc
  rw [Xw h3 e]
  exact ⟨h1,h2,h3.ext e,h4,h5⟩
abbrev rfJ (F : Fmt P G) (v0 v1 : Nat) (L : List Nd) (ps : List Pr) (n : Nat) (next bh : Int) (wv : List V) : Nat → Fr → H → Prop := fun i fr σ => ∃ L' t' w2 w3 w4, ∃ u : Int, u = ((i : Nat) : Int) - 1 ∧ Ext L L' ∧ L'.length ≤ L.length + i ∧ Qh fr 4 = .int .i64 next ∧ Qh fr 11 = .int .i64 ((n : Nat) : Int) ∧ Qh fr 13 = .ptr 1 v0 0 ∧ Qh fr 14 = .ref (.agg wv) 0 ∧ Qh fr 15 = .int .i64 bh ∧ Qh fr 17 = .lst 3 (prs ps) false ∧ Qh fr 20 = .int .i64 u ∧ σ = ⟨t', kG F.fmt v0 v1 w2 w3 w4 L'⟩
abbrev rfE (F : Fmt P G) (v0 v1 : Nat) (L : List Nd) (ps : List Pr) (n : Nat) (next bh : Int) (wv : List V) : AE → Fr → H → Prop := fun e fr σ => ∃ L' t' w2 w3 w4, e = .ex 2 ∧ Ext L L' ∧ L'.length ≤ L.length + n + 1 ∧ Qh fr 4 = .int .i64 next ∧ Qh fr 11 = .int .i64 ((n : Nat) : Int) ∧ Qh fr 13 = .ptr 1 v0 0 ∧ Qh fr 14 = .ref (.agg wv) 0 ∧ Qh fr 15 = .int .i64 bh ∧ Qh fr 17 = .lst 3 (prs ps) false ∧ σ = ⟨t', kG F.fmt v0 v1 w2 w3 w4 L'⟩
theorem QyQ (hT:Qn P tab) (F:Fmt P G) {v0 v1:Nat} {L:List Nd} {ps:List Pr} {n:Nat} {next bh lk:Int} {vs rs ss:List Int} {sure:Bool} {wv:List V} (hwv:wv=wV vs lk rs ss sure) (hr:rs.length=32) (hvl:vs.length=n) (hn:n≤10) (hH:∀ v:Int,-1≤v∧v<n→HoOk L ps vs lk rs ss n (max 0 next) bh v) (hpl:ps.length≤1000) (hL:L.length≤20000) {i:Nat} (hi:i<n+1) {fr:Fr} {σ:Am.H} (hJ:rfJ F v0 v1 L ps n next bh wv i fr σ) :
 W P G 138 0 (AC.seq (AC.seq (AC.reg QaV [113, 114])   (AC.cond (Arg.t 115)   AC.skip   (AC.exit 2)))   (AC.seq (AC.block 3 (AC.seq (AC.reg QaU [118, 119, 120, 121, 122, 123, 124, 125, 126])   (AC.cond (Arg.t 127)   (AC.seq (AC.reg QaT [])   AC.ret)   AC.skip)))   (AC.reg QaS [116, 117]))) fr σ (Qaw (fun fr σ => ∃ fr' σ', Shift G 138 0 fr σ fr' σ' ∧ rfJ F v0 v1 L ps n next bh wv (i + 1) fr' σ') (rfE F v0 v1 L ps n next bh wv)) := by
 obtain ⟨L', t', w2, w3, w4, u, hu, hE, hLl, f4, f11, f13, f14, f15, f17, f20, rfl⟩ := hJ
 have hwl:wv.length=36:=by rw [hwv]; simp [wV,Qo,hr]
 have htk:List.take 36 wv=wv:=List.take_of_length_le (by omega)
 have hlt:u<((n:Nat):Int):=by omega
 have e2:IntKind.i64.wrap (u+1)=u+1:=QkG (by omega)
 have hmax:(if (0:Int)<next then next else 0)=max 0 next:=by split <;> omega
 have hc:=fun t=>c_holds (P:=P) (G:=G) hT F (v0:=v0) (v1:=v1) (v2:=w2) (v3:=w3) (v4:=w4) (t:=t) (L:=L') (ps:=ps) (tg:=false) (vars:=n) (nx:=max 0 next) (bh:=bh) (v:=u) (lk:=lk) (vs:=vs) (rs:=rs) (ss:=ss) (sure:=sure) hr (by omega) ⟨by omega,hlt⟩ (by omega) ((hH u ⟨by omega,hlt⟩).ext hE) (by omega) (by omega)
 rw [← hwv] at hc
 refine Qj [(4,.int .i64 next),(11,.int .i64 ((n:Nat):Int)),(13,.ptr 1 v0 0),(14,.ref (.agg wv) 0),(15,.int .i64 bh),(17,.lst 3 (prs ps) false),(20,.int .i64 u)] ⟨f4,f11,f13,f14,f15,f17,f20,trivial⟩  12 ?_
 simp -implicitDefEqProofs (disch:=omega) only [go_sem,↓reduceIte,rq,decide_true,QaV,QaU,QaT,QaS,hlt]
 iterate 12 (try (refine Qa 4 ?_; simp -implicitDefEqProofs (disch:=omega) only [go_sem,↓reduceIte,reduceCtorEq,rq,zA,lR,gt_iff_lt,false_implies,and_true,List.drop_zero,hwl,htk,hmax]))
 refine call hT t_proofmarklaw25_holds (hc _) 4 fun v σ hv=>?_
 obtain ⟨rfl,L2,t2,x2,x3,x4,h1,h2,rfl⟩:=hv
 refine ya ?_
 iterate 12 (try (refine Qa 4 ?_; simp -implicitDefEqProofs (disch:=omega) only [go_sem,↓reduceIte,rq,e2]))
 refine ⟨_,_,Shift.refl _ _ _ _,L2,t2,x2,x3,x4,u+1,by omega,hE.trans h1,by omega,?_⟩
 exact yb
theorem QFS (_hT:Qn P tab) (F:Fmt P G) {v0 v1:Nat} {L:List Nd} {ps:List Pr} {n:Nat} {next bh:Int} {wv:List V} {i:Nat} (hi:i=n+1) {fr:Fr} {σ:Am.H} (hJ:rfJ F v0 v1 L ps n next bh wv i fr σ) :
 W P G 138 0 (AC.seq (AC.seq (AC.reg QaV [113,114])   (AC.cond (Arg.t 115)   AC.skip   (AC.exit 2)))   (AC.seq (AC.block 3 (AC.seq (AC.reg QaU [118,119,120,121,122,123,124,125,126])   (AC.cond (Arg.t 127)   (AC.seq (AC.reg QaT [])   AC.ret)   AC.skip)))   (AC.reg QaS [116,117]))) fr σ (Qaw (fun _ _=>False) (rfE F v0 v1 L ps n next bh wv)):=by
 obtain ⟨L', t', w2, w3, w4, u, hu, hE, hLl, f4, f11, f13, f14, f15, f17, f20, rfl⟩ := hJ
 have hlt:¬ u<((n:Nat):Int):=by omega
 refine Qj [(4,.int .i64 next),(11,.int .i64 ((n:Nat):Int)),(13,.ptr 1 v0 0),(14,.ref (.agg wv) 0),(15,.int .i64 bh),(17,.lst 3 (prs ps) false),(20,.int .i64 u)] ⟨f4,f11,f13,f14,f15,f17,f20,trivial⟩  12 ?_
 simp -implicitDefEqProofs (disch:=omega) only [go_sem,↓reduceIte,rq,decide_false,QaV,QaU,QaT,QaS,hlt]
 refine ⟨L', t', w2, w3, w4, rfl, hE, by omega, ?_⟩
 repeat' (first | exact rfl | refine ⟨rfl,?_⟩)
theorem rf_D (hT:Qn P tab) (F:Fmt P G) (hW:Works P G) {v0 v1 v2 v3 v4 t:Nat} {L:List Nd} {ps:List Pr} {n:Nat} {next bh lk:Int} {vs rs ss:List Int} {sure:Bool} {wv:List V} (hwv:wv=wV vs lk rs ss sure) (hr:rs.length=32) (hvl:vs.length=n) (hsl:ss.length≤1000) (hn:n≤10) (hH:∀ v:Int,-1≤v∧v<n→HoOk L ps vs lk rs ss n (max 0 next) bh v) (hS:∀ r:Nat,1≤r→r<32→r≠2→Xg ps 1 (r:Int)=false→Hs L (sy (rNo (max 0 next) r))) (hS2:∀ i:Nat,i<ss.length→Xg ps 2 (i:Int)=false→Hs L (sy (max 0 next+30+(i:Int)))) (hA:ApOk L ps vs lk rs ss (max 0 next) bh) (hpl:ps.length≤1000) (hL:L.length≤20000) {Q:V→Am.H→Prop} (hQ:∀ σ,Q (.bool true) σ) :
 W P G 138 0 (Zd 11 proofmarklaw25_RelateFresh.body) [(4,.int .i64 next),(11,.int .i64 ((n:Nat):Int)),(13,.ptr 1 v0 0),(14,.ref (.agg wv) 0),(15,.int .i64 bh),(17,.lst 3 (prs ps) false)] ⟨t,kG F.fmt v0 v1 v2 v3 v4 L⟩ (QtI G proofmarklaw25_RelateFresh.res Q):=by
 show W P G 138 0 (.seq (.seq (.reg Qdw []) (.block 2 (.loop (AC.seq (AC.seq (AC.reg QaV [113,114])   (AC.cond (Arg.t 115)   AC.skip   (AC.exit 2)))   (AC.seq (AC.block 3 (AC.seq (AC.reg QaU [118,119,120,121,122,123,124,125,126])   (AC.cond (Arg.t 127)   (AC.seq (AC.reg QaT [])   AC.ret)   AC.skip)))   (AC.reg QaS [116,117])))))) (.seq (.reg Qdv [128,129,130,131,132,133,134,135,136,137]) .ret)) _ _ _
 have hwl:wv.length=36:=by rw [hwv]; simp [wV,Qo,hr]
 have htk:List.take 36 wv=wv:=List.take_of_length_le (by omega)
 have hmax:(if (0:Int)<next then next else 0)=max 0 next:=by split <;> omega
 have hW':Am.Pure P G Xv [] fun u=>u=.bool true:=hW
 refine Qq 12 ?_
 refine yu ?_
 refine Qd7 (n+1) (rfJ F v0 v1 L ps n next bh wv) (rfE F v0 v1 L ps n next bh wv) ⟨L,t,v2,v3,v4,-1,by omega,Ext.refl L,by omega,?_⟩ (fun i hi fr σ hJ=>QyQ hT F hwv hr hvl hn hH hpl hL hi hJ) (fun i hi fr σ hJ=>QFS hT F hi hJ) (fun e fr σ hE=>?_)
 ·simp -implicitDefEqProofs (disch:=omega) only [go_sem,↓reduceIte,rq,and_true]
  try simp
 ·obtain ⟨L', t', w2, w3, w4, rfl, hE, hLl, f4, f11, f13, f14, f15, f17, rfl⟩ := hE
  have hc:=QGY (P:=P) (G:=G) hT (fmt:=F.fmt) (v0:=v0) (v1:=v1) (v2:=w2) (v3:=w3) (v4:=w4) (t:=t') (L:=L') (ps:=ps) (tg:=false) (nx:=max 0 next) (bh:=bh) (lk:=lk) (vs:=vs) (rs:=rs) (ss:=ss) (sure:=sure) hr (hA.ext hS hS2 hE) (by omega) (by omega) (by omega)
  rw [← hwv] at hc
  refine QU [(4,.int .i64 next),(11,.int .i64 ((n:Nat):Int)),(13,.ptr 1 v0 0),(14,.ref (.agg wv) 0),(15,.int .i64 bh),(17,.lst 3 (prs ps) false)] ⟨f4,f11,f13,f14,f15,f17,trivial⟩  12 ?_
  simp -implicitDefEqProofs (disch:=omega) only [go_sem,↓reduceIte,reduceCtorEq,rq,zA,lR,gt_iff_lt,false_implies,and_true,List.drop_zero,hwl,htk,hmax]
  iterate 12 (try (refine Qa 4 ?_; simp -implicitDefEqProofs (disch:=omega) only [go_sem,Qd,↓reduceIte,reduceCtorEq,rA,rq,rL,rT,Nat.reduceSub,Nat.reduceMul,Int.reduceToNat,Int.reduceLE,Int.reduceLT,Int.reduceEq,Int.reduceNe,Nat.succ_ne_zero,zA,aZ,Nat.mul_one,Nat.one_mul,Nat.zero_mul,decide_true,decide_false,nT,nF,lR,zL,ge_iff_le,gt_iff_lt,Nat.reduceBEq,Nat.reduceBNe,beq_self_eq_true,bne_self_eq_false,Option.isSome_some,Option.isSome_none,Option.getD_some,Option.getD_none,proofmarklaw25_RelateFresh,Qjd,Qjc,Qjb,Qja,Qi9,Qi8,Qi7,Qi6,Qi5,Qi4,Qdz,Qdy,Qdx,Qai,Qah,Qag,Qaf,Qdw,QaV,QaU,QaT,QaS,Qdv,Qo,Qf,Qbb,false_implies,true_implies,true_and,and_true,not_true_eq_false,not_false_eq_true,Int.reduceBEq,aA,cA,nA,lA,lC,lN,List.getElem?_cons_zero,List.getElem?_cons_succ,List.getD_cons_zero,List.getD_cons_succ,List.set_cons_zero,List.set_cons_succ,nT,nF,tS,tZ,tN,List.drop_succ_cons,List.drop_zero,List.drop_nil,hwl,htk,hmax]))
  refine call hT Qal hc 4 fun v σ hv=>?_
  obtain ⟨rfl,t2,rfl⟩:=hv
  refine ya ?_
  iterate 12 (try (refine Qa 4 ?_; simp -implicitDefEqProofs (disch:=omega) only [go_sem,Qd,↓reduceIte,reduceCtorEq,rA,rq,rL,rT,Nat.reduceSub,Nat.reduceMul,Int.reduceToNat,Int.reduceLE,Int.reduceLT,Int.reduceEq,Int.reduceNe,Nat.succ_ne_zero,zA,aZ,Nat.mul_one,Nat.one_mul,Nat.zero_mul,decide_true,decide_false,nT,nF,lR,zL,ge_iff_le,gt_iff_lt,Nat.reduceBEq,Nat.reduceBNe,beq_self_eq_true,bne_self_eq_false,Option.isSome_some,Option.isSome_none,Option.getD_some,Option.getD_none,proofmarklaw25_RelateFresh,Qjd,Qjc,Qjb,Qja,Qi9,Qi8,Qi7,Qi6,Qi5,Qi4,Qdz,Qdy,Qdx,Qai,Qah,Qag,Qaf,Qdw,QaV,QaU,QaT,QaS,Qdv,Qo,Qf,Qbb,false_implies,true_implies,true_and,and_true,not_true_eq_false,not_false_eq_true,Int.reduceBEq,aA,cA,nA,lA,lC,lN,List.getElem?_cons_zero,List.getElem?_cons_succ,List.getD_cons_zero,List.getD_cons_succ,List.set_cons_zero,List.set_cons_succ,nT,nF,tS,tZ,tN,List.drop_succ_cons,List.drop_zero,List.drop_nil]))
  refine Yb hT Xu hW' rfl 4 ?_
  refine ya ?_
  iterate 12 (try (refine Qa 4 ?_; simp -implicitDefEqProofs (disch:=omega) only [go_sem,↓reduceIte,rq]))
  exact hQ _
theorem QzE (hT:Qn P tab) (p:Pr) (vars:Int) (cnt:Nat):Am.Pure P G Qam [prV p,.int .i64 vars,.int .i64 ((cnt:Nat):Int)] fun u=>u=.bool (Q8 vars cnt p):=by
 refine fun t=>Xt 0 (zL _) (Q6 hT Yh (by simp [Qi]) ?_)
 simp only [prV,prC]
 obtain ⟨B,hB⟩:∃ B,B=Q8 vars cnt p:=⟨_,rfl⟩
 rw [← hB]
 by_cases h1:-1≤p.v
 ·by_cases h2:p.v<vars
  ·have hd:decide (-1≤p.v∧p.v<vars)=true:=decide_eq_true ⟨h1,h2⟩
   by_cases k1:p.k=1
   ·have k1':(p.k==1)=true:=by simpa using k1
    have hr:B=QpZ p.n:=by rw [hB]; simp [Q8,hd,k1]
    by_cases n1:1≤p.n
    ·by_cases n2:p.n≤31
     ·by_cases n3:p.n=2
      ·have n3':(p.n != 2)=false:=by simp [n3]
       have hr2:B=false:=by rw [hr]; simp [QpZ,n3]
       rw [hr2]
       refine Qq 8 ?_
       refine yc ?_
       iterate 30 (try (refine Qa 4 ?_; simp -implicitDefEqProofs (disch := omega) only [go_sem, ↓reduceIte, reduceCtorEq, rA, rq, rL, zA, aZ, decide_true, lR, zL, ge_iff_le, true_implies, and_true, decide_true, lC, lN, List.getElem?_cons_zero, h1, h2, k1', n1, n2, n3']))
       try simp
      ·have n3':(p.n != 2)=true:=by simpa using n3
       have hr2:B=true:=by rw [hr]; simp [QpZ,n1,n2,n3]
       rw [hr2]
       refine Qq 8 ?_
       refine yc ?_
       iterate 30 (try (refine Qa 4 ?_; simp -implicitDefEqProofs (disch := omega) only [go_sem, ↓reduceIte, reduceCtorEq, rA, rq, rL, zA, aZ, decide_true, lR, zL, ge_iff_le, true_implies, and_true, decide_true, lC, lN, List.getElem?_cons_zero, h1, h2, k1', n1, n2, n3']))
       try simp
     ·have hr2:B=false:=by rw [hr]; simp [QpZ,n2]
      rw [hr2]
      refine Qq 8 ?_
      refine yc ?_
      iterate 30 (try (refine Qa 4 ?_; simp -implicitDefEqProofs (disch := omega) only [go_sem, ↓reduceIte, reduceCtorEq, rA, rq, rL, zA, aZ, decide_true, decide_false, lR, zL, ge_iff_le, true_implies, and_true, decide_true, decide_false, lC, lN, List.getElem?_cons_zero, h1, h2, k1', n1, n2]))
      try simp
    ·have hr2:B=false:=by rw [hr]; simp [QpZ,n1]
     rw [hr2]
     refine Qq 8 ?_
     refine yc ?_
     iterate 30 (try (refine Qa 4 ?_; simp -implicitDefEqProofs (disch := omega) only [go_sem, ↓reduceIte, reduceCtorEq, rA, rq, rL, zA, aZ, decide_true, decide_false, lR, zL, ge_iff_le, true_implies, and_true, decide_true, decide_false, lC, lN, List.getElem?_cons_zero, h1, h2, k1', n1]))
     try simp
   ·have k1':(p.k==1)=false:=by simpa using k1
    by_cases k2:p.k=2
    ·have k2':(p.k==2)=true:=by simpa using k2
     have hr:B=decide (0≤p.n∧p.n<cnt):=by rw [hB]; simp [Q8,k2]; omega
     by_cases n1:0≤p.n
     ·by_cases n2:p.n<((cnt:Nat):Int)
      ·have hr2:B=true:=by rw [hr]; exact decide_eq_true ⟨n1,n2⟩
       rw [hr2]
       refine Qq 8 ?_
       refine yc ?_
       iterate 30 (try (refine Qa 4 ?_; simp -implicitDefEqProofs (disch := omega) only [go_sem, ↓reduceIte, reduceCtorEq, rA, rq, rL, zA, aZ, decide_true, lR, zL, ge_iff_le, true_implies, and_true, decide_true, lC, lN, List.getElem?_cons_zero, h1, h2, k1', k2', n1, n2]))
       try simp
      ·have hr2:B=false:=by rw [hr]; exact decide_eq_false (fun h=>n2 h.2)
       rw [hr2]
       refine Qq 8 ?_
       refine yc ?_
       iterate 30 (try (refine Qa 4 ?_; simp -implicitDefEqProofs (disch := omega) only [go_sem, ↓reduceIte, reduceCtorEq, rA, rq, rL, zA, aZ, decide_true, decide_false, lR, zL, ge_iff_le, true_implies, and_true, decide_true, decide_false, lC, lN, List.getElem?_cons_zero, h1, h2, k1', k2', n1, n2]))
       try simp
     ·have hr2:B=false:=by rw [hr]; exact decide_eq_false (fun h=>n1 h.1)
      rw [hr2]
      refine Qq 8 ?_
      refine yc ?_
      iterate 30 (try (refine Qa 4 ?_; simp -implicitDefEqProofs (disch := omega) only [go_sem, ↓reduceIte, reduceCtorEq, rA, rq, rL, zA, aZ, decide_true, decide_false, lR, zL, ge_iff_le, true_implies, and_true, decide_true, decide_false, lC, lN, List.getElem?_cons_zero, h1, h2, k1', k2', n1]))
      try simp
    ·have k2':(p.k==2)=false:=by simpa using k2
     by_cases k3:p.k=3
     ·have k3':(p.k==3)=true:=by simpa using k3
      have hr2:B=true:=by rw [hB]; simp [Q8,k3]; omega
      rw [hr2]
      refine Qq 8 ?_
      refine yc ?_
      iterate 30 (try (refine Qa 4 ?_; simp -implicitDefEqProofs (disch := omega) only [go_sem, ↓reduceIte, reduceCtorEq, rA, rq, rL, zA, aZ, decide_true, zL, ge_iff_le, true_implies, and_true, decide_true, lC, lN, List.getElem?_cons_zero, h1, h2, k1', k2', k3']))
      try simp
     ·have k3':(p.k==3)=false:=by simpa using k3
      have hr2:B=false:=by rw [hB]; simp [Q8,k1,k2,k3]
      rw [hr2]
      refine Qq 8 ?_
      refine yc ?_
      iterate 30 (try (refine Qa 4 ?_; simp -implicitDefEqProofs (disch := omega) only [go_sem, ↓reduceIte, reduceCtorEq, rA, rq, rL, zA, aZ, decide_true, zL, ge_iff_le, true_implies, and_true, decide_true, lC, lN, List.getElem?_cons_zero, h1, h2, k1', k2', k3']))
      try simp
  ·have hr2:B=false:=by rw [hB]; simp [Q8]; omega
   rw [hr2]
   by_cases k1:p.k=1
   ·have k1':(p.k==1)=true:=by simpa using k1
    refine Qq 8 ?_
    refine yc ?_
    iterate 30 (try (refine Qa 4 ?_; simp -implicitDefEqProofs (disch:=omega) only [go_sem,↓reduceIte,reduceCtorEq,rA,rq,rL,zA,aZ,decide_true,decide_false,zL,ge_iff_le,true_implies,and_true,decide_true,decide_false,lC,lN,List.getElem?_cons_zero,h1,h2,k1']))
    try simp
   ·have k1':(p.k==1)=false:=by simpa using k1
    by_cases k2:p.k=2
    ·have k2':(p.k==2)=true:=by simpa using k2
     refine Qq 8 ?_
     refine yc ?_
     iterate 30 (try (refine Qa 4 ?_; simp -implicitDefEqProofs (disch := omega) only [go_sem, ↓reduceIte, reduceCtorEq, rA, rq, rL, zA, aZ, decide_true, decide_false, zL, ge_iff_le, true_implies, and_true, decide_true, decide_false, lC, lN, List.getElem?_cons_zero, h1, h2, k1', k2']))
     try simp
    ·have k2':(p.k==2)=false:=by simpa using k2
     refine Qq 8 ?_
     refine yc ?_
     iterate 30 (try (refine Qa 4 ?_; simp -implicitDefEqProofs (disch := omega) only [go_sem, ↓reduceIte, reduceCtorEq, rA, rq, rL, zA, aZ, decide_true, decide_false, zL, ge_iff_le, true_implies, and_true, decide_true, decide_false, lC, lN, List.getElem?_cons_zero, h1, h2, k1', k2']))
     try simp
 ·have hr2:B=false:=by rw [hB]; simp [Q8]; omega
  rw [hr2]
  by_cases k1:p.k=1
  ·have k1':(p.k==1)=true:=by simpa using k1
   refine Qq 8 ?_
   refine yc ?_
   iterate 30 (try (refine Qa 4 ?_; simp -implicitDefEqProofs (disch:=omega) only [go_sem,↓reduceIte,reduceCtorEq,rA,rq,rL,zA,decide_false,zL,ge_iff_le,true_implies,and_true,decide_false,lC,lN,List.getElem?_cons_zero,h1,k1']))
   try simp
  ·have k1':(p.k==1)=false:=by simpa using k1
   by_cases k2:p.k=2
   ·have k2':(p.k==2)=true:=by simpa using k2
    refine Qq 8 ?_
    refine yc ?_
    iterate 30 (try (refine Qa 4 ?_; simp -implicitDefEqProofs (disch := omega) only [go_sem, ↓reduceIte, reduceCtorEq, rA, rq, rL, zA, decide_false, zL, ge_iff_le, true_implies, and_true, decide_false, lC, lN, List.getElem?_cons_zero, h1, k1', k2']))
    try simp
   ·have k2':(p.k==2)=false:=by simpa using k2
    refine Qq 8 ?_
    refine yc ?_
    iterate 30 (try (refine Qa 4 ?_; simp -implicitDefEqProofs (disch := omega) only [go_sem, ↓reduceIte, reduceCtorEq, rA, rq, rL, zA, decide_false, zL, ge_iff_le, true_implies, and_true, decide_false, lC, lN, List.getElem?_cons_zero, h1, k1', k2']))
    try simp
structure WdOk (L:List Nd) (ps:List Pr) (n:Nat) (nx bh lk:Int) (vs rs ss:List Int):Prop where
 ho:∀ v:Int,-1≤v∧v<n→HoOk L ps vs lk rs ss n nx bh v
 s1:∀ r:Nat,1≤r→r<32→r≠2→Xg ps 1 (r:Int)=false→Hs L (sy (rNo nx r))
 s2:∀ i:Nat,i<ss.length→Xg ps 2 (i:Int)=false→Hs L (sy (nx+30+(i:Int)))
 ap:ApOk L ps vs lk rs ss nx bh
theorem WdOk.ext {L L':List Nd} {ps:List Pr} {n:Nat} {nx bh lk:Int} {vs rs ss:List Int} (h:WdOk L ps n nx bh lk vs rs ss) (e:Ext L L'):WdOk L' ps n nx bh lk vs rs ss :=
 ⟨fun v hv=>(h.ho v hv).ext e,fun r h1 h2 h3 h4=>(h.s1 r h1 h2 h3 h4).ext e,fun i h1 h2=>(h.s2 i h1 h2).ext e,h.ap.ext h.s1 h.s2 e⟩
abbrev rcS (fmt:Int→List UInt8) (v0 v1 v2 v3 v4 t w:Nat) (L:List Nd) (q:List Pr):Am.H:=⟨t,kG fmt v0 v1 v2 v3 v4 L++[some (.arr w 28 (fl prC q))]⟩
abbrev rcJ (fmt:Int→List UInt8) (v0 v1 v2 v3 v4:Nat) (L:List Nd) (s:List Pr) (n cnt:Nat) (next bh:Int) (wv:List V):Nat→Fr→H→Prop:=fun i fr σ=>∃ t w q,q=(s.take i).filter (Q8 ((n:Nat):Int) cnt)∧Qh fr 4=.int .i64 next∧Qh fr 11=.int .i64 ((n:Nat):Int)∧Qh fr 13=.ptr 1 v0 0∧Qh fr 14=.ref (.agg wv) 0∧Qh fr 15=.int .i64 bh∧Qh fr 16=.int .i64 ((cnt:Nat):Int)∧Qh fr 18=.lst 3 (prs s) false∧Qh fr 17=.sl 5 w 0 3 q.length none∧Qh fr 19=.int .i64 ((i:Nat):Int)∧σ=rcS fmt v0 v1 v2 v3 v4 t w L q
abbrev rcE (fmt:Int→List UInt8) (v0 v1 v2 v3 v4:Nat) (L:List Nd) (s:List Pr) (n cnt:Nat) (next bh:Int) (wv:List V):AE→Fr→H→Prop:=fun e fr σ=>∃ t w q,e=.ex 0∧q=s.filter (Q8 ((n:Nat):Int) cnt)∧Qh fr 4=.int .i64 next∧Qh fr 11=.int .i64 ((n:Nat):Int)∧Qh fr 13=.ptr 1 v0 0∧Qh fr 14=.ref (.agg wv) 0∧Qh fr 15=.int .i64 bh∧Qh fr 17=.sl 5 w 0 3 q.length none∧σ=rcS fmt v0 v1 v2 v3 v4 t w L q
theorem QyR (hT:Qn P tab) {fmt:Int→List UInt8} {v0 v1 v2 v3 v4:Nat} {L:List Nd} {s:List Pr} {n cnt:Nat} {next bh:Int} {wv:List V} (hsl:s.length≤1000) {i:Nat} {x:Pr} (hx:s[i]?=some x) {fr:Fr} {σ:Am.H} (hJ:rcJ fmt v0 v1 v2 v3 v4 L s n cnt next bh wv i fr σ) :
 W P G 138 0 (AC.seq (AC.seq (AC.reg Qai [93, 94, 95])   (AC.cond (Arg.t 96)   AC.skip   (AC.exit 0)))   (AC.seq (AC.block 1 (AC.seq (AC.reg Qah [99, 100, 101, 102, 103, 104])   (AC.cond (Arg.t 105)   (AC.reg Qag [106, 107, 108, 109, 110, 111, 112])   AC.skip)))   (AC.reg Qaf [97, 98]))) fr σ (Qaw (fun fr σ => ∃ fr' σ', Shift G 138 0 fr σ fr' σ' ∧ rcJ fmt v0 v1 v2 v3 v4 L s n cnt next bh wv (i + 1) fr' σ') (rcE fmt v0 v1 v2 v3 v4 L s n cnt next bh wv)) := by
 obtain ⟨t,w,q,hq,f4,f11,f13,f14,f15,f16,f18,f17,f19,rfl⟩:=hJ
 have hlt:=(List.getElem?_eq_some_iff.1 hx).1
 have hD:=Qc7 hx
 have e2:=Zg hlt (by omega)
 have hst:(s.take (i+1)).filter (Q8 ((n:Nat):Int) cnt)=q++if Q8 ((n:Nat):Int) cnt x then [x] else []:=by
  rw [Qz hx,List.filter_append,← hq]
  cases h:Q8 ((n:Nat):Int) cnt x <;> simp [h]
 have hql:q.length≤1000:=by
  have:=List.length_filter_le (Q8 ((n:Nat):Int) cnt) (s.take i)
  rw [← hq,List.length_take] at this; omega
 have hH:=QzE (P:=P) (G:=G) hT x ((n:Nat):Int) cnt
 have hn:Qc [V.agg [V.int .i64 x.v,V.int .u8 x.k,V.int .i64 x.n],.int .i64 ((n:Nat):Int),.int .i64 ((cnt:Nat):Int)]=true:=by simp [Qc,Qe]
 simp only [prV,prC] at hD hH
 cases hm:Q8 ((n:Nat):Int) cnt x with
 | true =>
   rw [hm] at hH
   rw [hm,if_pos rfl] at hst
   refine Qj [(4,.int .i64 next),(11,.int .i64 ((n:Nat):Int)),(13,.ptr 1 v0 0),(14,.ref (.agg wv) 0),(15,.int .i64 bh),(16,.int .i64 ((cnt:Nat):Int)),(18,.lst 3 (prs s) false),(17,.sl 5 w 0 3 q.length none),(19,.int .i64 ((i:Nat):Int))] ⟨f4,f11,f13,f14,f15,f16,f18,f17,f19,trivial⟩  12 ?_
   simp -implicitDefEqProofs (disch:=omega) only [go_sem,↓reduceIte,rq,decide_true,Qai,Qah,Qag,Qaf,Qf,hlt]
   iterate 12 (try (refine Qa 4 ?_; simp -implicitDefEqProofs (disch:=omega) only [go_sem,Qd,↓reduceIte,reduceCtorEq,rA,rq,zA,lR,Qf,false_implies,and_true,lC,lN,tS,tN,List.drop_zero,hlt,hD]))
   refine Yb hT Yh hH hn 4 ?_
   refine ya ?_
   iterate 20 (try (refine Qa 4 ?_; simp -implicitDefEqProofs (disch:=omega) only [go_sem,Qd,↓reduceIte,reduceCtorEq,rA,rq,rL,zA,nT,lR,zL,Qf,QA,Qw7,false_implies,true_and,and_true,cA,nA,lC,lN,nT,tS,tZ,tN,List.drop_succ_cons,List.drop_zero,List.drop_nil,QjD,Qdc,hlt,hD,e2]))
   refine ⟨_,_,Shift.refl _ _ _ _,t+1,t,q++[x],hst.symm,?_⟩
   exact yv
 | false =>
   rw [hm] at hH
   rw [hm,if_neg (by simp),List.append_nil] at hst
   refine Qj [(4,.int .i64 next),(11,.int .i64 ((n:Nat):Int)),(13,.ptr 1 v0 0),(14,.ref (.agg wv) 0),(15,.int .i64 bh),(16,.int .i64 ((cnt:Nat):Int)),(18,.lst 3 (prs s) false),(17,.sl 5 w 0 3 q.length none),(19,.int .i64 ((i:Nat):Int))] ⟨f4,f11,f13,f14,f15,f16,f18,f17,f19,trivial⟩  12 ?_
   simp -implicitDefEqProofs (disch:=omega) only [go_sem,↓reduceIte,rq,decide_true,Qai,Qah,Qag,Qaf,Qf,hlt]
   iterate 12 (try (refine Qa 4 ?_; simp -implicitDefEqProofs (disch:=omega) only [go_sem,Qd,↓reduceIte,reduceCtorEq,rA,rq,zA,lR,Qf,false_implies,and_true,lC,lN,tS,tN,List.drop_zero,hlt,hD]))
   refine Yb hT Yh hH hn 4 ?_
   refine ya ?_
   iterate 20 (try (refine Qa 4 ?_; simp -implicitDefEqProofs (disch:=omega) only [go_sem,↓reduceIte,rq,e2]))
   refine ⟨_,_,Shift.refl _ _ _ _,t,w,q,hst.symm,?_⟩
   exact yb
theorem QFU (_hT:Qn P tab) {fmt:Int→List UInt8} {v0 v1 v2 v3 v4:Nat} {L:List Nd} {s:List Pr} {n cnt:Nat} {next bh:Int} {wv:List V} {i:Nat} (hi:i=s.length) {fr:Fr} {σ:Am.H} (hJ:rcJ fmt v0 v1 v2 v3 v4 L s n cnt next bh wv i fr σ) :
 W P G 138 0 (AC.seq (AC.seq (AC.reg Qai [93,94,95])   (AC.cond (Arg.t 96)   AC.skip   (AC.exit 0)))   (AC.seq (AC.block 1 (AC.seq (AC.reg Qah [99,100,101,102,103,104])   (AC.cond (Arg.t 105)   (AC.reg Qag [106,107,108,109,110,111,112])   AC.skip)))   (AC.reg Qaf [97,98]))) fr σ (Qaw (fun _ _=>False) (rcE fmt v0 v1 v2 v3 v4 L s n cnt next bh wv)):=by
 obtain ⟨t,w,q,hq,f4,f11,f13,f14,f15,f16,f18,f17,f19,rfl⟩:=hJ
 rw [hi,List.take_length] at hq
 refine Qj [(4,.int .i64 next),(11,.int .i64 ((n:Nat):Int)),(13,.ptr 1 v0 0),(14,.ref (.agg wv) 0),(15,.int .i64 bh),(16,.int .i64 ((cnt:Nat):Int)),(18,.lst 3 (prs s) false),(17,.sl 5 w 0 3 q.length none),(19,.int .i64 ((i:Nat):Int))] ⟨f4,f11,f13,f14,f15,f16,f18,f17,f19,trivial⟩  12 ?_
 simp -implicitDefEqProofs (disch:=omega) only [go_sem,↓reduceIte,rq,decide_false,Qai,Qah,Qag,Qaf,Qf,hi,Nat.lt_irrefl]
 refine ⟨t,w,q,rfl,hq,?_⟩
 repeat' (first | exact rfl | refine ⟨rfl,?_⟩)
theorem rf_C (hT:Qn P tab) (F:Fmt P G) (hW:Works P G) {v0 v1 v2 v3 v4 t:Nat} {L:List Nd} {l ps:List Pr} {tg:Bool} {n cnt:Nat} {next bh lk:Int} {vs rs ss:List Int} {sure:Bool} {wv:List V} (hwv:wv=wV vs lk rs ss sure) (hr:rs.length=32) (hvl:vs.length=n) (hsl:ss.length≤1000) (hn:n≤10) (hps:ps=Qaj l n cnt) (hO:WdOk L ps n (max 0 next) bh lk vs rs ss) (hl:l.length≤30) (hL:L.length≤20000) {Q:V→Am.H→Prop} (hQ:∀ σ,Q (.bool true) σ) :
 W P G 138 0 (Zd 8 proofmarklaw25_RelateFresh.body) [(0,.lst 3 (prs l) tg),(4,.int .i64 next),(11,.int .i64 ((n:Nat):Int)),(13,.ptr 1 v0 0),(14,.ref (.agg wv) 0),(15,.int .i64 bh),(16,.int .i64 ((cnt:Nat):Int))] ⟨t,kG F.fmt v0 v1 v2 v3 v4 L⟩ (QtI G proofmarklaw25_RelateFresh.res Q):=by
 have hsrt:=Qo2 l
 have hpl:ps.length≤1000:=by
  have:=List.length_filter_le (Q8 ((n:Nat):Int) cnt) (srt l)
  rw [hps]; unfold Qaj; omega
 have hD:=fun t=>rf_D (P:=P) (G:=G) hT F hW (v0:=v0) (v1:=v1) (v2:=v2) (v3:=v3) (v4:=v4) (t:=t) (next:=next) hwv hr hvl hsl hn hO.ho hO.s1 hO.s2 hO.ap hpl hL hQ
 show W P G 138 0 (.seq (.reg Qdz []) (.seq (.reg Qdy [90,91,92]) (.seq (.seq (.reg Qdx []) (.block 0 (.loop (AC.seq (AC.seq (AC.reg Qai [93,94,95])   (AC.cond (Arg.t 96)   AC.skip   (AC.exit 0)))   (AC.seq (AC.block 1 (AC.seq (AC.reg Qah [99,100,101,102,103,104])   (AC.cond (Arg.t 105)   (AC.reg Qag [106,107,108,109,110,111,112])   AC.skip)))   (AC.reg Qaf [97,98])))))) (Zd 11 proofmarklaw25_RelateFresh.body)))) _ _ _
 obtain ⟨T,hTT⟩:∃ c,c=Zd 11 proofmarklaw25_RelateFresh.body:=⟨_,rfl⟩
 rw [← hTT] at hD ⊢
 refine Qq 4 ?_
 refine yu ?_
 refine X6 (Shift.own (s:=17) (z:=0) (sz:=3) (T:=28) (ym) (by decide)) ?_
 simp -implicitDefEqProofs (disch:=omega) only [go_sem,↓reduceIte,reduceCtorEq,rq,H.push,Qcq]
 refine Qa 8 ?_
 refine ya ?_
 refine Yb hT Qak (QGV hT l tg (by omega)) (by simp [Qc,Qe]) 8 ?_
 refine ya ?_
 refine Yb hT ZR (Qxp hT l false (by omega)) (by simp [Qc,Qe]) 12 ?_
 refine ya ?_
 refine XU (srt l) (rcJ F.fmt v0 v1 v2 v3 v4 L (srt l) n cnt next bh wv) (rcE F.fmt v0 v1 v2 v3 v4 L (srt l) n cnt next bh wv) ⟨t+1,t,[],by simp,?_⟩ (fun i x hx fr σ hJ=>QyR hT (by omega) hx hJ) (fun i hi fr σ hJ=>QFU hT hi hJ) (fun e fr σ hE=>?_)
 ·simp -implicitDefEqProofs (disch:=omega) only [go_sem,↓reduceIte,reduceCtorEq,rq,true_and,lN]
  try simp [fl]
 ·obtain ⟨t2,w,q,rfl,hq,f4,f11,f13,f14,f15,f17,rfl⟩:=hE
  have hqp:q=ps:=by rw [hps,hq]; rfl
  subst hqp
  refine Qfu [(4,.int .i64 next),(11,.int .i64 ((n:Nat):Int)),(13,.ptr 1 v0 0),(14,.ref (.agg wv) 0),(15,.int .i64 bh),(17,.sl 5 w 0 3 q.length none)] ⟨f4,f11,f13,f14,f15,f17,trivial⟩ ?_
  refine X6 (Shift.freeze (k:=5) (v:=w) (T:=28) (cs:=fl prC q) (zL _) rfl (Zt prC Qox _)) ?_
  have hz:=Qpr (k:=5) (w:=w) q
  have e5:(kG F.fmt v0 v1 v2 v3 v4 L++[some (Ob.arr w 28 (fl prC q))]).set 5 none=kG F.fmt v0 v1 v2 v3 v4 L++[none]:=rfl
  simp only [Ye,Zm,hz,e5,QkA (lR 5),QP,Option.map_none]
  simp only [Z3,rq,false_and,if_false]
  refine X6 (Shift.drop (Y8 (kG F.fmt v0 v1 v2 v3 v4 L) [none]) (lR _) (zL _)) ?_
  exact hD _
theorem rf_B (hT:Qn P tab) (F:Fmt P G) (hW:Works P G) {v0 v1 v2 v3 v4 t:Nat} {L:List Nd} {l ps:List Pr} {tg:Bool} {m n cnt:Nat} {params next bh lk:Int} {vs rs ss:List Int} {wv:List V} (hm:m≤4) (hcnt:cnt=QaR m params) (hwv:wv=wV vs lk rs ss (decide (m=0))) (hr:rs.length=32) (hvl:vs.length=n) (hsl:ss.length=cnt) (hn:n≤10) (hps:ps=Qaj l n cnt) (hO:WdOk L ps n (max 0 next) bh lk vs rs ss) (h0:rs.getD 0 0=XR L (co 0)) (hs0:Hs L (co 0)) (h2:rs.getD 2 0=-1) (hl:l.length≤30) (hL:L.length≤19000) {Q:V→Am.H→Prop} (hQ:∀ σ,Q (.bool true) σ) :
 W P G 138 0 (Zd 6 proofmarklaw25_RelateFresh.body) [(0,.lst 3 (prs l) tg),(3,.int .i64 params),(4,.int .i64 next),(11,.int .i64 ((n:Nat):Int)),(12,.ref (.agg (fnC m)) 0),(13,.ptr 1 v0 0),(14,.ref (.agg wv) 0),(15,.int .i64 bh)] ⟨t,kG F.fmt v0 v1 v2 v3 v4 L⟩ (QtI G proofmarklaw25_RelateFresh.res Q):=by
 have hC:=fun {L2:List Nd} {u2 u3 u4:Nat} (hE:Ext L L2) (hl2:L2.length≤20000) (t:Nat)=>rf_C (P:=P) (G:=G) hT F hW (v0:=v0) (v1:=v1) (v2:=u2) (v3:=u3) (v4:=u4) (t:=t) (next:=next) (tg:=tg) (cnt:=cnt) (bh:=bh) hwv hr hvl (by rw [hsl,hcnt]; unfold QaR; omega) hn hps (hO.ext hE) hl hl2 hQ
 show W P G 138 0 (.seq (.reg Qi6 [45,46,47,48,49,50,51]) (.seq (.seq (.reg Qi5 [52,53,54,55,56,57,58,59,60,61,62,63,64,65,66,67,68,69,70,71,72,73,74,75,76,77,78,79,80,81,82,83,84,85,86,87,88]) (.cond (.t 89) (.seq (.reg Qi4 []) .ret) .skip)) (Zd 8 proofmarklaw25_RelateFresh.body))) _ _ _
 obtain ⟨T,hTT⟩:∃ c,c=Zd 8 proofmarklaw25_RelateFresh.body:=⟨_,rfl⟩
 rw [← hTT] at hC ⊢
 have hmin:(if (6:Int)<params then (6:Int) else params)=min params 6:=by split <;> omega
 have hmx:(if (0:Int)<min params 6 then min params 6 else 0)=max 0 (min params 6):=by split <;> omega
 have hq:IntKind.i64.wrap (Int.tdiv (8 * (m:Int)) 8)=(m:Int):=by rw [Int.mul_tdiv_cancel_left _ (by omega),QkG (by omega)]
 have hsum:IntKind.i64.wrap ((m:Int)+max 0 (min params 6))=(cnt:Int):=by rw [QkG (by omega),hcnt]; unfold QaR; omega
 have hfr:((8 * (m:Int))==0)=decide (m=0):=by rw [Bool.eq_iff_iff,beq_iff_eq,decide_eq_true_eq]; omega
 have hwl:wv.length=36:=by rw [hwv]; simp [wV,Qo,hr]
 have g0:wv.getD 0 V.any=.lst 1 (ints vs) false:=hwv▸rfl
 have g34:wv.getD 34 V.any=.lst 1 (ints ss) false:=hwv▸QFC hr
 have g35:wv.getD 35 V.any=.bool (decide (m=0)):=by
  rw [hwv]
  show (ints rs++[V.lst 1 (ints ss) false,V.bool (decide (m=0))]).getD 33 V.any=_
  rw [List.getD_eq_getElem?_getD,List.getElem?_append_right (by rw [Qo]; omega),Qo,hr]; rfl
 have gr:∀ k:Nat,k<32→wv.getD (2+k) V.any=.int .i64 (rs.getD k 0):=fun k hk=>by
  rw [hwv,Nat.add_comm]
  exact QyO (rs:=rs) (n:=((k:Nat):Int)) (by omega) (by omega) _
 have g2:wv.getD 2 V.any=.int .i64 (XR L (co 0)):=by have:=gr 0 (by omega); rw [h0] at this; exact this
 have g4:wv.getD 4 V.any=.int .i64 (-1):=by have:=gr 2 (by omega); rw [h2] at this; exact this
 have b1:(((vs.length:Nat):Int) != ((n:Nat):Int))=false:=by simp [hvl]
 have b2:(((ss.length:Nat):Int) != ((cnt:Nat):Int))=false:=by simp [hsl]
 have b3:((-1:Int) != -1)=false:=rfl
 have b4:(XR L (co 0) != XR L (co 0))=false:=by simp
 have hcv:=fun t=>QmJ (P:=P) (G:=G) hT F (v0:=v0) (v1:=v1) (v2:=v2) (v3:=v3) (v4:=v4) (t:=t) (L:=L) (ex:=[]) (n:=0) (by unfold i64; omega) (by omega)
 simp only [List.append_nil] at hcv
 simp only [fnC]
 refine Qq 16 ?_
 simp -implicitDefEqProofs (disch:=omega) only [go_sem,Qd,↓reduceIte,reduceCtorEq,rA,rq,rL,Int.reduceEq,zA,aZ,gt_iff_lt,proofmarklaw25_RelateFresh,Qjd,Qjc,Qjb,Qja,Qi9,Qi8,Qi7,Qi6,Qi5,Qi4,Qdz,Qdy,Qdx,Qai,Qah,Qag,Qaf,Qdw,QaV,QaU,QaT,QaS,Qdv,true_implies,and_true,not_false_eq_true,lC,lN,List.getD_cons_zero,List.getD_cons_succ,hq,hmin,hmx,hsum]
 iterate 12 (try (refine Qa 4 ?_; simp -implicitDefEqProofs (disch:=omega) only [go_sem,↓reduceIte,reduceCtorEq,rA,rq,rL,Int.reduceToNat,Int.reduceLE,zA,aZ,Nat.mul_one,lR,bne_self_eq_false,Qo,true_implies,and_true,lC,lN,List.getD_cons_zero,List.getD_cons_succ,bne_self_eq_false,hwl,g0,g34,g35,g2,g4,b1,b2,hfr]))
 repeat' (first | with_reducible refine And.intro ?_ ?_ | (refine Qa 6 ?_; simp -implicitDefEqProofs (disch:=omega) only [go_sem,Qd,↓reduceIte,reduceCtorEq,rA,rq,rL,rT,Nat.reduceSub,Nat.reduceMul,Int.reduceToNat,Int.reduceLE,Int.reduceLT,Int.reduceEq,Int.reduceNe,Nat.succ_ne_zero,zA,aZ,Nat.mul_one,Nat.one_mul,Nat.zero_mul,decide_true,decide_false,nT,nF,lR,zL,ge_iff_le,gt_iff_lt,Nat.reduceBEq,Nat.reduceBNe,beq_self_eq_true,bne_self_eq_false,Option.isSome_some,Option.isSome_none,Option.getD_some,Option.getD_none,proofmarklaw25_RelateFresh,Qjd,Qjc,Qjb,Qja,Qi9,Qi8,Qi7,Qi6,Qi5,Qi4,Qdz,Qdy,Qdx,Qai,Qah,Qag,Qaf,Qdw,QaV,QaU,QaT,QaS,Qdv,Qo,Qf,false_implies,true_implies,true_and,and_true,not_true_eq_false,not_false_eq_true,Int.reduceBEq,aA,cA,nA,lA,lC,lN,List.getElem?_cons_zero,List.getElem?_cons_succ,List.getD_cons_zero,List.getD_cons_succ,List.set_cons_zero,List.set_cons_succ,nT,nF,tS,tZ,tN,List.drop_succ_cons,List.drop_zero,List.drop_nil,bne_self_eq_false,Bool.false_or,Qcq,QjD,Qdc,Qi1,QdR,QnK,Qei,Y5,Qa9,hwl,g2]))
 all_goals
  refine CV.use 1 (CV.of hT ZG (hcv _)) fun v σ hv=>?_
  obtain ⟨L2,t2,u2,u3,u4,x1,x2,x3,x4,rfl,rfl⟩:=hv
  rw [Xw hs0 x1]
  simp -implicitDefEqProofs (disch:=omega) only [go_sem,↓reduceIte,reduceCtorEq,rA,rq,rL,zA,bne_self_eq_false,true_implies,and_true,bne_self_eq_false,hwl,g2]
  iterate 16 (try (refine Qa 1 ?_; simp -implicitDefEqProofs (disch:=omega) only [go_sem,↓reduceIte,reduceCtorEq,rq,zA,bne_self_eq_false,bne_self_eq_false]))
  refine Qml (XX [(0,.lst 3 (prs l) tg),(4,.int .i64 next),(11,.int .i64 ((n:Nat):Int)),(13,.ptr 1 v0 0),(14,.ref (.agg wv) 0),(15,.int .i64 bh),(16,.int .i64 ((cnt:Nat):Int))] ⟨rfl,rfl,rfl,rfl,rfl,rfl,rfl,trivial⟩ ?_)
  exact hC x1 (by omega) _
end Go.Proofs.YtfgccihafnjalaaGreatDoor
