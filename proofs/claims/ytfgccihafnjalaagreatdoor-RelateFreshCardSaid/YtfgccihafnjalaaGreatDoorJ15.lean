/- The law's apart: what is in no pair. -/
import Derived.Test.YtfgccihafnjalaaGreatDoorJ14
import Derived.Test.YtfgccihafnjalaaGreatDoorY
open Nat renaming reduceEqDiff → rq, reduceAdd → rA, reduceLeDiff → rL, reduceLT → rT, zero_add → zA, le_refl → lR, zero_le → zL, add_zero → aZ
open List renaming length_cons → lC, length_nil → lN, take_succ_cons → tS, length_append → lA, nil_append → nA, cons_append → cA, append_assoc → aA, take_nil → tN, take_zero → tZ, length_map → lM
open Bool renaming not_false → nF, not_true → nT
namespace Go.Proofs.YtfgccihafnjalaaGreatDoor
open Go Go.Am Go.Re
set_option maxRecDepth 100000
variable {P:Program} {G:Nat→Option V}
theorem QtN (hT:Qn P tab) (l:List Pr) (tg:Bool) (k n:Int) (hl:l.length≤1000000):Am.Pure P G Z0 [.lst 3 (prs l) tg,.int .u8 k,.int .i64 n] fun u=>u=.bool (Xg l k n):=by
 refine fun t=>Xt 0 (zL _) (Q6 hT QX (by simp [Xf]) (Qq 20 ?_))
 simp -implicitDefEqProofs (disch:=omega) only [go_sem,↓reduceIte,reduceCtorEq,rA,rq,zA,Xf,QCa,QB9,QB8,QB7,QB6,QB5,QB4]
 refine XU l (fun i fr σ=>Xg (l.take i) k n=false∧Qh fr 0=.lst 3 (prs l) tg∧Qh fr 1=.int .u8 k∧Qh fr 2=.int .i64 n∧Qh fr 7=.int .i64 ((i:Nat):Int)∧σ=⟨t,[]⟩) (fun e fr σ=>(e=.ret∧Xg l k n=true∧Qh fr 6=.bool true)∨(e=.ex 0∧Xg l k n=false)) ⟨rfl,?_⟩ (fun i x hx fr σ hJ=>?_) (fun i hi fr σ hJ=>?_) (fun e fr σ hE=>?_)
 ·refine ye ?_
  try simp
 ·obtain ⟨hno,f0,f1,f2,f7,rfl⟩:=hJ
  have hlt:=(List.getElem?_eq_some_iff.1 hx).1
  have hD:=Qc7 hx
  have e2:=Zg hlt (by omega)
  simp only [prV,prC] at hD
  have hst:Xg (l.take (i+1)) k n=decide (x.k=k∧x.n=n):=by
   rw [Qz hx]; unfold Xg at hno ⊢; rw [List.any_append,hno]; simp
  by_cases h1:x.k=k
  ·have h1':(x.k==k)=true:=by simpa using h1
   by_cases h2:x.n=n
   ·have h2':(x.n==n)=true:=by simpa using h2
    have hm:Xg l k n=true:=List.any_eq_true.2 ⟨x,List.mem_of_getElem? hx,by simp [h1,h2]⟩
    refine Qj [(0,.lst 3 (prs l) tg),(1,.int .u8 k),(2,.int .i64 n),(7,.int .i64 ((i:Nat):Int))] ⟨f0,f1,f2,f7,trivial⟩  12 ?_
    refine yw ?_
    iterate 12 (try (refine Qa 4 ?_; simp -implicitDefEqProofs (disch := omega) only [go_sem, Qd, ↓reduceIte, reduceCtorEq, rA, rq, rL, zA, lR, Qf, true_implies, true_and, and_true, lC, lN, List.getD_cons_zero, List.getD_cons_succ, hlt, hD, h1', h2']))
    try exact hm
   ·have h2':(x.n==n)=false:=by simpa using h2
    refine Qj [(0,.lst 3 (prs l) tg),(1,.int .u8 k),(2,.int .i64 n),(7,.int .i64 ((i:Nat):Int))] ⟨f0,f1,f2,f7,trivial⟩  12 ?_
    refine yw ?_
    iterate 12 (try (refine Qa 4 ?_; simp -implicitDefEqProofs (disch := omega) only [go_sem, Qd, ↓reduceIte, reduceCtorEq, rA, rq, rL, zA, lR, Qf, true_implies, and_true, lC, lN, List.getD_cons_zero, List.getD_cons_succ, hlt, hD, h1', h2', e2]))
    refine ⟨_,_,Shift.refl _ _ _ _,?_,?_⟩
    ·rw [hst]; simp [h2]
    ·exact yb
  ·have h1':(x.k==k)=false:=by simpa using h1
   refine Qj [(0,.lst 3 (prs l) tg),(1,.int .u8 k),(2,.int .i64 n),(7,.int .i64 ((i:Nat):Int))] ⟨f0,f1,f2,f7,trivial⟩  12 ?_
   refine yw ?_
   iterate 12 (try (refine Qa 4 ?_; simp -implicitDefEqProofs (disch := omega) only [go_sem, Qd, ↓reduceIte, reduceCtorEq, rA, rq, rL, zA, Qf, true_implies, and_true, lC, lN, List.getD_cons_zero, List.getD_cons_succ, hlt, hD, h1', e2]))
   refine ⟨_,_,Shift.refl _ _ _ _,?_,?_⟩
   ·rw [hst]; simp [h1]
   ·exact yb
 ·obtain ⟨hno,f0,f1,f2,f7,rfl⟩:=hJ
  rw [hi,List.take_length] at hno
  refine Qj [(0,.lst 3 (prs l) tg),(1,.int .u8 k),(2,.int .i64 n),(7,.int .i64 ((i:Nat):Int))] ⟨f0,f1,f2,f7,trivial⟩  12 ?_
  refine yn ?_
  try exact hno
 ·rcases hE with ⟨rfl,hm,f6⟩ | ⟨rfl,hno⟩
  ·refine Qa 12 ?_
   simp -implicitDefEqProofs (disch:=omega) only [go_sem,zL,true_and,f6]
   try simp [hm]
  ·refine Qa 12 ?_
   refine yf ?_
   try simp [hno]
structure ApOk (L:List Nd) (ps:List Pr) (vs:List Int) (lk:Int) (rs ss:List Int) (nx bh:Int):Prop where
 reg:∀ r:Nat,1≤r→r<32→r≠2→Xg ps 1 (r:Int)=false→rs.getD r 0=XR L (sy (rNo nx r))
 slot:∀ i:Nat,i<ss.length→Xg ps 2 (i:Int)=false→ss.getD i 0=XR L (sy (nx+30+(i:Int)))
 all:∀ c∈QqJ ps nx ss.length,nx≤c∧c<bh∧Hs L (sy c)∧XR L (sy c)≠lk∧∀ x∈vs,XR L (sy c)≠x
abbrev apS (fmt:Int→List UInt8) (v0 v1 v2 v3 v4 t w:Nat) (L:List Nd) (l:List Int):Am.H:=⟨t,kG fmt v0 v1 v2 v3 v4 L++[none,some (.arr w 44 (QjG L l))]⟩
abbrev a0J (fmt:Int→List UInt8) (v0 v1 v2 v3 v4:Nat) (L:List Nd) (ps:List Pr) (tg:Bool) (nx bh:Int) (wv:List V):Nat→Fr→H→Prop:=fun i fr σ=>∃ t w l,l=QgG ps nx (i+1)∧Qh fr 0=.ptr 1 v0 0∧Qh fr 2=.lst 3 (prs ps) tg∧Qh fr 3=.int .i64 nx∧Qh fr 4=.int .i64 bh∧Qh fr 6=.ref (.agg wv) 0∧Qh fr 11=.sl 6 w 0 1 l.length none∧Qh fr 12=.int .i64 ((i+1:Nat):Int)∧σ=apS fmt v0 v1 v2 v3 v4 t w L l
abbrev a0E (fmt:Int→List UInt8) (v0 v1 v2 v3 v4:Nat) (L:List Nd) (ps:List Pr) (tg:Bool) (nx bh:Int) (wv:List V):AE→Fr→H→Prop:=fun e fr σ=>∃ t w l,e=.ex 0∧l=QgG ps nx 32∧Qh fr 0=.ptr 1 v0 0∧Qh fr 2=.lst 3 (prs ps) tg∧Qh fr 3=.int .i64 nx∧Qh fr 4=.int .i64 bh∧Qh fr 6=.ref (.agg wv) 0∧Qh fr 11=.sl 6 w 0 1 l.length none∧σ=apS fmt v0 v1 v2 v3 v4 t w L l
theorem Qz0 (hT:Qn P tab) {fmt:Int→List UInt8} {v0 v1 v2 v3 v4:Nat} {L:List Nd} {ps:List Pr} {tg:Bool} {nx bh lk:Int} {vs rs ss:List Int} {sure:Bool} (hr:rs.length=32) (hH:ApOk L ps vs lk rs ss nx bh) (hpl:ps.length≤1000000) {i:Nat} (hi:i<31) {fr:Fr} {σ:Am.H} (hJ:a0J fmt v0 v1 v2 v3 v4 L ps tg nx bh (wV vs lk rs ss sure) i fr σ) :
 W P G 134 0 (AC.seq (AC.seq (AC.reg Qp4 [19])   (AC.cond (Arg.t 20)   AC.skip   (AC.exit 0)))   (AC.seq (AC.block 1 (AC.seq (AC.reg Qp3 [23, 24, 25, 26, 27, 28, 29])   (AC.cond (Arg.t 30)   (AC.reg Qp2 [31, 32, 33, 34, 35, 36, 37, 38])   AC.skip)))   (AC.reg Qp1 [21, 22]))) fr σ (Qaw (fun fr σ => ∃ fr' σ', Shift G 134 0 fr σ fr' σ' ∧ a0J fmt v0 v1 v2 v3 v4 L ps tg nx bh (wV vs lk rs ss sure) (i + 1) fr' σ') (a0E fmt v0 v1 v2 v3 v4 L ps tg nx bh (wV vs lk rs ss sure))) := by
 obtain ⟨t,w,l,hl,f0,f2,f3,f4,f6,f11,f12,rfl⟩:=hJ
 have hll:l.length≤32:=by have:=QiL ps nx (i+1); rw [hl]; omega
 have hwl:(wV vs lk rs ss sure).length=36:=by simp [wV,Qo,hr]
 have hg:(wV vs lk rs ss sure).getD (2+(i+1)) V.any=.int .i64 (rs.getD (i+1) 0):=by
  have:=QyO (rs:=rs) (n:=((i+1:Nat):Int)) (by omega) (by omega) [.lst 1 (ints ss) false,.bool sure]
  rw [Nat.add_comm]; exact this
 have hP:=QtN (P:=P) (G:=G) hT ps tg 1 ((i+1:Nat):Int) hpl
 have hPn:Qc [V.lst 3 (prs ps) tg,.int .u8 1,.int .i64 ((i+1:Nat):Int)]=true:=by simp [Qc,Qe]
 have e2:IntKind.i64.wrap (((i+1:Nat):Int)+1)=((i+1+1:Nat):Int):=by rw [QkG (by omega)]; rfl
 have h32:((i+1:Nat):Int)<32:=by omega
 obtain ⟨wv,hwv⟩:∃ wv,wv=wV vs lk rs ss sure:=⟨_,rfl⟩
 rw [← hwv] at f6 hwl hg ⊢
 have hstep:QgG ps nx (i+1+1)=l++if 1≤i+1∧i+1≠2∧Xg ps 1 ((i+1:Nat):Int)=false then [rNo nx (i+1)] else []:=by rw [hl]; rfl
 by_cases h2:i+1=2
 ·have hb:(((i+1:Nat):Int) != 2)=false:=by rw [h2]; rfl
  rw [if_neg (fun h=>h.2.1 h2),List.append_nil] at hstep
  refine Qj [(0,.ptr 1 v0 0),(2,.lst 3 (prs ps) tg),(3,.int .i64 nx),(4,.int .i64 bh),(6,.ref (.agg wv) 0),(11,.sl 6 w 0 1 l.length none),(12,.int .i64 ((i+1:Nat):Int))] ⟨f0,f2,f3,f4,f6,f11,f12,trivial⟩  12 ?_
  refine yp ?_
  iterate 12 (try (refine Qa 4 ?_; simp -implicitDefEqProofs (disch:=omega) only [go_sem,↓reduceIte,reduceCtorEq,rq,hb,e2]))
  refine ⟨_,_,Shift.refl _ _ _ _,t,w,l,hstep.symm,?_⟩
  exact yb
 ·have hb:(((i+1:Nat):Int) != 2)=true:=by simp; omega
  cases hp:Xg ps 1 ((i+1:Nat):Int) with
  | true =>
    rw [hp] at hP
    rw [if_neg (fun h=>by rw [hp] at h; exact Bool.noConfusion h.2.2),List.append_nil] at hstep
    refine Qj [(0,.ptr 1 v0 0),(2,.lst 3 (prs ps) tg),(3,.int .i64 nx),(4,.int .i64 bh),(6,.ref (.agg wv) 0),(11,.sl 6 w 0 1 l.length none),(12,.int .i64 ((i+1:Nat):Int))] ⟨f0,f2,f3,f4,f6,f11,f12,trivial⟩  12 ?_
    refine yp ?_
    iterate 12 (try (refine Qa 4 ?_; simp -implicitDefEqProofs (disch:=omega) only [go_sem,↓reduceIte,reduceCtorEq,rA,rq,zA,hb]))
    refine Yb hT QX hP hPn 4 ?_
    refine ya ?_
    iterate 12 (try (refine Qa 4 ?_; simp -implicitDefEqProofs (disch:=omega) only [go_sem,↓reduceIte,reduceCtorEq,rq,e2]))
    refine ⟨_,_,Shift.refl _ _ _ _,t,w,l,hstep.symm,?_⟩
    exact yb
  | false =>
    rw [hp] at hP
    rw [if_pos ⟨by omega,h2,hp⟩] at hstep
    rw [hH.reg (i+1) (by omega) (by omega) h2 hp] at hg
    refine Qj [(0,.ptr 1 v0 0),(2,.lst 3 (prs ps) tg),(3,.int .i64 nx),(4,.int .i64 bh),(6,.ref (.agg wv) 0),(11,.sl 6 w 0 1 l.length none),(12,.int .i64 ((i+1:Nat):Int))] ⟨f0,f2,f3,f4,f6,f11,f12,trivial⟩  12 ?_
    refine yp ?_
    iterate 12 (try (refine Qa 4 ?_; simp -implicitDefEqProofs (disch:=omega) only [go_sem,↓reduceIte,reduceCtorEq,rA,rq,zA,hb]))
    refine Yb hT QX hP hPn 4 ?_
    refine ya ?_
    iterate 20 (try (refine Qa 4 ?_; simp -implicitDefEqProofs (disch:=omega) only [go_sem,Qd,↓reduceIte,reduceCtorEq,rq,rL,zA,aZ,Nat.mul_one,nT,lR,zL,Qbb,true_implies,true_and,and_true,cA,nA,lC,lN,nT,tZ,List.drop_succ_cons,List.drop_zero,List.drop_nil,Qi1,QdR,e2,hwl,hg,QoG]))
    refine ⟨_,_,Shift.refl _ _ _ _,t+1,t,l++[rNo nx (i+1)],hstep.symm,?_⟩
    exact yv
theorem QHi (_hT:Qn P tab) {fmt:Int→List UInt8} {v0 v1 v2 v3 v4:Nat} {L:List Nd} {ps:List Pr} {tg:Bool} {nx bh:Int} {wv:List V} {i:Nat} (hi:i=31) {fr:Fr} {σ:Am.H} (hJ:a0J fmt v0 v1 v2 v3 v4 L ps tg nx bh wv i fr σ) :
 W P G 134 0 (AC.seq (AC.seq (AC.reg Qp4 [19])   (AC.cond (Arg.t 20)   AC.skip   (AC.exit 0)))   (AC.seq (AC.block 1 (AC.seq (AC.reg Qp3 [23,24,25,26,27,28,29])   (AC.cond (Arg.t 30)   (AC.reg Qp2 [31,32,33,34,35,36,37,38])   AC.skip)))   (AC.reg Qp1 [21,22]))) fr σ (Qaw (fun _ _=>False) (a0E fmt v0 v1 v2 v3 v4 L ps tg nx bh wv)):=by
 obtain ⟨t,w,l,hl,f0,f2,f3,f4,f6,f11,f12,rfl⟩:=hJ
 have h32:¬ (((i+1:Nat):Int)<32):=by omega
 rw [hi] at hl
 refine Qj [(0,.ptr 1 v0 0),(2,.lst 3 (prs ps) tg),(3,.int .i64 nx),(4,.int .i64 bh),(6,.ref (.agg wv) 0),(11,.sl 6 w 0 1 l.length none),(12,.int .i64 ((i+1:Nat):Int))] ⟨f0,f2,f3,f4,f6,f11,f12,trivial⟩  12 ?_
 refine yp ?_
 refine ⟨t,w,l,rfl,hl,?_⟩
 repeat' (first | exact rfl | refine ⟨rfl,?_⟩)
abbrev a1J (fmt:Int→List UInt8) (v0 v1 v2 v3 v4:Nat) (L:List Nd) (ps:List Pr) (tg:Bool) (nx bh:Int) (wv:List V):Nat→Fr→H→Prop:=fun i fr σ=>∃ t w l,l=QgG ps nx 32++QiJ ps nx i∧Qh fr 0=.ptr 1 v0 0∧Qh fr 2=.lst 3 (prs ps) tg∧Qh fr 3=.int .i64 nx∧Qh fr 4=.int .i64 bh∧Qh fr 6=.ref (.agg wv) 0∧Qh fr 11=.sl 6 w 0 1 l.length none∧Qh fr 13=.int .i64 ((i:Nat):Int)∧σ=apS fmt v0 v1 v2 v3 v4 t w L l
abbrev a1E (fmt:Int→List UInt8) (v0 v1 v2 v3 v4:Nat) (L:List Nd) (ps:List Pr) (tg:Bool) (nx bh:Int) (wv:List V) (cnt:Nat):AE→Fr→H→Prop:=fun e fr σ=>∃ t w l,e=.ex 2∧l=QqJ ps nx cnt∧Qh fr 0=.ptr 1 v0 0∧Qh fr 2=.lst 3 (prs ps) tg∧Qh fr 3=.int .i64 nx∧Qh fr 4=.int .i64 bh∧Qh fr 6=.ref (.agg wv) 0∧Qh fr 11=.sl 6 w 0 1 l.length none∧σ=apS fmt v0 v1 v2 v3 v4 t w L l
theorem QFC {vs rs ss:List Int} {lk:Int} {sure:Bool} (hr:rs.length=32):(wV vs lk rs ss sure).getD 34 V.any=.lst 1 (ints ss) false:=rs_32 hr _ _
theorem QzZ (hT:Qn P tab) {fmt:Int→List UInt8} {v0 v1 v2 v3 v4:Nat} {L:List Nd} {ps:List Pr} {tg:Bool} {nx bh lk:Int} {vs rs ss:List Int} {sure:Bool} (hr:rs.length=32) (hH:ApOk L ps vs lk rs ss nx bh) (hpl:ps.length≤1000000) (hsl:ss.length≤100000) {i:Nat} (hi:i<ss.length) {fr:Fr} {σ:Am.H} (hJ:a1J fmt v0 v1 v2 v3 v4 L ps tg nx bh (wV vs lk rs ss sure) i fr σ) :
 W P G 134 0 (AC.seq (AC.seq (AC.reg QrP [39, 40, 41, 42, 43])   (AC.cond (Arg.t 44)   AC.skip   (AC.exit 2)))   (AC.seq (AC.block 3 (AC.seq (AC.reg QrO [47, 48, 49])   (AC.cond (Arg.t 50)   (AC.reg QlX [51, 52, 53, 54, 55, 56, 57, 58, 59])   AC.skip)))   (AC.reg QlW [45, 46]))) fr σ (Qaw (fun fr σ => ∃ fr' σ', Shift G 134 0 fr σ fr' σ' ∧ a1J fmt v0 v1 v2 v3 v4 L ps tg nx bh (wV vs lk rs ss sure) (i + 1) fr' σ') (a1E fmt v0 v1 v2 v3 v4 L ps tg nx bh (wV vs lk rs ss sure) ss.length)) := by
 obtain ⟨t,w,l,hl,f0,f2,f3,f4,f6,f11,f13,rfl⟩:=hJ
 have hll:l.length≤200000:=by have h1:=QiL ps nx 32; have h2:=QmO ps nx i; rw [hl,lA]; omega
 have hwl:(wV vs lk rs ss sure).length=36:=by simp [wV,Qo,hr]
 have hg:=QFC (vs:=vs) (ss:=ss) (lk:=lk) (sure:=sure) hr
 have hg2:=QmK hi
 have hP:=QtN (P:=P) (G:=G) hT ps tg 2 ((i:Nat):Int) hpl
 have hPn:Qc [V.lst 3 (prs ps) tg,.int .u8 2,.int .i64 ((i:Nat):Int)]=true:=by simp [Qc,Qe]
 have e2:=Zg hi (by omega)
 obtain ⟨wv,hwv⟩:∃ wv,wv=wV vs lk rs ss sure:=⟨_,rfl⟩
 rw [← hwv] at f6 hwl hg ⊢
 have hstep:QgG ps nx 32++QiJ ps nx (i+1)=l++if Xg ps 2 ((i:Nat):Int)=false then [nx+30+((i:Nat):Int)] else []:=by rw [hl,aA]; rfl
 cases hp:Xg ps 2 ((i:Nat):Int) with
 | true =>
   rw [hp] at hP
   rw [if_neg (fun h=>by rw [hp] at h; exact Bool.noConfusion h),List.append_nil] at hstep
   refine Qj [(0,.ptr 1 v0 0),(2,.lst 3 (prs ps) tg),(3,.int .i64 nx),(4,.int .i64 bh),(6,.ref (.agg wv) 0),(11,.sl 6 w 0 1 l.length none),(13,.int .i64 ((i:Nat):Int))] ⟨f0,f2,f3,f4,f6,f11,f13,trivial⟩  12 ?_
   refine yz ?_
   iterate 12 (try (refine Qa 4 ?_; simp -implicitDefEqProofs (disch:=omega) only [go_sem,↓reduceIte,reduceCtorEq,rq]))
   refine Yb hT QX hP hPn 4 ?_
   refine ya ?_
   iterate 12 (try (refine Qa 4 ?_; simp -implicitDefEqProofs (disch:=omega) only [go_sem,↓reduceIte,reduceCtorEq,rq,e2]))
   refine ⟨_,_,Shift.refl _ _ _ _,t,w,l,hstep.symm,?_⟩
   exact yb
 | false =>
   rw [hp] at hP
   rw [if_pos hp] at hstep
   rw [hH.slot i hi hp] at hg2
   refine Qj [(0,.ptr 1 v0 0),(2,.lst 3 (prs ps) tg),(3,.int .i64 nx),(4,.int .i64 bh),(6,.ref (.agg wv) 0),(11,.sl 6 w 0 1 l.length none),(13,.int .i64 ((i:Nat):Int))] ⟨f0,f2,f3,f4,f6,f11,f13,trivial⟩  12 ?_
   refine yz ?_
   iterate 12 (try (refine Qa 4 ?_; simp -implicitDefEqProofs (disch:=omega) only [go_sem,↓reduceIte,reduceCtorEq,rq]))
   refine Yb hT QX hP hPn 4 ?_
   refine ya ?_
   iterate 20 (try (refine Qa 4 ?_; simp -implicitDefEqProofs (disch:=omega) only [go_sem,Qd,↓reduceIte,reduceCtorEq,rA,rq,rL,zA,Nat.mul_one,nT,lR,zL,Qo,Qbb,true_implies,true_and,and_true,cA,nA,lC,lN,List.getD_cons_zero,nT,tZ,List.drop_succ_cons,List.drop_zero,List.drop_nil,Qi1,QdR,hi,e2,hwl,hg,hg2,QoG]))
   refine ⟨_,_,Shift.refl _ _ _ _,t+1,t,l++[nx+30+((i:Nat):Int)],hstep.symm,?_⟩
   exact yv
theorem QHh (_hT:Qn P tab) {fmt:Int→List UInt8} {v0 v1 v2 v3 v4:Nat} {L:List Nd} {ps:List Pr} {tg:Bool} {nx bh lk:Int} {vs rs ss:List Int} {sure:Bool} (hr:rs.length=32) {i:Nat} (hi:i=ss.length) {fr:Fr} {σ:Am.H} (hJ:a1J fmt v0 v1 v2 v3 v4 L ps tg nx bh (wV vs lk rs ss sure) i fr σ) :
 W P G 134 0 (AC.seq (AC.seq (AC.reg QrP [39,40,41,42,43])   (AC.cond (Arg.t 44)   AC.skip   (AC.exit 2)))   (AC.seq (AC.block 3 (AC.seq (AC.reg QrO [47,48,49])   (AC.cond (Arg.t 50)   (AC.reg QlX [51,52,53,54,55,56,57,58,59])   AC.skip)))   (AC.reg QlW [45,46]))) fr σ (Qaw (fun _ _=>False) (a1E fmt v0 v1 v2 v3 v4 L ps tg nx bh (wV vs lk rs ss sure) ss.length)):=by
 obtain ⟨t,w,l,hl,f0,f2,f3,f4,f6,f11,f13,rfl⟩:=hJ
 have hwl:(wV vs lk rs ss sure).length=36:=by simp [wV,Qo,hr]
 have hg:=QFC (vs:=vs) (ss:=ss) (lk:=lk) (sure:=sure) hr
 obtain ⟨wv,hwv⟩:∃ wv,wv=wV vs lk rs ss sure:=⟨_,rfl⟩
 rw [← hwv] at f6 hwl hg ⊢
 refine Qj [(0,.ptr 1 v0 0),(2,.lst 3 (prs ps) tg),(3,.int .i64 nx),(4,.int .i64 bh),(6,.ref (.agg wv) 0),(11,.sl 6 w 0 1 l.length none),(13,.int .i64 ((i:Nat):Int))] ⟨f0,f2,f3,f4,f6,f11,f13,trivial⟩  12 ?_
 simp -implicitDefEqProofs (disch:=omega) only [go_sem,↓reduceIte,reduceCtorEq,rA,rq,rL,zA,decide_false,QrP,QrO,QlX,QlW,Qo,true_implies,and_true,hi,hwl,hg,Nat.lt_irrefl]
 refine ⟨t,w,l,rfl,by rw [hl,hi]; rfl,?_⟩
 repeat' (first | exact rfl | refine ⟨rfl,?_⟩)
abbrev apX (fmt:Int→List UInt8) (v0 v1 v2 v3 v4 t w:Nat) (L:List Nd) (l:List Int) (X:Option Ob):Am.H:=⟨t,kG fmt v0 v1 v2 v3 v4 L++[none,some (.arr w 44 (QjG L l)),X]⟩
theorem Qgp {L:List Nd} {l:List Int} {i:Nat} {c:Int} (h:l[i]?=some c):(QjG L l).getD i V.any=.int .i64 (XR L (sy c)):=by
 rw [List.getD_eq_getElem?_getD,Qzl h]; rfl
abbrev a3J (v0 w:Nat) (nx bh:Int) (wv:List V) (l:List Int) (i:Nat) (σ0:Am.H):Nat→Fr→H→Prop:=fun k fr σ=>Qh fr 0=.ptr 1 v0 0∧Qh fr 3=.int .i64 nx∧Qh fr 4=.int .i64 bh∧Qh fr 6=.ref (.agg wv) 0∧Qh fr 11=.sl 6 w 0 1 l.length none∧Qh fr 14=.int .i64 ((i:Nat):Int)∧Qh fr 17=.int .i64 ((k:Nat):Int)∧σ=σ0
abbrev a3E (v0 w:Nat) (nx bh:Int) (wv:List V) (l:List Int) (i:Nat) (σ0:Am.H):AE→Fr→H→Prop:=fun e fr σ=>e=.ex 6∧Qh fr 0=.ptr 1 v0 0∧Qh fr 3=.int .i64 nx∧Qh fr 4=.int .i64 bh∧Qh fr 6=.ref (.agg wv) 0∧Qh fr 11=.sl 6 w 0 1 l.length none∧Qh fr 14=.int .i64 ((i:Nat):Int)∧σ=σ0
theorem QzX (_hT:Qn P tab) {fmt:Int→List UInt8} {v0 v1 v2 v3 v4 t w:Nat} {L:List Nd} {nx bh:Int} {wv:List V} {l:List Int} {X:Option Ob} {i k:Nat} {c d:Int} (hc:l[i]?=some c) (hd:l[k]?=some d) (hk:k<i) (hne:XR L (sy c)≠XR L (sy d)) (hll:l.length≤1000000) {fr:Fr} {σ:Am.H} (hJ:a3J v0 w nx bh wv l i (apX fmt v0 v1 v2 v3 v4 t w L l X) k fr σ) :
 W P G 134 0 (AC.seq (AC.seq (AC.reg QgY [103, 104])   (AC.cond (Arg.t 105)   AC.skip   (AC.exit 6)))   (AC.seq (AC.block 7 (AC.seq (AC.reg QgX [108, 109, 110, 111, 112, 113, 114, 115])   (AC.cond (Arg.t 116)   (AC.seq (AC.reg QgW [])   AC.ret)   AC.skip)))   (AC.reg QgV [106, 107]))) fr σ (Qaw (fun fr σ => ∃ fr' σ', Shift G 134 0 fr σ fr' σ' ∧ a3J v0 w nx bh wv l i (apX fmt v0 v1 v2 v3 v4 t w L l X) (k + 1) fr' σ') (a3E v0 w nx bh wv l i (apX fmt v0 v1 v2 v3 v4 t w L l X))) := by
 obtain ⟨f0,f3,f4,f6,f11,f14,f17,rfl⟩:=hJ
 have hi:=(List.getElem?_eq_some_iff.1 hc).1
 have hk2:=(List.getElem?_eq_some_iff.1 hd).1
 have g1:=Qgp (L:=L) hc
 have g2:=Qgp (L:=L) hd
 have hne':(XR L (sy c)==XR L (sy d))=false:=by simpa using hne
 have e2:=Zg hk (by omega)
 refine Qj [(0,.ptr 1 v0 0),(3,.int .i64 nx),(4,.int .i64 bh),(6,.ref (.agg wv) 0),(11,.sl 6 w 0 1 l.length none),(14,.int .i64 ((i:Nat):Int)),(17,.int .i64 ((k:Nat):Int))] ⟨f0,f3,f4,f6,f11,f14,f17,trivial⟩  12 ?_
 simp -implicitDefEqProofs (disch:=omega) only [go_sem,↓reduceIte,reduceCtorEq,rq,decide_true,QgY,QgX,QgW,QgV,hk]
 iterate 12 (try (refine Qa 4 ?_; simp -implicitDefEqProofs (disch := omega) only [go_sem, Qd, ↓reduceIte, reduceCtorEq, rq, zA, Nat.mul_one, Qbb, true_implies, true_and, and_true, Qi1, hi, hk2, g1, g2, hne', e2]))
 refine ⟨_,_,Shift.refl _ _ _ _,?_⟩
 repeat' (first | exact rfl | refine ⟨rfl,?_⟩)
theorem QHf (_hT:Qn P tab) {v0 w:Nat} {nx bh:Int} {wv:List V} {l:List Int} {i k:Nat} {σ0:Am.H} (hk:k=i) {fr:Fr} {σ:Am.H} (hJ:a3J v0 w nx bh wv l i σ0 k fr σ) :
 W P G 134 0 (AC.seq (AC.seq (AC.reg QgY [103,104])   (AC.cond (Arg.t 105)   AC.skip   (AC.exit 6)))   (AC.seq (AC.block 7 (AC.seq (AC.reg QgX [108,109,110,111,112,113,114,115])   (AC.cond (Arg.t 116)   (AC.seq (AC.reg QgW [])   AC.ret)   AC.skip)))   (AC.reg QgV [106,107]))) fr σ (Qaw (fun _ _=>False) (a3E v0 w nx bh wv l i σ0)):=by
 obtain ⟨f0,f3,f4,f6,f11,f14,f17,rfl⟩:=hJ
 refine Qj [(0,.ptr 1 v0 0),(3,.int .i64 nx),(4,.int .i64 bh),(6,.ref (.agg wv) 0),(11,.sl 6 w 0 1 l.length none),(14,.int .i64 ((i:Nat):Int)),(17,.int .i64 ((k:Nat):Int))] ⟨f0,f3,f4,f6,f11,f14,f17,trivial⟩  12 ?_
 simp -implicitDefEqProofs (disch:=omega) only [go_sem,↓reduceIte,reduceCtorEq,rq,decide_false,QgY,QgX,QgW,QgV,hk,Nat.lt_irrefl]
 repeat' (first | exact rfl | refine ⟨rfl,?_⟩)
abbrev a4J (v0 w:Nat) (nx bh:Int) (wv:List V) (l:List Int) (i:Nat) (σ0:Am.H):Nat→Fr→H→Prop:=fun k fr σ=>Qh fr 0=.ptr 1 v0 0∧Qh fr 3=.int .i64 nx∧Qh fr 4=.int .i64 bh∧Qh fr 6=.ref (.agg wv) 0∧Qh fr 11=.sl 6 w 0 1 l.length none∧Qh fr 14=.int .i64 ((i:Nat):Int)∧Qh fr 18=.int .i64 ((k:Nat):Int)∧σ=σ0
abbrev a4E (v0 w:Nat) (nx bh:Int) (wv:List V) (l:List Int) (i:Nat) (σ0:Am.H):AE→Fr→H→Prop:=fun e fr σ=>e=.ex 8∧Qh fr 0=.ptr 1 v0 0∧Qh fr 3=.int .i64 nx∧Qh fr 4=.int .i64 bh∧Qh fr 6=.ref (.agg wv) 0∧Qh fr 11=.sl 6 w 0 1 l.length none∧Qh fr 14=.int .i64 ((i:Nat):Int)∧σ=σ0
theorem QzW (_hT:Qn P tab) {fmt:Int→List UInt8} {v0 v1 v2 v3 v4 t w:Nat} {L:List Nd} {nx bh lk:Int} {vs rs ss:List Int} {sure:Bool} {l:List Int} {X:Option Ob} {i k:Nat} {c x:Int} (hr:rs.length=32) (hc:l[i]?=some c) (hx:vs[k]?=some x) (hne:XR L (sy c)≠x) (_hll:l.length≤1000000) (hvl:vs.length≤1000000) {fr:Fr} {σ:Am.H} (hJ:a4J v0 w nx bh (wV vs lk rs ss sure) l i (apX fmt v0 v1 v2 v3 v4 t w L l X) k fr σ) :
 W P G 134 0 (AC.seq (AC.seq (AC.reg QgU [117, 118, 119, 120])   (AC.cond (Arg.t 121)   AC.skip   (AC.exit 8)))   (AC.seq (AC.block 9 (AC.seq (AC.reg QgT [124, 125, 126, 127, 128, 129, 130, 131, 132])   (AC.cond (Arg.t 133)   (AC.seq (AC.reg QgS [])   AC.ret)   AC.skip)))   (AC.reg QgR [122, 123]))) fr σ (Qaw (fun fr σ => ∃ fr' σ', Shift G 134 0 fr σ fr' σ' ∧ a4J v0 w nx bh (wV vs lk rs ss sure) l i (apX fmt v0 v1 v2 v3 v4 t w L l X) (k + 1) fr' σ') (a4E v0 w nx bh (wV vs lk rs ss sure) l i (apX fmt v0 v1 v2 v3 v4 t w L l X))) := by
 obtain ⟨f0,f3,f4,f6,f11,f14,f18,rfl⟩:=hJ
 have hi:=(List.getElem?_eq_some_iff.1 hc).1
 have hk:=(List.getElem?_eq_some_iff.1 hx).1
 have g1:=Qgp (L:=L) hc
 have g2:=QlP hx
 have g0:(wV vs lk rs ss sure).getD 0 V.any=.lst 1 (ints vs) false:=rfl
 have hwl:(wV vs lk rs ss sure).length=36:=by simp [wV,Qo,hr]
 have hne':(XR L (sy c)==x)=false:=by simpa using hne
 have e2:=Zg hk (by omega)
 obtain ⟨wv,hwv⟩:∃ wv,wv=wV vs lk rs ss sure:=⟨_,rfl⟩
 rw [← hwv] at f6 hwl g0 ⊢
 refine Qj [(0,.ptr 1 v0 0),(3,.int .i64 nx),(4,.int .i64 bh),(6,.ref (.agg wv) 0),(11,.sl 6 w 0 1 l.length none),(14,.int .i64 ((i:Nat):Int)),(18,.int .i64 ((k:Nat):Int))] ⟨f0,f3,f4,f6,f11,f14,f18,trivial⟩  12 ?_
 simp -implicitDefEqProofs (disch:=omega) only [go_sem,↓reduceIte,reduceCtorEq,rq,rL,zA,aZ,decide_true,QgU,QgT,QgS,QgR,Qo,true_implies,and_true,hk,g0,hwl]
 iterate 12 (try (refine Qa 4 ?_; simp -implicitDefEqProofs (disch := omega) only [go_sem, Qd, ↓reduceIte, reduceCtorEq, rq, rL, zA, aZ, Nat.mul_one, lR, Qo, Qbb, true_implies, true_and, and_true, lC, lN, List.getD_cons_zero, Qi1, hk, hi, g0, hwl, g1, g2, hne', e2]))
 refine ⟨_,_,Shift.refl _ _ _ _,?_⟩
 repeat' (first | exact rfl | refine ⟨rfl,?_⟩)
theorem QHe (_hT:Qn P tab) {v0 w:Nat} {nx bh lk:Int} {vs rs ss:List Int} {sure:Bool} {l:List Int} {i k:Nat} {σ0:Am.H} (hr:rs.length=32) (hk:k=vs.length) {fr:Fr} {σ:Am.H} (hJ:a4J v0 w nx bh (wV vs lk rs ss sure) l i σ0 k fr σ) :
 W P G 134 0 (AC.seq (AC.seq (AC.reg QgU [117,118,119,120])   (AC.cond (Arg.t 121)   AC.skip   (AC.exit 8)))   (AC.seq (AC.block 9 (AC.seq (AC.reg QgT [124,125,126,127,128,129,130,131,132])   (AC.cond (Arg.t 133)   (AC.seq (AC.reg QgS [])   AC.ret)   AC.skip)))   (AC.reg QgR [122,123]))) fr σ (Qaw (fun _ _=>False) (a4E v0 w nx bh (wV vs lk rs ss sure) l i σ0)):=by
 obtain ⟨f0,f3,f4,f6,f11,f14,f18,rfl⟩:=hJ
 have g0:(wV vs lk rs ss sure).getD 0 V.any=.lst 1 (ints vs) false:=rfl
 have hwl:(wV vs lk rs ss sure).length=36:=by simp [wV,Qo,hr]
 obtain ⟨wv,hwv⟩:∃ wv,wv=wV vs lk rs ss sure:=⟨_,rfl⟩
 rw [← hwv] at f6 hwl g0 ⊢
 refine Qj [(0,.ptr 1 v0 0),(3,.int .i64 nx),(4,.int .i64 bh),(6,.ref (.agg wv) 0),(11,.sl 6 w 0 1 l.length none),(14,.int .i64 ((i:Nat):Int)),(18,.int .i64 ((k:Nat):Int))] ⟨f0,f3,f4,f6,f11,f14,f18,trivial⟩  12 ?_
 simp -implicitDefEqProofs (disch:=omega) only [go_sem,↓reduceIte,reduceCtorEq,rq,rL,zA,aZ,decide_false,QgU,QgT,QgS,QgR,Qo,true_implies,and_true,hk,g0,hwl,Nat.lt_irrefl]
 repeat' (first | exact rfl | refine ⟨rfl,?_⟩)
abbrev a2J (fmt:Int→List UInt8) (v0 v1 v2 v3 v4 w:Nat) (L:List Nd) (nx bh:Int) (wv:List V) (l:List Int):Nat→Fr→H→Prop:=fun i fr σ=>∃ t,Qh fr 0=.ptr 1 v0 0∧Qh fr 3=.int .i64 nx∧Qh fr 4=.int .i64 bh∧Qh fr 6=.ref (.agg wv) 0∧Qh fr 11=.sl 6 w 0 1 l.length none∧Qh fr 14=.int .i64 ((i:Nat):Int)∧σ=apS fmt v0 v1 v2 v3 v4 t w L l
theorem QzY (hT:Qn P tab) {fmt:Int→List UInt8} {v0 v1 v2 v3 v4 w:Nat} {L:List Nd} {ps:List Pr} {nx bh lk:Int} {vs rs ss:List Int} {sure:Bool} {wv:List V} {l:List Int} (hwv:wv=wV vs lk rs ss sure) (hr:rs.length=32) (hH:ApOk L ps vs lk rs ss nx bh) (hl:l=QqJ ps nx ss.length) (hll:l.length≤1000000) (hvl:vs.length≤1000000) {i:Nat} {c:Int} (hc:l[i]?=some c) {fr:Fr} {σ:Am.H} (hJ:a2J fmt v0 v1 v2 v3 v4 w L nx bh wv l i fr σ) :
 W P G 134 0 (AC.seq (AC.seq (AC.reg Qop [60, 61, 62])   (AC.cond (Arg.t 63)   AC.skip   (AC.exit 4)))   (AC.seq (AC.block 5 (AC.seq (AC.reg Qoo [67, 68, 69, 70, 71, 72, 66, 73, 74])   (AC.seq (AC.seq (AC.reg Qon [75, 76, 77, 78, 79, 80, 81, 82, 83, 84, 85, 86, 87, 88, 89, 90, 91, 92, 93, 94, 95, 96, 97, 98, 99, 100, 101])   (AC.cond (Arg.t 102)   (AC.seq (AC.reg Qom [])   AC.ret)   AC.skip))   (AC.seq (AC.seq (AC.reg Qol [])   (AC.block 6 (AC.loop (AC.seq (AC.seq (AC.reg QgY [103, 104])   (AC.cond (Arg.t 105)   AC.skip   (AC.exit 6)))   (AC.seq (AC.block 7 (AC.seq (AC.reg QgX [108, 109, 110, 111, 112, 113, 114, 115])   (AC.cond (Arg.t 116)   (AC.seq (AC.reg QgW [])   AC.ret)   AC.skip)))   (AC.reg QgV [106, 107]))))))   (AC.seq (AC.reg Qok [])   (AC.block 8 (AC.loop (AC.seq (AC.seq (AC.reg QgU [117, 118, 119, 120])   (AC.cond (Arg.t 121)   AC.skip   (AC.exit 8)))   (AC.seq (AC.block 9 (AC.seq (AC.reg QgT [124, 125, 126, 127, 128, 129, 130, 131, 132])   (AC.cond (Arg.t 133)   (AC.seq (AC.reg QgS [])   AC.ret)   AC.skip)))   (AC.reg QgR [122, 123]))))))))))   (AC.reg Qoj [64, 65]))) fr σ (Qaw (fun fr σ => ∃ fr' σ', Shift G 134 0 fr σ fr' σ' ∧ a2J fmt v0 v1 v2 v3 v4 w L nx bh wv l (i + 1) fr' σ') (fun e _ σ => e = .ex 4 ∧ ∃ t, σ = apS fmt v0 v1 v2 v3 v4 t w L l)) := by
 obtain ⟨t,f0,f3,f4,f6,f11,f14,rfl⟩:=hJ
 have hi:=(List.getElem?_eq_some_iff.1 hc).1
 obtain ⟨hc1,hc2,hc3,hc4,hc5⟩:=hH.all c (hl▸List.mem_of_getElem? hc)
 have hnod:l.Nodup:=hl▸Qzo ps nx ss.length
 have g1:=Qgp (L:=L) hc
 have g0:wv.getD 1 V.any=.int .i64 lk:=hwv▸rfl
 have hwl:wv.length=36:=by rw [hwv]; simp [wV,Qo,hr]
 have hne':(XR L (sy c)==lk)=false:=by simpa using hc4
 have e2:=Zg hi (by omega)
 have q1:¬ c<nx:=by omega
 have q2:¬ bh≤c:=by omega
 have hnd:=QCY (P:=P) (G:=G) hT (base:=0) (fmt:=fmt) (v0:=v0) (v1:=v1) (v2:=v2) (v3:=v3) (v4:=v4) (t:=t) (L:=L) (ex:=[none,some (.arr w 44 (QjG L l))]) (id:=XR L (sy c))
 have hat:=QmL hc3
 rw [if_pos ⟨hat.1,by have:=(List.getElem?_eq_some_iff.1 hat.2).1; omega⟩,QwW hc3] at hnd
 rw [show (sy c).cells=[.int .u8 2,.int .i64 c,.int .i64 0,.int .u8 0,.int .i64 0,.int .i64 0] from rfl] at hnd
 refine Qj [(0,.ptr 1 v0 0),(3,.int .i64 nx),(4,.int .i64 bh),(6,.ref (.agg wv) 0),(11,.sl 6 w 0 1 l.length none),(14,.int .i64 ((i:Nat):Int))] ⟨f0,f3,f4,f6,f11,f14,trivial⟩ 12 ?_
 simp -implicitDefEqProofs (disch:=omega) only [go_sem,↓reduceIte,reduceCtorEq,rq,decide_true,Qop,Qoo,Qon,Qom,Qol,QgY,QgX,QgW,QgV,Qok,QgU,QgT,QgS,QgR,Qoj,hi]
 iterate 12 (try (refine Qa 4 ?_; simp -implicitDefEqProofs (disch:=omega) only [go_sem,Qd,↓reduceIte,reduceCtorEq,rq,zA,Nat.mul_one,Qbb,true_implies,true_and,and_true,Qi1,hi,g1]))
 refine QzA hT YP hnd 4 fun t2 ht2=>?_
 simp -implicitDefEqProofs (disch:=omega) only [go_sem,↓reduceIte,reduceCtorEq,rA,rq,rT,zA,and_true,aA,cA,nA,lA,lC,lN,List.getD_cons_zero,List.getD_cons_succ,Qcq]
 iterate 12 (try (refine Qa 4 ?_; simp -implicitDefEqProofs (disch := omega) only [go_sem, Qd, ↓reduceIte, reduceCtorEq, rA, rq, rL, zA, aZ, Nat.mul_one, decide_false, nT, nF, lR, zL, ge_iff_le, bne_self_eq_false, Qbb, true_implies, true_and, and_true, cA, nA, lC, lN, List.getD_cons_zero, List.getD_cons_succ, nT, nF, tZ, List.drop_succ_cons, List.drop_nil, Qi1, QnK, Qei, hi, g1, g0, hwl, hne', q1, q2]))
 obtain ⟨X,hX⟩:∃ X,X=some (Ob.arr t2 108 [.int .u8 2,.int .i64 c,.int .i64 0,.int .u8 0,.int .i64 0,.int .i64 0]):=⟨_,rfl⟩
 rw [← hX]
 refine Qd7 i (a3J v0 w nx bh wv l i (apX fmt v0 v1 v2 v3 v4 (t2+1) w L l X)) (a3E v0 w nx bh wv l i (apX fmt v0 v1 v2 v3 v4 (t2+1) w L l X)) ?_ (fun k hk fr σ hJ=>?_) (fun k hk fr σ hJ=>QHf hT hk hJ) (fun e fr σ hE=>?_)
 ·refine ⟨rfl,?_⟩
  repeat' (first | exact rfl | refine ⟨rfl,?_⟩)
 ·obtain ⟨d,hd⟩:∃ d,l[k]?=some d:=⟨_,List.getElem?_eq_getElem (by omega)⟩
  refine QzX hT hc hd hk (fun he=>?_) hll hJ
  have hd3:=(hH.all d (hl▸List.mem_of_getElem? hd)).2.2.1
  have hcd:c=d:=by simpa [sy] using (QlQ hc3 hd3).1 he
  have h1:=(List.getElem?_eq_some_iff.1 hc).2
  have h2:=(List.getElem?_eq_some_iff.1 hd).2
  rw [← h1,← h2] at hcd
  exact List.pairwise_iff_getElem.1 hnod k i (List.getElem?_eq_some_iff.1 hd).1 hi hk hcd.symm
 ·obtain ⟨rfl,f0,f3,f4,f6,f11,f14,rfl⟩:=hE
  refine QU [(0,.ptr 1 v0 0),(3,.int .i64 nx),(4,.int .i64 bh),(6,.ref (.agg wv) 0),(11,.sl 6 w 0 1 l.length none),(14,.int .i64 ((i:Nat):Int))] ⟨f0,f3,f4,f6,f11,f14,trivial⟩  20 ?_
  refine ya ?_
  refine XU vs (a4J v0 w nx bh wv l i (apX fmt v0 v1 v2 v3 v4 (t2+1) w L l X)) (a4E v0 w nx bh wv l i (apX fmt v0 v1 v2 v3 v4 (t2+1) w L l X)) ?_ (fun k x hx fr σ hJ=>?_) (fun k hk fr σ hJ=>?_) (fun e fr σ hE=>?_)
  ·refine ⟨rfl,?_⟩
   repeat' (first | exact rfl | refine ⟨rfl,?_⟩)
  ·subst hwv
   exact QzW hT hr hc hx (hc5 x (List.mem_of_getElem? hx)) hll hvl hJ
  ·subst hwv
   exact QHe hT hr hk hJ
  ·obtain ⟨rfl,f0,f3,f4,f6,f11,f14,rfl⟩:=hE
   refine Qmi [(0,.ptr 1 v0 0),(3,.int .i64 nx),(4,.int .i64 bh),(6,.ref (.agg wv) 0),(11,.sl 6 w 0 1 l.length none),(14,.int .i64 ((i:Nat):Int))] ⟨f0,f3,f4,f6,f11,f14,trivial⟩  20 ?_
   refine yk ?_
   refine ⟨_,_,Shift.drop (o':=kG fmt v0 v1 v2 v3 v4 L++[none,some (.arr w 44 (QjG L l))]) (t':=t2+1) (by rw [hX]; simp [Xx,kG]) (lR _) (zL _),t2+1,?_⟩
   repeat' (first | exact rfl | refine ⟨rfl,?_⟩)
theorem QHg (_hT:Qn P tab) {fmt:Int→List UInt8} {v0 v1 v2 v3 v4 w:Nat} {L:List Nd} {nx bh:Int} {wv:List V} {l:List Int} {i:Nat} (hi:i=l.length) {fr:Fr} {σ:Am.H} (hJ:a2J fmt v0 v1 v2 v3 v4 w L nx bh wv l i fr σ) :
 W P G 134 0 (AC.seq (AC.seq (AC.reg Qop [60,61,62])   (AC.cond (Arg.t 63)   AC.skip   (AC.exit 4)))   (AC.seq (AC.block 5 (AC.seq (AC.reg Qoo [67,68,69,70,71,72,66,73,74])   (AC.seq (AC.seq (AC.reg Qon [75,76,77,78,79,80,81,82,83,84,85,86,87,88,89,90,91,92,93,94,95,96,97,98,99,100,101])   (AC.cond (Arg.t 102)   (AC.seq (AC.reg Qom [])   AC.ret)   AC.skip))   (AC.seq (AC.seq (AC.reg Qol [])   (AC.block 6 (AC.loop (AC.seq (AC.seq (AC.reg QgY [103,104])   (AC.cond (Arg.t 105)   AC.skip   (AC.exit 6)))   (AC.seq (AC.block 7 (AC.seq (AC.reg QgX [108,109,110,111,112,113,114,115])   (AC.cond (Arg.t 116)   (AC.seq (AC.reg QgW [])   AC.ret)   AC.skip)))   (AC.reg QgV [106,107]))))))   (AC.seq (AC.reg Qok [])   (AC.block 8 (AC.loop (AC.seq (AC.seq (AC.reg QgU [117,118,119,120])   (AC.cond (Arg.t 121)   AC.skip   (AC.exit 8)))   (AC.seq (AC.block 9 (AC.seq (AC.reg QgT [124,125,126,127,128,129,130,131,132])   (AC.cond (Arg.t 133)   (AC.seq (AC.reg QgS [])   AC.ret)   AC.skip)))   (AC.reg QgR [122,123]))))))))))   (AC.reg Qoj [64,65]))) fr σ (Qaw (fun _ _=>False) (fun e _ σ=>e=.ex 4∧∃ t,σ=apS fmt v0 v1 v2 v3 v4 t w L l)):=by
 obtain ⟨t,f0,f3,f4,f6,f11,f14,rfl⟩:=hJ
 refine Qj [(0,.ptr 1 v0 0),(3,.int .i64 nx),(4,.int .i64 bh),(6,.ref (.agg wv) 0),(11,.sl 6 w 0 1 l.length none),(14,.int .i64 ((i:Nat):Int))] ⟨f0,f3,f4,f6,f11,f14,trivial⟩  12 ?_
 simp -implicitDefEqProofs (disch:=omega) only [go_sem,↓reduceIte,reduceCtorEq,rq,decide_false,Qop,Qoo,Qon,Qom,Qol,QgY,QgX,QgW,QgV,Qok,QgU,QgT,QgS,QgR,Qoj,true_and,and_true,hi,Nat.lt_irrefl]
 exact ⟨t,rfl⟩
theorem QGY (hT:Qn P tab) {fmt:Int→List UInt8} {v0 v1 v2 v3 v4 t:Nat} {L:List Nd} {ps:List Pr} {tg:Bool} {nx bh lk:Int} {vs rs ss:List Int} {sure:Bool} (hr:rs.length=32) (hH:ApOk L ps vs lk rs ss nx bh) (hpl:ps.length≤1000000) (hvl:vs.length≤100000) (hsl:ss.length≤100000) :
 C P G 0 Qao [.ptr 1 v0 0, .agg (wV vs lk rs ss sure), .lst 3 (prs ps) tg, .int .i64 nx, .int .i64 bh] ⟨t, kG fmt v0 v1 v2 v3 v4 L⟩ fun u σ => u = .bool true ∧ ∃ t', σ = ⟨t', kG fmt v0 v1 v2 v3 v4 L⟩ := by
 refine Xt 5 (zL _) (Q6 hT Qal (by simp [Xl]) (Qq 5 ?_))
 have hwn:=Qys vs lk rs ss sure
 have hwl:(wV vs lk rs ss sure).length=36:=by simp [wV,Qo,hr]
 have hone:ones (wV vs lk rs ss sure)=True:=eq_true fun u hu=>by
  rcases List.mem_cons.1 hu with rfl | hu
  ·rfl
  rcases List.mem_cons.1 hu with rfl | hu
  ·rfl
  have:=QoU rs ss sure
  exact (of_eq_true this) u hu
 obtain ⟨wv,hwv⟩:∃ wv,wv=wV vs lk rs ss sure:=⟨_,rfl⟩
 rw [← hwv] at hwn hwl hone ⊢
 simp -implicitDefEqProofs (disch:=omega) only [go_sem,↓reduceIte,reduceCtorEq,rA,rq,zA,Xl,zqk_0,zqk_1,zqk_2,Qp4,Qp3,Qp2,Qp1,zqk_7,QrP,QrO,QlX,QlW,Qz8,Qop,Qoo,Qon,Qom,Qol,QgY,QgX,QgW,QgV,Qok,QgU,QgT,QgS,QgR,Qoj,Qz7,and_true,Qcq,hone]
 refine X6 (Shift.freeze (k:=5) (v:=t) (T:=49) (cs:=wv) (zL _) (by first | rfl | exact QjD) hwn) ?_
 have hne:wv≠[]:=fun e=>by rw [e] at hwl; cases hwl
 simp only [Ye,Zm,Z3,QbO,Qdc,QkA (lR 5),rq,false_and,and_self,if_true,if_false,if_neg hne,QP,Option.map_none]
 refine Qa 4 ?_
 refine ya ?_
 refine X6 (Shift.own (s:=11) (z:=0) (sz:=1) (T:=44) (ym) (by decide)) ?_
 simp -implicitDefEqProofs (disch:=omega) only [go_sem,↓reduceIte,reduceCtorEq,rA,rq,zA,H.push,aA,cA,nA,lA,lC,lN,Qcq]
 refine Qa 12 ?_
 refine ya ?_
 refine Qd7 31 (a0J fmt v0 v1 v2 v3 v4 L ps tg nx bh wv) (a0E fmt v0 v1 v2 v3 v4 L ps tg nx bh wv) ⟨t+1+1,t+1,[],rfl,?_⟩ (fun i hi fr σ hJ=>?_) (fun i hi fr σ hJ=>QHi hT hi hJ) (fun e fr σ hE=>?_)
 ·simp -implicitDefEqProofs (disch:=omega) only [go_sem,↓reduceIte,reduceCtorEq,rq,zA,true_and,and_true,lN,QjG]
  try simp
 ·subst hwv
  exact Qz0 hT hr hH hpl hi hJ
 obtain ⟨t2,w2,l2,rfl,hl2,f0,f2,f3,f4,f6,f11,rfl⟩:=hE
 refine QU [(0,.ptr 1 v0 0),(2,.lst 3 (prs ps) tg),(3,.int .i64 nx),(4,.int .i64 bh),(6,.ref (.agg wv) 0),(11,.sl 6 w2 0 1 l2.length none)] ⟨f0,f2,f3,f4,f6,f11,trivial⟩  12 ?_
 refine ya ?_
 refine Qd7 ss.length (a1J fmt v0 v1 v2 v3 v4 L ps tg nx bh wv) (a1E fmt v0 v1 v2 v3 v4 L ps tg nx bh wv ss.length) ⟨t2,w2,l2,by rw [hl2]; simp [QiJ],?_⟩ (fun i hi fr σ hJ=>?_) (fun i hi fr σ hJ=>?_) (fun e fr σ hE=>?_)
 ·refine ye ?_
  try simp
 ·subst hwv
  exact QzZ hT hr hH hpl hsl hi hJ
 ·subst hwv
  exact QHh hT hr hi hJ
 obtain ⟨t3,w3,l,rfl,hl,f0,f2,f3,f4,f6,f11,rfl⟩:=hE
 have hll:l.length≤1000000:=by
  have h1:=QiL ps nx 32; have h2:=QmO ps nx ss.length
  rw [hl]; unfold QqJ; rw [lA]; omega
 refine QU [(0,.ptr 1 v0 0),(2,.lst 3 (prs ps) tg),(3,.int .i64 nx),(4,.int .i64 bh),(6,.ref (.agg wv) 0),(11,.sl 6 w3 0 1 l.length none)] ⟨f0,f2,f3,f4,f6,f11,trivial⟩  12 ?_
 refine ya ?_
 refine XU l (a2J fmt v0 v1 v2 v3 v4 w3 L nx bh wv l) (fun e _ σ=>e=.ex 4∧∃ t,σ=apS fmt v0 v1 v2 v3 v4 t w3 L l) ⟨t3,?_⟩ (fun i c hc fr σ hJ=>QzY hT hwv hr hH hl hll (by omega) hc hJ) (fun i hi fr σ hJ=>QHg hT hi hJ) (fun e fr σ hE=>?_)
 ·refine ye ?_
  try simp
 ·obtain ⟨rfl,t4,rfl⟩:=hE
  refine QU [] trivial 12 ?_
  simp -implicitDefEqProofs (disch:=omega) only [go_sem,↓reduceIte,rA,rL,zA,true_and,lA,lC,lN,Qcq]
  exact ⟨t4,rfl,rfl⟩
end Go.Proofs.YtfgccihafnjalaaGreatDoor
namespace Go.Proofs.YtfgccihafnjalaaGreatDoor
open Go Go.Am Go.Re
set_option maxRecDepth 100000
def vsW (L:List Nd) (ps:List Pr) (b:Int) (vars:Nat):List Int:=(List.range vars).map fun j:Nat=>hvW L ps b vars ((j:Nat):Int)
def plW (L:List Nd) (ps:List Pr) (b:Int) (vars:Nat) (k:Int) (f:Nat→Int) (n:Nat):List Int:=(List.range n).map fun r:Nat=>if Xg ps k ((r:Nat):Int) then Z9 L (Qr (ties ps)) (frS ps b vars).1 ⟨0,k,((r:Nat):Int)⟩ else f r
theorem QvW (L:List Nd) (ps:List Pr) (b:Int) (vars:Nat):(vsW L ps b vars).length=vars:=by simp [vsW]
theorem Qjr (L:List Nd) (ps:List Pr) (b:Int) (vars:Nat) (k:Int) (f:Nat→Int) (n:Nat):(plW L ps b vars k f n).length=n:=by simp [plW]
theorem Qqs {L:List Nd} {ps:List Pr} {b:Int} {vars:Nat} {k:Int} {f:Nat→Int} {n r:Nat} (hr:r<n):(plW L ps b vars k f n).getD r 0=if Xg ps k ((r:Nat):Int) then Z9 L (Qr (ties ps)) (frS ps b vars).1 ⟨0,k,((r:Nat):Int)⟩ else f r:=by
 rw [List.getD_eq_getElem?_getD]; simp [plW,hr]
theorem Qtm (L:List Nd) (ps:List Pr) (b:Int) (vars:Nat) (k:Int) (f:Nat→Int) (n:Nat):QI L (Qr (ties ps)) (frS ps b vars).1 ps k f n=ints (plW L ps b vars k f n):=by
 unfold QI ints plW
 rw [List.map_map]; rfl
theorem Qyt (L:List Nd) (ps:List Pr) (b:Int) (vars:Nat):YC L (Qr (ties ps)) (frS ps b vars).1 vars vars=ints (vsW L ps b vars):=by
 unfold YC ints vsW
 rw [List.map_map]
 refine List.map_congr_left fun j hj=>?_
 rw [if_pos (List.mem_range.1 hj)]; rfl
abbrev rsW (L0 L:List Nd) (ps:List Pr) (b nx:Int) (vars:Nat):List Int:=plW L ps b vars 1 (fun r=>QkM L0 nx r) 32
abbrev ssW (L0 L:List Nd) (ps:List Pr) (b nx:Int) (vars cnt:Nat):List Int:=plW L ps b vars 2 (fun i=>XR L0 (sy (nx+30+((i:Nat):Int)))) cnt
theorem frV_wV (L0 L:List Nd) (nx:Int) (ps:List Pr) (b:Int) (vars cnt m:Nat):frV L0 L nx ps b vars cnt m=wV (vsW L ps b vars) (hvW L ps b vars (-1)) (rsW L0 L ps b nx vars) (ssW L0 L ps b nx vars cnt) (decide (m=0)):=by
 unfold frV woF wV
 rw [Qtm,Qtm,Qyt]; rfl
theorem QoF {L:List Nd} {ps:List Pr} {b:Int} {vars:Nat} {v:Int} (h:-1≤v∧v<vars):hW (vsW L ps b vars) (hvW L ps b vars (-1)) v=hvW L ps b vars v:=by
 unfold hW
 by_cases h0:v<0
 ·rw [if_pos h0,show v=-1 by omega]
 ·rw [if_neg h0,List.getD_eq_getElem?_getD]
  have:v.toNat<vars:=by omega
  simp only [vsW,List.getElem?_map,List.getElem?_range this,Option.map_some,Option.getD_some]
  rw [Int.toNat_of_nonneg (by omega)]
theorem Quo {l:List Pr} {vars cnt:Nat}:PsOk (Qaj l vars cnt) vars:=by
 have h:∀ p∈Qaj l vars cnt,-1≤p.v∧p.v<vars:=fun p hp=>by
  have h2:=(List.mem_filter.1 hp).2
  unfold Q8 at h2
  simp only [Bool.and_eq_true,decide_eq_true_eq] at h2
  exact h2.1
 refine ⟨fun p hp=>?_,h⟩
 rcases Ql3 hp with h | h | h
 ·exact .inl h.1
 ·exact .inr (.inl h.1)
 ·exact .inr (.inr h)
theorem pl_pair {L:List Nd} {ps:List Pr} {b:Int} {vars:Nat} {k:Int} {f:Nat→Int} {n:Nat} {p:Pr} (hp:p∈ps) (hk:p.k=k) (h0:0≤p.n) (hr:p.n.toNat<n):(plW L ps b vars k f n).getD p.n.toNat 0=hvW L ps b vars p.v:=by
 have hpb:Xg ps k ((p.n.toNat:Nat):Int)=true:=List.any_eq_true.2 ⟨p,hp,by simp [hk,Int.toNat_of_nonneg h0]⟩
 rw [Qqs hr,if_pos hpb,← QGk hp]
 have:(⟨0,k,((p.n.toNat:Nat):Int)⟩:Pr)=pE p:=by simp [pE,hk,Int.toNat_of_nonneg h0]
 rw [this]
theorem hoOk {L0 L:List Nd} {l:List Pr} {nx b:Int} {vars cnt:Nat} (hl64:∀ x∈l,i64 x.n) (ps:List Pr) (hps:ps=Qaj l vars cnt) (hA:AllH L (frS ps b vars).1) (hnb:nx≤b) {v:Int} (hv:-1≤v∧v<vars):HoOk L ps (vsW L ps b vars) (hvW L ps b vars (-1)) (rsW L0 L ps b nx vars) (ssW L0 L ps b nx vars cnt) vars nx (frS ps b vars).2 v:=by
 have hok:PsOk ps vars:=hps▸Quo
 have hk0:=hok.k0
 refine ⟨fun inn hti p hp hpi=>?_,fun inn hti l1 p l2 he h1 h3 hpi=>?_,fun inn hti hno=>?_,?_,fun p hp=>?_,fun p hp=>?_⟩
 ·have hpv:=hok.v p hp
  rw [QoF hv,QoF hpv]
  have hc:=Qzc (L:=L) (b:=b) (vars:=vars) (hti.conn p.v hpi)
  refine ⟨hc,?_⟩
  have hat:=Ql3 (hps▸hp)
  rcases hat with ⟨h1,r,h2,h3⟩ | ⟨h1,r,h2,h3⟩ | h1
  ·exact .inl (.inl ⟨h1,by omega,by omega,(pl_pair hp h1 (by omega) (by omega)).trans hc⟩)
  ·exact .inl (.inr ⟨h1,by omega,by rw [Qjr]; omega,(pl_pair hp h1 (by omega) (by omega)).trans hc⟩)
  ·exact .inr h1
 ·rw [QoF hv]
  exact QGm hA hv hk0 hti he h1 h3 hpi
 ·rw [QoF hv]
  obtain ⟨c,h1,h2,h3,h4,h5⟩:=QGl hA hv hk0 hti hno
  exact ⟨c,h1,h2,by omega,h4,fun u hu hni=>by rw [QoF hu]; exact h5 u hu hni⟩
 ·rw [QoF hv]
  obtain ⟨t,_,h2,h3⟩:=QmN hA hv
  have:=QmL h3
  rw [h2]
  exact ⟨this.1,by have:=(List.getElem?_eq_some_iff.1 this.2).1; omega⟩
 ·have:p∈srt l:=(List.mem_filter.1 (hps▸hp)).1
  exact hl64 p ((Qsh).1 this)
 ·rw [QvW]; exact hok.v p hp
theorem apOk {L0 L:List Nd} {ps:List Pr} {nx b:Int} {vars cnt:Nat} (hA:AllH L (frS ps b vars).1) (hR:AllR L0 nx 32) (hS:AllS L0 nx cnt) (hE:Ext L0 L) (hb:b=nx+30+((cnt:Nat):Int)):ApOk L ps (vsW L ps b vars) (hvW L ps b vars (-1)) (rsW L0 L ps b nx vars) (ssW L0 L ps b nx vars cnt) nx (frS ps b vars).2:=by
 refine ⟨fun r h1 h2 h3 hp=>?_,fun i hi hp=>?_,fun c hc=>?_⟩
 ·rw [Qqs h2,hp]
  have h4:=hR r h2 h3
  simp only [Bool.false_eq_true,if_false]
  rw [QFT h1 h3]
  unfold Qtj at h4
  rw [if_neg (by omega)] at h4
  exact (Xw (show Hs L0 (sy (rNo nx r)) from h4) hE).symm
 ·rw [Qjr] at hi
  rw [Qqs hi,hp]
  simp only [Bool.false_eq_true,if_false]
  exact (Xw (hS i hi) hE).symm
 ·rw [Qjr] at hc
  obtain ⟨h1,h2,h3⟩:=Qzn hR hS hc
  have hcb:c<b:=by omega
  have hle:=frS_le (ps:=ps) (b:=b) (vars:=vars)
  refine ⟨h1,by omega,h3.ext hE,QwT hA (v:=-1) ⟨by omega,by omega⟩ (h3.ext hE) hcb,fun x hx=>?_⟩
  obtain ⟨j,hj,rfl⟩:=List.mem_map.1 hx
  have:=List.mem_range.1 hj
  exact QwT hA ⟨by omega,by omega⟩ (h3.ext hE) hcb
end Go.Proofs.YtfgccihafnjalaaGreatDoor
