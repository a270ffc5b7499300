/- Contracts of the document: Sorted, Meet; the law's plain, same. -/
import Derived.Test.YtfgccihafnjalaaGreatDoorJ11
import Derived.Test.YtfgccihafnjalaaGreatDoorJ4
import Derived.Test.YtfgccihafnjalaaGreatDoorY
open Nat renaming reduceEqDiff → rq, reduceAdd → rA, reduceLeDiff → rL, reduceLT → rT, zero_add → zA, le_refl → lR, zero_le → zL, add_zero → aZ
open List renaming length_cons → lC, length_nil → lN, take_succ_cons → tS, length_append → lA, nil_append → nA, cons_append → cA, append_assoc → aA, take_nil → tN, take_zero → tZ, length_map → lM
open Bool renaming not_false → nF, not_true → nT
namespace Go.Proofs.YtfgccihafnjalaaGreatDoor
open Go Go.Am Go.Re
set_option maxRecDepth 100000
variable {P:Program} {G:Nat→Option V}
set_option maxHeartbeats 2000000
theorem Qwq {L:List Pr} {i:Nat} (h:i<L.length) (y:Pr):(fl prC L).take (i * 3)++V.int .i64 y.v::V.int .u8 y.k::V.int .i64 y.n::(fl prC L).drop (i * 3+3)=fl prC (L.set i y):=by
 have:=Qov h y []
 simpa only [List.append_nil] using this
theorem Qwh {o:List (Option Ob)} {k w T n:Nat} {lim:Option Nat} {l:List Pr} (h:o[k]?=some (some (.arr w T (fl prC l)))) (hn:n=l.length):Seen o (.sl k w 0 3 n lim) (.lst 3 (prs l) false):=QyM (ds:=[]) (by rw [List.append_nil]; exact h) hn
theorem Qw7 (s:List Pr) (x:Pr):fl prC s++[V.int .i64 x.v,V.int .u8 x.k,V.int .i64 x.n]=fl prC (s++[x]):=by simp [fl,prC]
def mv (s:List Pr) (x:Pr) (k:Nat):List Pr:=s.take k++x::s.drop k
theorem QCV {s:List Pr} {x:Pr} {k:Nat} (hk:k≤s.length):(mv s x k).length=s.length+1:=by unfold mv; rw [lA,lC,List.length_take,List.length_drop]; omega
theorem mv_end (s:List Pr) (x:Pr):s++[x]=mv s x s.length:=by simp [mv]
theorem mv_at {s:List Pr} {x:Pr} {k:Nat} (hk:k≤s.length):(mv s x k)[k]?=some x:=by
 unfold mv
 rw [List.getElem?_append_right (by rw [List.length_take]; omega),List.length_take,Nat.min_eq_left hk,Nat.sub_self]; rfl
theorem mv_pre {s:List Pr} {x:Pr} {k:Nat} (hk:k≤s.length) (h0:0<k):(mv s x k)[k - 1]?=s[k - 1]?:=by
 unfold mv
 rw [List.getElem?_append_left (by simp; omega),List.getElem?_take,if_pos (by omega)]
theorem QF9 {s:List Pr} {x y:Pr} {k:Nat} (hk:k≤s.length) (h0:0<k) (hy:s[k - 1]?=some y):((mv s x k).set k y).set (k - 1) x=mv s x (k - 1):=by
 apply List.ext_getElem?
 intro j
 have hl:(mv s x k).length=s.length+1:=QCV hk
 by_cases h1:j=k - 1
 ·subst h1
  rw [List.getElem?_set_self (by simp [hl]; omega),mv_at (by omega)]
 ·rw [List.getElem?_set_ne (Ne.symm h1)]
  by_cases h2:j=k
  ·subst h2
   rw [List.getElem?_set_self (by omega)]
   unfold mv
   rw [List.getElem?_append_right (by simp; omega),List.length_take,Nat.min_eq_left (by omega),show j - (j - 1)=1 by omega,List.getElem?_cons_succ,List.getElem?_drop,show j - 1+0=j - 1 by omega,hy]
  ·rw [List.getElem?_set_ne (Ne.symm h2)]
   unfold mv
   rcases Nat.lt_or_ge j (k - 1) with h3 | h3
   ·rw [List.getElem?_append_left (by simp; omega),List.getElem?_append_left (by simp; omega),List.getElem?_take,List.getElem?_take,if_pos (by omega),if_pos (by omega)]
   ·rw [List.getElem?_append_right (by simp; omega),List.getElem?_append_right (by simp; omega),List.length_take,List.length_take,Nat.min_eq_left (by omega),Nat.min_eq_left (by omega)]
    obtain ⟨d,rfl⟩:∃ d,j=k+1+d:=⟨j - (k+1),by omega⟩
    rw [show k+1+d - k=d+1 by omega,show k+1+d - (k - 1)=d+2 by omega,List.getElem?_cons_succ,List.getElem?_cons_succ,List.getElem?_drop,List.getElem?_drop]
    congr 1; omega
abbrev mvJ (l s:List Pr) (tg:Bool) (x:Pr) (i:Nat):Nat→Fr→H→Prop:=fun k fr σ=>∃ t w,k≤s.length∧(∀ y∈s.drop k,lt x y)∧Qh fr 0=.lst 3 (prs l) tg∧Qh fr 4=.int .i64 ((i:Nat):Int)∧Qh fr 3=.sl 0 w 0 3 (s.length+1) none∧Qh fr 5=.int .i64 ((k:Nat):Int)∧σ=⟨t,[some (.arr w 28 (fl prC (mv s x k)))]⟩
abbrev mvE (l s:List Pr) (tg:Bool) (x:Pr) (i:Nat):AE→Fr→H→Prop:=fun e fr σ=>∃ t w,e=.ex 2∧Qh fr 0=.lst 3 (prs l) tg∧Qh fr 4=.int .i64 ((i:Nat):Int)∧Qh fr 3=.sl 0 w 0 3 (s.length+1) none∧σ=⟨t,[some (.arr w 28 (fl prC (put x s)))]⟩
theorem Qy1 (hT:Qn P tab) {l s:List Pr} {tg:Bool} {x:Pr} {i:Nat} (hs:Srt s) (hsl:s.length≤1000000) {k:Nat} {fr:Fr} {σ:H} (hJ:mvJ l s tg x i k fr σ) :
 W P G 61 0 (AC.seq (AC.seq (AC.reg Qt1 [28, 29, 30, 31, 32, 33, 34, 35, 36, 37, 38, 39, 40])   (AC.cond (Arg.t 41)   AC.skip   (AC.exit 2)))   (AC.seq (AC.block 3 (AC.reg Qt0 [44, 45, 46, 47, 48, 49, 50, 51, 52, 53, 54, 55, 56, 57, 58, 59]))   (AC.reg QtZ [42, 43]))) fr σ (Qaw (fun fr σ => ∃ k' fr' σ', k' < k ∧ Shift G 61 0 fr σ fr' σ' ∧ mvJ l s tg x i k' fr' σ') (mvE l s tg x i)) := by
 obtain ⟨t,w,hk,hgt,f0,f4,f3,f5,rfl⟩:=hJ
 have hml:(mv s x k).length=s.length+1:=QCV hk
 rcases Nat.eq_zero_or_pos k with h0 | h0
 ·have hp:put x s=mv s x k:=Qtk hs hk hgt (.inl h0)
  have h0':((k:Int) > 0)=False:=eq_false (by omega)
  have h0'':decide ((0:Int)<(k:Int))=false:=decide_eq_false (by omega)
  refine Qj [(0,.lst 3 (prs l) tg),(4,.int .i64 ((i:Nat):Int)),(3,.sl 0 w 0 3 (s.length+1) none),(5,.int .i64 ((k:Nat):Int))] ⟨f0,f4,f3,f5,trivial⟩  4 ?_
  refine yD ?_
  iterate 10 (try (refine Qa 3 ?_; simp -implicitDefEqProofs (disch:=omega) only [go_sem,↓reduceIte,reduceCtorEq,rq,gt_iff_lt,h0'']))
  show mvE _ _ _ _ _ _ _ _
  refine ⟨t,w,rfl,?_⟩
  rw [hp]
  repeat' (first | exact rfl | refine ⟨rfl,?_⟩)
 ·obtain ⟨y,hy⟩:∃ y,s[k - 1]?=some y:=⟨_,List.getElem?_eq_getElem (by omega)⟩
  have h0'':decide ((0:Int)<(k:Int))=true:=decide_eq_true (by omega)
  have hx:=mv_at (x:=x) hk
  have hyp:=(mv_pre (x:=x) hk h0).trans hy
  have hDx:=Qtn hx
  have hDy:=Qtn hyp
  have e4:=Qym h0 (by omega)
  have b1:k<s.length+1:=by omega
  have b2:k - 1<s.length+1:=by omega
  have b3:k * 3+3≤(s.length+1) * 3:=by omega
  have b4:(k - 1) * 3+3≤(s.length+1) * 3:=by omega
  have hB:=QzM (P:=P) (G:=G) hT x y
  simp only [prV,prC] at hB
  by_cases hlt:lt x y
  ·have hB':decide (lt x y)=true:=decide_eq_true hlt
   rw [hB'] at hB
   have hP1:=Qwq (L:=mv s x k) (i:=k) (by omega) y
   have hP2:=Qwq (L:=(mv s x k).set k y) (i:=k - 1) (by simp [hml]; omega) x
   rw [QF9 hk h0 hy] at hP2
   refine Qj [(0,.lst 3 (prs l) tg),(4,.int .i64 ((i:Nat):Int)),(3,.sl 0 w 0 3 (s.length+1) none),(5,.int .i64 ((k:Nat):Int))] ⟨f0,f4,f3,f5,trivial⟩  4 ?_
   refine yD ?_
   iterate 12 (try (refine Qa 3 ?_; simp -implicitDefEqProofs (disch := omega) only [go_sem, Qd, ↓reduceIte, reduceCtorEq, rA, rq, zA, gt_iff_lt, QA, false_implies, and_true, List.getElem?_cons_zero, h0'', hDx, hDy, b1, b2, b3, b4, hml, e4]))
   refine Yb hT X1 hB rfl 3 ?_
   refine ya ?_
   iterate 10 (try (refine Qa 3 ?_; simp -implicitDefEqProofs (disch:=omega) only [go_sem,Qd,↓reduceIte,reduceCtorEq,rA,rq,zA,nF,lR,QA,List.length_set,false_implies,and_true,aA,cA,nA,lC,lN,List.getElem?_cons_zero,List.set_cons_zero,hDx,hDy,b1,b2,b3,b4,hml,e4,hP1,hP2]))
   refine ⟨k - 1,_,_,by omega,Shift.refl _ _ _ _,t,w,by omega,fun z hz=>?_,?_⟩
   ·rw [List.drop_eq_getElem_cons (by omega)] at hz
    rcases List.mem_cons.1 hz with rfl | hz
    ·rw [List.getElem?_eq_getElem (by omega)] at hy
     injection hy with hy
     rw [hy]; exact hlt
    ·rw [show k - 1+1=k by omega] at hz; exact hgt z hz
   ·exact yb
  ·have hB':decide (lt x y)=false:=decide_eq_false hlt
   rw [hB'] at hB
   have hp:put x s=mv s x k:=Qtk hs hk hgt (.inr ⟨y,hy,hlt⟩)
   refine Qj [(0,.lst 3 (prs l) tg),(4,.int .i64 ((i:Nat):Int)),(3,.sl 0 w 0 3 (s.length+1) none),(5,.int .i64 ((k:Nat):Int))] ⟨f0,f4,f3,f5,trivial⟩  4 ?_
   refine yD ?_
   iterate 12 (try (refine Qa 3 ?_; simp -implicitDefEqProofs (disch := omega) only [go_sem, Qd, ↓reduceIte, reduceCtorEq, rA, rq, zA, gt_iff_lt, QA, false_implies, and_true, List.getElem?_cons_zero, h0'', hDx, hDy, b1, b2, b3, b4, hml, e4]))
   refine Yb hT X1 hB rfl 3 ?_
   refine ya ?_
   iterate 10 (try (refine Qa 3 ?_; simp -implicitDefEqProofs (disch:=omega) only [go_sem]))
   refine ⟨t,w,rfl,?_⟩
   rw [hp]
   repeat' (first | exact rfl | refine ⟨rfl,?_⟩)
theorem Qxp (hT:Qn P tab) (l:List Pr) (tg:Bool) (hl:l.length≤1000000):Am.Pure P G ZY [.lst 3 (prs l) tg] fun u=>u=.lst 3 (prs (srt l)) false:=by
 refine QpS (fun t=>?_) (by simp [Qe])
 refine Q6 hT ZR (by simp [Xe]) (Qq 8 ?_)
 simp -implicitDefEqProofs (disch:=omega) only [go_sem,↓reduceIte,reduceCtorEq,rq,Xe,zqa_0,zqa_1,zqa_2,zqa_3,zqa_4,zqa_5,zqa_6,Qt1,Qt0,QtZ,QAa,Qz9]
 refine X6 (n:=61) (Shift.own (s:=3) (z:=0) (sz:=3) (T:=28) (ym) (by decide)) ?_
 simp -implicitDefEqProofs (disch:=omega) only [go_sem,↓reduceIte,reduceCtorEq,rq,H.push]
 refine Qa 12 ?_
 refine ya ?_
 refine XU l (fun i fr σ=>∃ t w,Qh fr 0=.lst 3 (prs l) tg∧Qh fr 4=.int .i64 ((i:Nat):Int)∧Qh fr 3=.sl 0 w 0 3 (srt (l.take i)).length none∧σ=⟨t,[some (.arr w 28 (fl prC (srt (l.take i))))]⟩)
  (fun e fr σ=>∃ t w,e=.ex 0∧Qh fr 3=.sl 0 w 0 3 (srt l).length none∧σ=⟨t,[some (.arr w 28 (fl prC (srt l)))]⟩) ⟨t+1,t,?_⟩ (fun i x hx fr σ hJ=>?_) (fun i hi fr σ hJ=>?_) (fun e fr σ hE=>?_)
 ·rw [tZ]
  refine yf ?_
  simp [srt,fl]
 ·obtain ⟨t,w,f0,f4,f3,rfl⟩:=hJ
  have hlt:=(List.getElem?_eq_some_iff.1 hx).1
  have hD:=Qc7 hx
  have e2:=Zg hlt (by omega)
  have hst:=Qta (l.take i) x
  rw [← Qz hx] at hst
  have hsl:=Qo2 (l.take i)
  have hs:=Qwb (l.take i)
  generalize hg:srt (l.take i)=s at *
  have hsl2:s.length≤1000000:=by rw [List.length_take] at hsl; omega
  have hH:=c_Has (P:=P) (G:=G) hT s false x hsl2
  simp only [prV,prC] at hD hH
  have hsee:SeenL [some (Ob.arr w 28 (fl prC s))] [V.sl 0 w 0 3 s.length none,V.agg [V.int .i64 x.v,V.int .u8 x.k,V.int .i64 x.n]] [.lst 3 (prs s) false,V.agg [V.int .i64 x.v,V.int .u8 x.k,V.int .i64 x.n]] :=
   .cons _ _ _ _ (Qwh rfl rfl) (.cons _ _ _ _ (.same _ rfl) .nil)
  by_cases hm:x∈s
  ·rw [decide_eq_true hm] at hH
   rw [if_pos hm] at hst
   refine Qj [(0,.lst 3 (prs l) tg),(4,.int .i64 ((i:Nat):Int)),(3,.sl 0 w 0 3 s.length none)] ⟨f0,f4,f3,trivial⟩ 1000 ?_
   refine yB ?_
   refine Qex hT Y7 (σ:=⟨t,[some (Ob.arr w 28 (fl prC s))]⟩) hH hsee rfl 20 ?_
   refine yk ?_
   refine ⟨_,_,Shift.refl _ _ _ _,t,w,?_⟩
   rw [hst]
   exact yb
  ·rw [decide_eq_false hm] at hH
   rw [if_neg hm] at hst
   refine Qj [(0,.lst 3 (prs l) tg),(4,.int .i64 ((i:Nat):Int)),(3,.sl 0 w 0 3 s.length none)] ⟨f0,f4,f3,trivial⟩ 1000 ?_
   refine yB ?_
   refine Qex hT Y7 (σ:=⟨t,[some (Ob.arr w 28 (fl prC s))]⟩) hH hsee rfl 8 ?_
   refine ya ?_
   iterate 8 (try (refine Qa 2 ?_; simp -implicitDefEqProofs (disch:=omega) only [go_sem,Qd,↓reduceIte,reduceCtorEq,rA,rq,rL,zA,nT,lR,Qf,QA,false_implies,true_and,and_true,cA,nA,lC,lN,List.getElem?_cons_zero,List.set_cons_zero,hlt,hD]))
   have hw5:IntKind.i64.wrap (((s.length+1:Nat):Int) - 1)=((s.length:Nat):Int):=by rw [Qym (by omega) (by omega)]; rfl
   refine QcQ (mvJ l s tg x i) (mvE l s tg x i) (m0:=s.length) ⟨t+1,t,lR _,by simp,?_⟩ (fun k fr σ hJ=>Qy1 hT hs hsl2 hJ) (fun e fr σ hE=>?_)
   ·simp -implicitDefEqProofs (disch:=omega) only [go_sem,↓reduceIte,reduceCtorEq,rq,and_true,hw5,Qw7,mv_end]
   ·obtain ⟨t2,w2,rfl,f0,f4,f3,rfl⟩:=hE
    refine Qmi [(0,.lst 3 (prs l) tg),(4,.int .i64 ((i:Nat):Int)),(3,.sl 0 w2 0 3 (s.length+1) none)] ⟨f0,f4,f3,trivial⟩ 12 ?_
    refine yk ?_
    refine ⟨_,_,Shift.refl _ _ _ _,t2,w2,?_⟩
    rw [hst]
    have hpl:(put x s).length=s.length+1:=by
     have hp:∀ (x:Pr) (l:List Pr),(put x l).length=l.length+1:=by
      intro x l
      induction l with
      | nil=>rfl
      | cons y l ih=>unfold put; split <;> simp [ih]
     exact hp x s
    simp -implicitDefEqProofs (disch:=omega) only [go_sem,↓reduceIte,reduceCtorEq,rq,and_true,hpl]
 ·obtain ⟨t2,w,f0,f4,f3,rfl⟩:=hJ
  rw [hi,List.take_length] at f3
  rw [hi,List.take_length]
  refine Qj [(0,.lst 3 (prs l) tg),(4,.int .i64 ((i:Nat):Int)),(3,.sl 0 w 0 3 (srt l).length none)] ⟨f0,f4,f3,trivial⟩ 12 ?_
  refine yn ?_
  refine ⟨t2,w,?_⟩
  repeat' (first | exact rfl | refine ⟨rfl,?_⟩)
 ·obtain ⟨t2,w,rfl,f3,rfl⟩:=hE
  refine QU [(3,.sl 0 w 0 3 (srt l).length none)] ⟨f3,trivial⟩ 12 ?_
  refine ya ?_
  have hz:=Qps (k:=0) (w:=w) (srt l) []
  rw [List.append_nil] at hz
  refine ⟨0,w,28,_,rfl,Zt prC Qox _,?_,?_⟩
  ·rw [hz]; simp [Qe]
  ·rw [hz]; exact .refl _
theorem Qpr {k w:Nat} (l:List Pr):Z3 k w (fl prC l) (.sl k w 0 3 l.length none)=.lst 3 (prs l) false:=by
 have:=Qps (k:=k) (w:=w) l []
 rwa [List.append_nil] at this
theorem QGV (hT:Qn P tab) (l:List Pr) (tg:Bool) (hl:l.length≤1000000):Am.Pure P G Qan [.lst 3 (prs l) tg] fun u=>u=.lst 3 (prs l) false:=by
 refine QpS (fun t=>?_) (by simp [Qe])
 refine Q6 hT Qak (by simp [Xk]) (Qq 8 ?_)
 simp -implicitDefEqProofs (disch:=omega) only [go_sem,↓reduceIte,reduceCtorEq,rq,Xk,zq6_0,zq6_1,zq6_2,zq6_3,zq6_4,zq6_5,zq6_6]
 refine X6 (n:=33) (Shift.own (s:=3) (z:=0) (sz:=3) (T:=28) (ym) (by decide)) ?_
 simp -implicitDefEqProofs (disch:=omega) only [go_sem,↓reduceIte,reduceCtorEq,rq,H.push]
 refine Qa 12 ?_
 refine ya ?_
 refine XU l (fun i fr σ=>∃ t w q,q=l.take i∧Qh fr 0=.lst 3 (prs l) tg∧Qh fr 4=.int .i64 ((i:Nat):Int)∧Qh fr 3=.sl 0 w 0 3 q.length none∧σ=⟨t,[some (.arr w 28 (fl prC q))]⟩)
  (fun e fr σ=>∃ t w q,e=.ex 0∧q=l∧Qh fr 3=.sl 0 w 0 3 q.length none∧σ=⟨t,[some (.arr w 28 (fl prC q))]⟩) ⟨t+1,t,[],by simp,?_⟩ (fun i x hx fr σ hJ=>?_) (fun i hi fr σ hJ=>?_) (fun e fr σ hE=>?_)
 ·simp -implicitDefEqProofs (disch:=omega) only [go_sem,↓reduceIte,reduceCtorEq,rq,true_and,lN]
  simp [fl]
 ·obtain ⟨t,w,q,hq,f0,f4,f3,rfl⟩:=hJ
  have hlt:=(List.getElem?_eq_some_iff.1 hx).1
  have hD:=Qc7 hx
  have e2:=Zg hlt (by omega)
  have hst:=Qz hx
  rw [← hq] at hst
  have hql:q.length≤1000000:=by rw [hq,List.length_take]; omega
  simp only [prV,prC] at hD
  refine Qj [(0,.lst 3 (prs l) tg),(4,.int .i64 ((i:Nat):Int)),(3,.sl 0 w 0 3 q.length none)] ⟨f0,f4,f3,trivial⟩  12 ?_
  refine yw ?_
  iterate 12 (try (refine Qa 4 ?_; simp -implicitDefEqProofs (disch:=omega) only [go_sem,Qd,↓reduceIte,reduceCtorEq,rA,rq,rL,zA,aZ,nT,lR,Qf,QA,true_implies,true_and,and_true,cA,nA,lC,lN,List.getElem?_cons_zero,List.set_cons_zero,Qw7,hlt,hD,e2]))
  refine ⟨_,_,Shift.refl _ _ _ _,t+1,t,q++[x],hst.symm,?_⟩
  exact yv
 ·obtain ⟨t,w,q,hq,f0,f4,f3,rfl⟩:=hJ
  refine Qj [(0,.lst 3 (prs l) tg),(4,.int .i64 ((i:Nat):Int)),(3,.sl 0 w 0 3 q.length none)] ⟨f0,f4,f3,trivial⟩  12 ?_
  refine yn ?_
  rw [hi,List.take_length] at hq
  refine ⟨t,w,q,hq,?_⟩
  repeat' (first | exact rfl | refine ⟨rfl,?_⟩)
 ·obtain ⟨t2,w,q,rfl,hq,f3,rfl⟩:=hE
  refine QU [(3,.sl 0 w 0 3 q.length none)] ⟨f3,trivial⟩ 12 ?_
  refine ya ?_
  rw [← hq]
  refine ⟨0,w,28,_,rfl,Zt prC Qox _,?_,?_⟩
  ·rw [Qpr]; simp [Qe]
  ·rw [Qpr]; exact .refl _
def Works (P:Program) (G:Nat→Option V):Prop:=Am.Pure P G Xv [] fun u=>u=.bool true
def wl:List Pr:=[⟨0,1,5⟩,⟨1,1,5⟩,⟨1,2,0⟩,⟨2,3,3⟩]
theorem Qyp:Qaj wl 3 2=wl:=by decide +kernel
theorem QFz (L:List Nd):YC L (Qr (ties wl)) (frS wl 32 3).1 3 3=[.int .i64 (XR L (sy 33)),.int .i64 (XR L (sy 33)),.int .i64 (XR L (co 3))]:=by rfl
theorem Qyq (L L0:List Nd):QI L (Qr (ties wl)) (frS wl 32 3).1 wl 2 (fun i=>XR L0 (sy (0+30+((i:Nat):Int)))) 2=[.int .i64 (XR L (sy 33)),.int .i64 (XR L0 (sy 31))]:=by rfl
theorem wl_reg (L _L0:List Nd) (f:Nat→Int):(QI L (Qr (ties wl)) (frS wl 32 3).1 wl 1 f 32)[5]?=some (.int .i64 (XR L (sy 33))):=by rfl
theorem QFA (L:List Nd) (h:AllH L (frS wl 32 3).1):Hs L (sy 33)∧Hs L (co 3):=⟨h (⟨0,2,0⟩,.s 33) (by decide +kernel),h (⟨0,3,3⟩,.c 3) (by decide +kernel)⟩
theorem QCP {rg:List V} {a:V} (h:rg[5]?=some a) (tl:List V):(rg++tl)[5]?=some a:=by rw [List.getElem?_append_left (List.getElem?_eq_some_iff.1 h).1,h]
theorem QFR {rg:List V} {a:V} (h:rg[5]?=some a) (tl:List V):(rg++tl).getD 5 V.any=a:=by rw [List.getD_eq_getElem?_getD,QCP h]; rfl
theorem Qth {rg:List V} {a:V} (h:rg.length=32) (tl:List V):(rg++a::tl)[32]?=some a:=by rw [List.getElem?_append_right (by omega),h]; rfl
theorem Qwl {rg:List V} {a:V} (h:rg.length=32) (tl:List V):(rg++a::tl).getD 32 V.any=a:=by rw [List.getD_eq_getElem?_getD,Qth h]; rfl
theorem wk_r5 (hT:Qn P tab) (F:Fmt P G) {v0 v1 v2 v3 v4 t:Nat} {L:List Nd} {rg:List V} {a0 a31 lk:Int} {sure:Bool} {Q:V→Am.H→Prop} (hQ:∀ σ,Q (.bool true) σ) (hL:L.length≤100000) (hr:rg.length=32) (h5:rg[5]?=some (.int .i64 a0)) (hA2:Hs L (co 3)) (hne:a31≠a0) :
 W P G 117 0 (.seq (.reg Qp8 [38,39,40,41,42,43,44,45,46,47,48,49,50,51,52,53,54,55,56,57,58,59,60,61,62,63,64,65,66,67,68,69,70,71,72,73,74,75,76,77,78,79,80,81,82,83,84,85,86,87,88,89,90,91,92,93,94,95,96,97,98,99,100,101,102,103,104,105,106,107,108,109,110,111,112,113,114,115,116]) .ret) [(2,.ref (.agg [.int .u8 2,.int .i64 0]) 0),(4,.lst 3 (prs [⟨1,2,0⟩]) false),(5,.ptr 1 v0 0),(6,.ref (.agg (woF [.int .i64 a0,.int .i64 a0,.int .i64 (XR L (co 3))] lk rg [.int .i64 a0,.int .i64 a31] sure)) 0)] ⟨t,kG F.fmt v0 v1 v2 v3 v4 L⟩ (QtI G proofmarklaw25_works.res Q):=by
 have g1:=QCP h5
 have g2:=QFR h5
 have g3:=fun a tl=>Qth (a:=a) hr tl
 have g4:=fun a tl=>Qwl (a:=a) hr tl
 have hne':(a31 != a0)=true:=by simpa using hne
 have c1:((1:Nat):Int)=1:=rfl
 have c2:((2:Nat):Int)=2:=rfl
 have c3:((3:Nat):Int)=3:=rfl
 have eq0:(a0==a0)=true:=by simp
 have hcv:=fun t=>QmJ (P:=P) (G:=G) hT F (v0:=v0) (v1:=v1) (v2:=v2) (v3:=v3) (v4:=v4) (t:=t) (L:=L) (ex:=[]) (n:=3) (by unfold i64; omega) (by omega)
 simp only [prs,prV,prC,woF,List.map_cons,List.map_nil,List.append_nil] at hcv ⊢
 refine Qq 12 ?_
 simp -implicitDefEqProofs (disch:=omega) only [go_sem,↓reduceIte,reduceCtorEq,rA,rq,rL,rT,Int.reduceToNat,Int.reduceLE,zA,lR,beq_self_eq_true,proofmarklaw25_works,Qyi,Qyh,Qyg,Qt3,Qt2,Qp8,false_implies,and_true,lC,lN,cA,nA,tS,tZ,tN,List.drop_succ_cons,List.drop_zero,List.drop_nil,c1]
 iterate 6 (try (refine Qa 14 ?_; simp -implicitDefEqProofs (disch:=omega) only [go_sem,↓reduceIte,rA,rq,rL,rT,Int.reduceToNat,Int.reduceLE,zA,aZ,Nat.mul_one,lR,beq_self_eq_true,true_implies,and_true,lC,lN,lA,hr,g2,g4,c2,c3]))
 repeat' (first | with_reducible refine And.intro ?_ ?_ | (refine Qa 10 ?_; simp -implicitDefEqProofs (disch:=omega) only [go_sem,↓reduceIte,rA,rq]))
 all_goals
  refine CV.use 10 (CV.of hT ZG (hcv _)) fun v σ hv=>?_
  obtain ⟨L2,t2,w2,w3,w4,x1,x2,x3,x4,rfl,rfl⟩:=hv
  rw [Xw hA2 x1]
  have eq2:(XR L (co 3)==XR L (co 3))=true:=by simp
  simp -implicitDefEqProofs (disch:=omega) only [go_sem,↓reduceIte,rA,rq,rL,rT,Int.reduceToNat,Int.reduceLE,zA,aZ,lR,beq_self_eq_true,true_implies,and_true,lC,lN,lA,hr,g4]
  iterate 8 (try (refine Qa 10 ?_; simp -implicitDefEqProofs (disch:=omega) only [go_sem,↓reduceIte,reduceCtorEq,rA,rq,rL,Int.reduceToNat,Int.reduceLE,Nat.succ_ne_zero,zA,aZ,lR,true_implies,and_true,lC,lN,lA,hr,hne']))
  exact hQ _
theorem wk_box {t:Nat} {X:V} (_hX:X.cells=[X]∨True) (_hn:Qe X=true) (hf:∀ k w cs,Z3 k w cs X=X):Shift G 117 0 [(1,.ptr 0 t 0),(2,.ptr 1 (t+1) 0),(3,.ptr 2 (t+1+1) 0),(4,X)] ⟨t+1+1+1,[some (.arr t 62 [.int .u8 1,.int .i64 5]),some (.arr (t+1) 62 [.int .u8 2,.int .i64 0]),some (.arr (t+1+1) 62 [.int .u8 3,.int .i64 3])]⟩
 [(1,.ref (.agg [.int .u8 1,.int .i64 5]) 0),(2,.ref (.agg [.int .u8 2,.int .i64 0]) 0),(3,.ref (.agg [.int .u8 3,.int .i64 3]) 0),(4,X)] ⟨t+1+1+1,[]⟩:=by
 refine (Shift.freeze (k:=0) (zL _) rfl rfl).trans ?_
 simp only [Ye,Zm,hf,Z3,QP,Ob.mapV,List.set_cons_zero,Option.map_none,Option.map_some,List.map_cons,List.map_nil,Nat.succ_ne_zero,false_and,true_and,if_true,if_false,reduceCtorEq]
 refine (Shift.freeze (k:=1) (zL _) rfl rfl).trans ?_
 simp only [Ye,Zm,hf,Z3,QP,Ob.mapV,List.set_cons_zero,List.set_cons_succ,Option.map_none,Option.map_some,List.map_cons,List.map_nil,rq,false_and,true_and,if_true,if_false,reduceCtorEq]
 refine (Shift.freeze (k:=2) (zL _) rfl rfl).trans ?_
 simp only [Ye,Zm,hf,Z3,QP,List.set_cons_zero,List.set_cons_succ,Option.map_none,true_and,if_true,if_false,reduceCtorEq]
 exact Shift.drop (o':=[]) trivial (lR _) (zL _)
theorem Qzk (l:List Pr) (tg:Bool) (k w:Nat) (cs:List V):Z3 k w cs (.lst 3 (prs l) tg)=.lst 3 (prs l) tg:=by simp [Z3]
theorem wk_end (hT:Qn P tab) (F:Fmt P G) {v0 v1 v2 v3 v4 t w:Nat} {L L0:List Nd} {Q:V→Am.H→Prop} (hQ:∀ σ,Q (.bool true) σ) (hL:L.length≤100000) (hS:AllS L0 0 2) (hE:Ext L0 L) (hA:AllH L (frS wl 32 3).1) :
 W P G 117 0 (.seq (.reg Qp8 [38,39,40,41,42,43,44,45,46,47,48,49,50,51,52,53,54,55,56,57,58,59,60,61,62,63,64,65,66,67,68,69,70,71,72,73,74,75,76,77,78,79,80,81,82,83,84,85,86,87,88,89,90,91,92,93,94,95,96,97,98,99,100,101,102,103,104,105,106,107,108,109,110,111,112,113,114,115,116]) .ret) [(2,.ref (.agg [.int .u8 2,.int .i64 0]) 0),(4,.lst 3 (prs [⟨1,2,0⟩]) false),(5,.ptr 1 v0 0),(6,.ptr 5 w 0)] ⟨t,kG F.fmt v0 v1 v2 v3 v4 L++[some (.arr w 49 (frV L0 L 0 wl 32 3 2 2))]⟩ (QtI G proofmarklaw25_works.res Q):=by
 have hnl:=QwZ L0 L 0 wl 32 3 2 2
 have hsh:Shift G 117 0 [(2,.ref (.agg [.int .u8 2,.int .i64 0]) 0),(4,.lst 3 (prs [⟨1,2,0⟩]) false),(5,.ptr 1 v0 0),(6,.ptr 5 w 0)] ⟨t,kG F.fmt v0 v1 v2 v3 v4 L++[some (.arr w 49 (frV L0 L 0 wl 32 3 2 2))]⟩ [(2,.ref (.agg [.int .u8 2,.int .i64 0]) 0),(4,.lst 3 (prs [⟨1,2,0⟩]) false),(5,.ptr 1 v0 0),(6,.ref (.agg (frV L0 L 0 wl 32 3 2 2)) 0)] ⟨t,kG F.fmt v0 v1 v2 v3 v4 L⟩:=by
  refine (Shift.freeze (k:=5) (zL _) rfl hnl).trans ?_
  have hne:¬ frV L0 L 0 wl 32 3 2 2=[]:=by simp [frV,woF]
  have e:(kG F.fmt v0 v1 v2 v3 v4 L++[some (Ob.arr w 49 (frV L0 L 0 wl 32 3 2 2))]).set 5 none=kG F.fmt v0 v1 v2 v3 v4 L++[none]:=rfl
  rw [e,QkA (by decide)]
  simp only [Ye,Zm,Z3,hne,QP,rq,false_and,and_self,if_true,if_false]
  exact Shift.drop (Y8 _ _) (lR _) (zL _)
 refine Qj9 hsh ?_
 unfold frV
 rw [QFz,Qyq]
 obtain ⟨h33,h3⟩:=QFA L hA
 refine wk_r5 hT F hQ hL (Q7 _ _ _ _ _ _ _) (wl_reg L L0 _) h3 ?_
 have h31:Hs L0 (sy 31):=hS 1 (by decide)
 rw [← Xw h31 hE]
 intro he
 have:=(QlQ (h31.ext hE) h33).1 he
 exact absurd this (by decide)
theorem QzC (hT:Qn P tab) (F:Fmt P G) (hS:QkF P G) (hfn:Am.Pure P G Qw [.int .u8 2] fun v=>v=.agg (fnC 2)):Works P G:=by
 refine fun t=>Xt 0 (zL _) (Q6 hT Xu (by simp [proofmarklaw25_works]) ?_)
 show W P G 117 0 (.seq (.reg Qyi []) (.seq (.reg Qyh [8,9,10]) (.seq (.reg Qyg [11,12,13,14,15,16,17,18,19,20,21]) (.seq (.reg Qt3 [22]) (.seq (.reg Qt2 [24,25,26,27,28,29,30,31,32,33,34,35,23,36,37,7]) (.seq (.reg Qp8 [38,39,40,41,42,43,44,45,46,47,48,49,50,51,52,53,54,55,56,57,58,59,60,61,62,63,64,65,66,67,68,69,70,71,72,73,74,75,76,77,78,79,80,81,82,83,84,85,86,87,88,89,90,91,92,93,94,95,96,97,98,99,100,101,102,103,104,105,106,107,108,109,110,111,112,113,114,115,116]) .ret)))))) _ _ (QtI G proofmarklaw25_works.res _)
 obtain ⟨T3,hT3⟩:∃ c:AC,c=.seq (.reg Qt3 [22]) (.seq (.reg Qt2 [24,25,26,27,28,29,30,31,32,33,34,35,23,36,37,7]) (.seq (.reg Qp8 [38,39,40,41,42,43,44,45,46,47,48,49,50,51,52,53,54,55,56,57,58,59,60,61,62,63,64,65,66,67,68,69,70,71,72,73,74,75,76,77,78,79,80,81,82,83,84,85,86,87,88,89,90,91,92,93,94,95,96,97,98,99,100,101,102,103,104,105,106,107,108,109,110,111,112,113,114,115,116]) .ret)):=⟨_,rfl⟩
 rw [← hT3]
 refine Qq 14 ?_
 simp -implicitDefEqProofs (disch:=omega) only [go_sem,↓reduceIte,reduceCtorEq,rA,rq,rL,zA,nF,lR,zL,proofmarklaw25_works,Qyi,Qyh,Qyg,Qt3,Qt2,Qp8,and_true,nF,lC,lN,cA,nA,List.getElem?_cons_zero,List.getElem?_cons_succ,List.set_cons_zero,List.set_cons_succ,tS,tZ,List.drop_succ_cons,List.drop_zero,List.drop_nil]
 iterate 5 (try (refine Qa 10 ?_; simp -implicitDefEqProofs (disch:=omega) only [go_sem,↓reduceIte,reduceCtorEq,rA,rq,rL,zA,nF,lR,zL,false_implies,and_true,nF,lC,lN,cA,nA,List.getElem?_cons_zero,List.getElem?_cons_succ,List.set_cons_zero,List.set_cons_succ,tS,tZ,tN,List.drop_succ_cons,List.drop_zero,List.drop_nil]))
 refine Yb hT Qih (c_Meet hT hS [⟨0,1,5⟩,⟨1,2,0⟩] [⟨1,2,0⟩,⟨2,3,3⟩] true true (by simp) (by simp)) rfl 2 ?_
 have hm:meet [⟨0,1,5⟩,⟨1,2,0⟩] [⟨1,2,0⟩,⟨2,3,3⟩]=[⟨1,2,0⟩]:=by decide +kernel
 rw [hm]
 refine ya ?_
 refine Qml ?_
 refine XX [(1,.ptr 0 t 0),(2,.ptr 1 (t+1) 0),(3,.ptr 2 (t+1+1) 0),(4,.lst 3 (prs [⟨1,2,0⟩]) false)] (by simp only [QF]; simp -implicitDefEqProofs (disch:=omega) only [go_sem,↓reduceIte,reduceCtorEq,rq]; done) ?_
 refine Qj9 (wk_box (.inr trivial) (by rfl) (Qzk _ _)) ?_
 rw [hT3]
 obtain ⟨T5,hT5⟩:∃ c:AC,c=.seq (.reg Qp8 [38,39,40,41,42,43,44,45,46,47,48,49,50,51,52,53,54,55,56,57,58,59,60,61,62,63,64,65,66,67,68,69,70,71,72,73,74,75,76,77,78,79,80,81,82,83,84,85,86,87,88,89,90,91,92,93,94,95,96,97,98,99,100,101,102,103,104,105,106,107,108,109,110,111,112,113,114,115,116]) .ret:=⟨_,rfl⟩
 rw [← hT5]
 refine Qq 14 ?_
 simp -implicitDefEqProofs (disch:=omega) only [go_sem,↓reduceIte,Qt3,Qt2]
 refine call hT Qjj (c_New hT (o:=[]) (zL _)) 14 fun v σ hv=>?_
 obtain ⟨v0, v1, v2, v3, v4, t', i1, i2, i3, i4, ht', rfl, rfl, rfl, rfl, rfl, rfl⟩ := hv
 have hk0:([]:List (Option Ob))++[some (.map v1 []),some (.arr v0 93 [.sl (([]:List (Option Ob)).length+2) v2 0 6 0 none,.mp ([]:List (Option Ob)).length v1,.sl (([]:List (Option Ob)).length+3) v3 0 1 0 none,.sl (([]:List (Option Ob)).length+4) v4 0 1 0 none]),some (.arr v2 108 []),some (.arr v3 3 []),some (.arr v4 3 [])]=kG F.fmt v0 v1 v2 v3 v4 []++[]:=by
  simp [kG,QgH,ndC,QiR,Qiy]
 rw [hk0]
 simp -implicitDefEqProofs (disch:=omega) only [go_sem,↓reduceIte,reduceCtorEq,rA,rq,rL,zA,lR,false_implies,and_true,lC,lN,cA,nA,tS,tZ,tN,List.drop_succ_cons,List.drop_zero,List.drop_nil]
 have hFr:=fun (ex:List (Option Ob)) (t:Nat)=>QtO (P:=P) (G:=G) hT F hS (v0:=v0) (v1:=v1) (v2:=v2) (v3:=v3) (v4:=v4) (t:=t) (L:=[]) wl true (by decide) (by intro x hx; simp only [wl,List.mem_cons,List.not_mem_nil,or_false] at hx; rcases hx with rfl | rfl | rfl | rfl <;> (unfold i64; simp)) 3 2 (by decide) (by decide) 0 0 (by decide) (by simp) ex
 repeat' (first | with_reducible refine And.intro ?_ ?_ | (refine Yb hT QQ hfn rfl 14 ?_; simp -implicitDefEqProofs (disch:=omega) only [go_sem,↓reduceIte,rA,rq,rL,zA,lR,and_true,lC,lN,cA,nA,tS,tZ,tN,List.drop_succ_cons,List.drop_zero,List.drop_nil,Qcq]) | (refine Qa 6 ?_; simp -implicitDefEqProofs (disch:=omega) only [go_sem,↓reduceIte,rA,rq,rL,zA,lR,and_true,lC,lN,cA,nA,lA,tS,tZ,tN,List.drop_succ_cons,List.drop_zero,List.drop_nil,Qcq]))
 all_goals
  first
   | refine call hT QaM (hFr [] _) 7 fun v σ hv=>?_
   | refine call hT QaM (hFr [_] _) 6 fun v σ hv=>?_
  obtain ⟨L0, L', t2, u2, u3, u4, ps, hps, b, hb, h1, h2, h3, h4, h5, h6, rfl, rfl⟩ := hv
  have e0:max (0:Int) 0=0:=rfl
  have e1:QaR 2 0=2:=rfl
  rw [e1,Qyp] at hps
  subst hps
  rw [e0,e1] at hb h3
  have hb':b=32:=by rw [hb]; rfl
  subst hb'
  rw [e0,e1]
  have hlen:(frV L0 L' 0 wl 32 3 2 2).length=36:=by simp [frV,woF,Q7]
  have hones:ones (frV L0 L' 0 wl 32 3 2 2):=by
   intro c hc
   simp only [frV,woF,QI,List.mem_cons,List.mem_append,List.mem_map,List.not_mem_nil,or_false] at hc
   rcases hc with rfl | rfl | ⟨r,_,rfl⟩ | rfl | rfl <;> rfl
  have hend:=fun (t w:Nat)=>wk_end (P:=P) (G:=G) hT F (v0:=v0) (v1:=v1) (v2:=u2) (v3:=u3) (v4:=u4) (t:=t) (w:=w) (Q:=Keep 0 fun v x=>Qe v=true∧v=V.bool true) (fun σ=>⟨zL _,rfl,rfl⟩) (L0:=L0) (L:=L') (by simp at h5; omega) h3 h4 h6
  obtain ⟨wo,hwo⟩:∃ wo,wo=frV L0 L' 0 wl 32 3 2 2:=⟨_,rfl⟩
  rw [← hwo] at hlen hones hend ⊢
  have htk:List.take 36 wo=wo:=List.take_of_length_le (by omega)
  simp -implicitDefEqProofs (disch:=omega) only [go_sem,↓reduceIte,rA,rq,rT,zA,nF,lR,zL,and_true,nF,lC,lN,nA,tZ,List.drop_succ_cons,List.drop_nil,Qcq,QjD,Qdc,hlen,hones,List.append_nil]
  rw [hT5]
  refine Qml (XX [(2,.ref (.agg [.int .u8 2,.int .i64 0]) 0),(4,.lst 3 (prs [⟨1,2,0⟩]) false),(5,.ptr 1 v0 0),(6,.ptr 5 _ 0)] (by simp only [QF]; simp -implicitDefEqProofs (disch:=omega) only [go_sem,↓reduceIte,rq]; done) (hend _ _))
end Go.Proofs.YtfgccihafnjalaaGreatDoor
