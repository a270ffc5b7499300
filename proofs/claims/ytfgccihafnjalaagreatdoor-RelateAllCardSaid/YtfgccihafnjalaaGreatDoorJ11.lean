/- Fresh, its rows frozen. -/
import Derived.Test.YtfgccihafnjalaaGreatDoorJ10
import Derived.Test.YtfgccihafnjalaaGreatDoorAmD
import Derived.Test.YtfgccihafnjalaaGreatDoorJ7
import Derived.Test.YtfgccihafnjalaaGreatDoorY
open Nat renaming reduceEqDiff → rq, reduceAdd → rA, reduceLeDiff → rL, reduceLT → rT, zero_add → zA, le_refl → lR, zero_le → zL, add_zero → aZ
open List renaming length_cons → lC, length_nil → lN, take_succ_cons → tS, length_append → lA, nil_append → nA, cons_append → cA, append_assoc → aA, take_nil → tN, take_zero → tZ, length_map → lM
open Bool renaming not_false → nF, not_true → nT
namespace Go.Proofs.YtfgccihafnjalaaGreatDoor
open Go Go.Am Go.Re
set_option maxRecDepth 100000
variable {P:Program} {G:Nat→Option V}
theorem QAO (k w:Nat) (cs:List V) (l:List Int):(l.map (V.int .i64)).map (X8 k w cs)=l.map (V.int .i64):=by
 rw [List.map_map]; rfl
theorem QIE (k w:Nat) (cs:List V) (L:List Nd):(ndC L).map (X8 k w cs)=ndC L:=by
 induction L with
 | nil=>rfl
 | cons d L ih =>
   have e:ndC (d::L)=d.cells++ndC L:=by simp [ndC]
   rw [e,List.map_append,ih]; rfl
theorem QuD (k w:Nat) (cs:List V):∀ (j:Nat) (L:List Nd),(Qf8 j L).map (fun p=>(p.1,X8 k w cs p.2))=Qf8 j L
 | _,[]=>rfl
 | j,d::l=>by simp only [Qf8,List.map_cons,QuD k w cs (j+1) l]; rfl
theorem QpD (k w:Nat) (cs:List V) (L:List Nd) (up:List (Pr × Pr)) (H:List (Pr × Tm)) (l:List Pr) (j:Int) (f:Nat→Int) (n:Nat):(QK L up H l j f n).map (X8 k w cs)=QK L up H l j f n:=by
 unfold QK; rw [List.map_map]; rfl
theorem Qvt (L:List Nd) (up:List (Pr × Pr)) (H:List (Pr × Tm)) (l:List Pr) (j:Int) (f:Nat→Int) (n:Nat):∀ u∈QK L up H l j f n,u.cells=[u]:=fun u hu=>by
 unfold QK at hu; obtain ⟨r,_,rfl⟩:=List.mem_map.1 hu; rfl
theorem QsW (L:List Nd) (up:List (Pr × Pr)) (H:List (Pr × Tm)) (l:List Pr) (j:Int) (f:Nat→Int) (n:Nat):Qb (QK L up H l j f n)=true:=by
 unfold QK
 induction List.range n with
 | nil=>rfl
 | cons r l ih=>simpa [Qb,Qd] using ih
theorem Qvd (L:List Nd) (up:List (Pr × Pr)) (H:List (Pr × Tm)) (i n:Nat):∀ u∈YG L up H i n,u.cells=[u]:=fun u hu=>by
 unfold YG at hu; obtain ⟨r,_,rfl⟩:=List.mem_map.1 hu; rfl
theorem Qxl (L:List Nd) (up:List (Pr × Pr)) (H:List (Pr × Tm)) (i n:Nat):Qb (YG L up H i n)=true:=by
 unfold YG
 induction List.range n with
 | nil=>rfl
 | cons r l ih=>simpa [Qb,Qd] using ih
theorem QuB (k w:Nat) (cs:List V) (L:List Nd) (up:List (Pr × Pr)) (H:List (Pr × Tm)) (i n:Nat):(YG L up H i n).map (X8 k w cs)=YG L up H i n:=by
 unfold YG; rw [List.map_map]; rfl
variable {L:List Nd} {v0 v1 v2 v3 v4 t:Nat}
theorem Z4 {fmt:Int→List UInt8} {k w:Nat} {cs:List V} {ex:List (Option Ob)} (hk:5≤k):QA (X8 k w cs) 0 (kG fmt v0 v1 v2 v3 v4 L++ex)=kG fmt v0 v1 v2 v3 v4 L++QA (X8 k w cs) 0 ex:=by
 have n2:¬ 2=k:=by omega
 have n3:¬ 3=k:=by omega
 have n4:¬ 4=k:=by omega
 simp [kG,QA,Ob.mapV,QIE,QuD,X8,n2,n3,n4]
def woF (vr:List V) (lk:Int) (rg sr:List V) (sure:Bool):List V:=.lst 1 vr false::.int .i64 lk::(rg++[.lst 1 sr false,.bool sure])
theorem QJa (hT:Qh P tab) (F:Fmt P G) (hS:Qb0 P G) (l:List Pr) (tg:Bool) (hl:l.length≤1000) (hl64:∀ x∈l,i64 x.n) (vars m:Nat) (hv:vars≤10) (hm:m≤4) (params next:Int) (hn:next≤1099511627776) (hL:L.length≤10000) :
 C P G 0 Qar [.ptr 1 v0 0,.lst 3 (prs l) tg,.int .i64 ((vars:Nat):Int),.agg (fnC m),.int .i64 params,.int .i64 next] ⟨t,kG F.fmt v0 v1 v2 v3 v4 L⟩ fun v σ =>
   ∃ L0 L' t' u2 u3 u4,∃ ps,ps=Zw l vars (Zk m params)∧∃ b,b=max 0 next+30+((Zk m params:Nat):Int) ∧
   Ext L L0∧AllR L0 (max 0 next) 32∧AllS L0 (max 0 next) (Zk m params)∧Ext L0 L'∧L'.length≤L.length+2500∧AllH L' (frS ps b vars).1 ∧
   v=.tup [.agg (woF (YG L' (Qp (ties ps)) (frS ps b vars).1 vars vars) (ZV L' (Qp (ties ps)) (frS ps b vars).1 (vE (-1))) (QK L' (Qp (ties ps)) (frS ps b vars).1 ps 1 (fun r=>Qfd L0 (max 0 next) r) 32) (QK L' (Qp (ties ps)) (frS ps b vars).1 ps 2 (fun i=>Xc L0 (sy (max 0 next+30+((i:Nat):Int)))) (Zk m params)) (decide (m=0))),.int .i64 (frS ps b vars).2] ∧
   σ=⟨t',kG F.fmt v0 v1 u2 u3 u4 L'⟩:=by
 refine QoP (Q:=fun v σ=>∃ L0 L' t' u2 u3 u4,∃ ex:List (Option Ob),∃ ps,ps=Zw l vars (Zk m params)∧∃ b,b=max 0 next+30+((Zk m params:Nat):Int) ∧
  Ext L L0∧AllR L0 (max 0 next) 32∧AllS L0 (max 0 next) (Zk m params)∧Ext L0 L'∧L'.length≤L.length+2500∧AllH L' (frS ps b vars).1 ∧
  v=.tup [.agg (woF (YG L' (Qp (ties ps)) (frS ps b vars).1 vars vars) (ZV L' (Qp (ties ps)) (frS ps b vars).1 (vE (-1))) (QK L' (Qp (ties ps)) (frS ps b vars).1 ps 1 (fun r=>Qfd L0 (max 0 next) r) 32) (QK L' (Qp (ties ps)) (frS ps b vars).1 ps 2 (fun i=>Xc L0 (sy (max 0 next+30+((i:Nat):Int)))) (Zk m params)) (decide (m=0))),.int .i64 (frS ps b vars).2] ∧
  σ=⟨t',kG F.fmt v0 v1 u2 u3 u4 L'++ex⟩) ?_ fun v σ' hq=>?_
 ·refine QfU (Q:=fun v σ=>∃ L0 L' t' u2 u3 u4 kV wV,∃ e1 e2:List (Option Ob),∃ ps,ps=Zw l vars (Zk m params)∧∃ b,b=max 0 next+30+((Zk m params:Nat):Int) ∧
   kV=5+e1.length∧Ext L L0∧AllR L0 (max 0 next) 32∧AllS L0 (max 0 next) (Zk m params)∧Ext L0 L'∧L'.length≤L.length+2500∧AllH L' (frS ps b vars).1 ∧
   v=.tup [.agg (.sl kV wV 0 1 vars none::.int .i64 (ZV L' (Qp (ties ps)) (frS ps b vars).1 (vE (-1)))::(QK L' (Qp (ties ps)) (frS ps b vars).1 ps 1 (fun r=>Qfd L0 (max 0 next) r) 32++[.lst 1 (QK L' (Qp (ties ps)) (frS ps b vars).1 ps 2 (fun i=>Xc L0 (sy (max 0 next+30+((i:Nat):Int)))) (Zk m params)) false,.bool (decide (m=0))])),.int .i64 (frS ps b vars).2] ∧
   σ=⟨t',kG F.fmt v0 v1 u2 u3 u4 L'++(e1++some (.arr wV 44 (YG L' (Qp (ties ps)) (frS ps b vars).1 vars vars))::e2)⟩) ?_ fun v σ' hq=>?_
  ·refine QfU (Q:=fun v σ=>∃ L0 L' t' u2 u3 u4 kV wV ws,∃ x17 x18:Option Ob,∃ ps,ps=Zw l vars (Zk m params)∧∃ b,b=max 0 next+30+((Zk m params:Nat):Int) ∧
   (kV=17∧x17=some (.arr wV 44 (YG L' (Qp (ties ps)) (frS ps b vars).1 vars vars))∧x18=none∨kV=18∧x18=some (.arr wV 44 (YG L' (Qp (ties ps)) (frS ps b vars).1 vars vars))∧x17=none)∧Ext L L0∧AllR L0 (max 0 next) 32∧AllS L0 (max 0 next) (Zk m params)∧Ext L0 L'∧L'.length≤L.length+2500∧AllH L' (frS ps b vars).1 ∧
   v=.tup [.agg (.sl kV wV 0 1 vars none::.int .i64 (ZV L' (Qp (ties ps)) (frS ps b vars).1 (vE (-1)))::(QK L' (Qp (ties ps)) (frS ps b vars).1 ps 1 (fun r=>Qfd L0 (max 0 next) r) 32++[.sl 14 ws 0 1 (Zk m params) none,.bool (decide (m=0))])),.int .i64 (frS ps b vars).2] ∧
   σ=⟨t',kG F.fmt v0 v1 u2 u3 u4 L'++[none,none,none,none,none,none,none,none,none,some (.arr ws 44 (QK L' (Qp (ties ps)) (frS ps b vars).1 ps 2 (fun i=>Xc L0 (sy (max 0 next+30+((i:Nat):Int)))) (Zk m params))),none,none,x17,x18]⟩) ?_ fun v σ' hq=>?_
   ·refine QoP (QBb hT F hS l tg hl hl64 vars m hv hm params next hn hL) fun v σ' hq=>?_
    obtain ⟨L0,L',t',u2,u3,u4,kV,kW,wV,wW,ws,w21,wg,wb,wu,wp,wm,wh,y,cells,ps,hps,b,hb,hk,h1,h2,h3,h4,h5,h6,rfl,rfl⟩:=hq
    rcases hk with ⟨rfl,rfl⟩ | ⟨rfl,rfl⟩
    ·refine ⟨kG F.fmt v0 v1 u2 u3 u4 L'++[none,none,none,none,none,none,none,none,none,some (.arr ws 44 (QK L' (Qp (ties ps)) (frS ps b vars).1 ps 2 (fun i=>Xc L0 (sy (max 0 next+30+((i:Nat):Int)))) (Zk m params))),none,none,some (.arr wV 44 (YG L' (Qp (ties ps)) (frS ps b vars).1 vars vars)),none],t',?_,lR _,zL _,L0,L',t',u2,u3,u4,17,wV,ws,_,_,ps,hps,b,hb,.inl ⟨rfl,rfl,rfl⟩,h1,h2,h3,h4,h5,h6,rfl,rfl⟩
     simp [kG,frZ,y3,Xw]
    ·refine ⟨kG F.fmt v0 v1 u2 u3 u4 L'++[none,none,none,none,none,none,none,none,none,some (.arr ws 44 (QK L' (Qp (ties ps)) (frS ps b vars).1 ps 2 (fun i=>Xc L0 (sy (max 0 next+30+((i:Nat):Int)))) (Zk m params))),none,none,none,some (.arr wV 44 (YG L' (Qp (ties ps)) (frS ps b vars).1 vars vars))],t',?_,lR _,zL _,L0,L',t',u2,u3,u4,18,wV,ws,_,_,ps,hps,b,hb,.inr ⟨rfl,rfl,rfl⟩,h1,h2,h3,h4,h5,h6,rfl,rfl⟩
     simp [kG,frZ,y3,Xw]
   ·obtain ⟨L0,L',t',u2,u3,u4,kV,wV,ws,x17,x18,ps,hps,b,hb,hk,h1,h2,h3,h4,h5,h6,rfl,rfl⟩:=hq
    refine .inr ⟨14,ws,44,_,zL _,rfl,QsW _ _ _ _ _ _ _,?_⟩
    have hz:=QuC (sz:=1) (k:=14) (w:=ws) (Qvt L' (Qp (ties ps)) (frS ps b vars).1 ps 2 (fun i=>Xc L0 (sy (max 0 next+30+((i:Nat):Int)))) (Zk m params))
    rw [Xs] at hz
    obtain ⟨sr,hsr⟩:∃ sr,sr=QK L' (Qp (ties ps)) (frS ps b vars).1 ps 2 (fun i=>Xc L0 (sy (max 0 next+30+((i:Nat):Int)))) (Zk m params):=⟨_,rfl⟩
    rw [← hsr] at hz ⊢
    rcases hk with ⟨rfl,rfl,rfl⟩ | ⟨rfl,rfl,rfl⟩
    ·refine ⟨L0,L',t',u2,u3,u4,17,wV,[none,none,none,none,none,none,none,none,none,none,none,none],[none],ps,hps,b,hb,rfl,h1,h2,h3,h4,h5,h6,?_,?_⟩
     ·rw [← hsr]
      simp only [X8,QvF,ZP,List.map_append,QpD,List.map_cons,List.map_nil] at hz ⊢
      simpa using hz
     ·have e:∀ (X:Option Ob) (ex:List (Option Ob)),(kG F.fmt v0 v1 u2 u3 u4 L'++ex).set 14 none=kG F.fmt v0 v1 u2 u3 u4 L'++ex.set 9 none:=fun X ex=>rfl
      rw [e none,Z4 (by decide)]
      simp [QA,Ob.mapV,QuB]
    ·refine ⟨L0,L',t',u2,u3,u4,18,wV,[none,none,none,none,none,none,none,none,none,none,none,none,none],[],ps,hps,b,hb,rfl,h1,h2,h3,h4,h5,h6,?_,?_⟩
     ·rw [← hsr]
      simp only [X8,QvF,ZP,List.map_append,QpD,List.map_cons,List.map_nil] at hz ⊢
      simpa using hz
     ·have e:∀ (X:Option Ob) (ex:List (Option Ob)),(kG F.fmt v0 v1 u2 u3 u4 L'++ex).set 14 none=kG F.fmt v0 v1 u2 u3 u4 L'++ex.set 9 none:=fun X ex=>rfl
      rw [e none,Z4 (by decide)]
      simp [QA,Ob.mapV,QuB]
  ·obtain ⟨L0,L',t',u2,u3,u4,kV,wV,e1,e2,ps,hps,b,hb,hk,h1,h2,h3,h4,h5,h6,rfl,rfl⟩:=hq
   subst hk
   have hat:(kG F.fmt v0 v1 u2 u3 u4 L'++(e1++some (.arr wV 44 (YG L' (Qp (ties ps)) (frS ps b vars).1 vars vars))::e2))[5+e1.length]?=some (some (.arr wV 44 (YG L' (Qp (ties ps)) (frS ps b vars).1 vars vars))):=by
    rw [show 5+e1.length=(kG F.fmt v0 v1 u2 u3 u4 L').length+e1.length from rfl,List.getElem?_append_right (by omega),Nat.add_sub_cancel_left,List.getElem?_append_right (lR _),Nat.sub_self]; rfl
   refine .inr ⟨5+e1.length,wV,44,_,zL _,hat,Qxl _ _ _ _ _,?_⟩
   have hz:=QuC (sz:=1) (k:=5+e1.length) (w:=wV) (Qvd L' (Qp (ties ps)) (frS ps b vars).1 vars vars)
   rw [QkS] at hz
   obtain ⟨vr,hvr⟩:∃ vr,vr=YG L' (Qp (ties ps)) (frS ps b vars).1 vars vars:=⟨_,rfl⟩
   rw [← hvr] at hz ⊢
   refine ⟨L0,L',t',u2,u3,u4,QA (X8 (5+e1.length) wV vr) 0 ((e1++some (.arr wV 44 vr)::e2).set e1.length none),ps,hps,b,hb,h1,h2,h3,h4,h5,h6,?_,?_⟩
   ·rw [← hvr]
    simp only [X8,QvF,ZP,List.map_append,QpD,List.map_cons,List.map_nil,woF] at hz ⊢
    simpa using hz
   ·have e:(kG F.fmt v0 v1 u2 u3 u4 L'++(e1++some (.arr wV 44 vr)::e2)).set (5+e1.length) none=kG F.fmt v0 v1 u2 u3 u4 L'++(e1++some (.arr wV 44 vr)::e2).set e1.length none:=by
     rw [List.set_append_right _ _ (by show 5≤_; omega),show 5+e1.length - (kG F.fmt v0 v1 u2 u3 u4 L').length=e1.length from Nat.add_sub_cancel_left 5 e1.length]
    rw [e,Z4 (by omega)]
 ·obtain ⟨L0,L',t',u2,u3,u4,ex,ps,hps,b,hb,h1,h2,h3,h4,h5,h6,rfl,rfl⟩:=hq
  exact ⟨kG F.fmt v0 v1 u2 u3 u4 L',t',XK _ _,lR _,zL _,L0,L',t',u2,u3,u4,ps,hps,b,hb,h1,h2,h3,h4,h5,h6,rfl,rfl⟩
theorem woF_nl {vr sr rg:List V} {lk:Int} {sure:Bool} (h1:Qb vr=true) (h2:Qb sr=true) (h3:Qb rg=true):Qb (woF vr lk rg sr sure)=true:=by
 simp [woF,Qb,Qd,Qff,h3]
def frV (L0 L':List Nd) (nx:Int) (ps:List Pr) (b:Int) (vars cnt m:Nat):List V:=woF (YG L' (Qp (ties ps)) (frS ps b vars).1 vars vars) (ZV L' (Qp (ties ps)) (frS ps b vars).1 (vE (-1))) (QK L' (Qp (ties ps)) (frS ps b vars).1 ps 1 (fun r=>Qfd L0 nx r) 32) (QK L' (Qp (ties ps)) (frS ps b vars).1 ps 2 (fun i=>Xc L0 (sy (nx+30+((i:Nat):Int)))) cnt) (decide (m=0))
theorem QuF (L0 L':List Nd) (nx:Int) (ps:List Pr) (b:Int) (vars cnt m:Nat):Qb (frV L0 L' nx ps b vars cnt m)=true:=woF_nl (Qxl _ _ _ _ _) (QsW _ _ _ _ _ _ _) (QsW _ _ _ _ _ _ _)
theorem QpY (hT:Qh P tab) (F:Fmt P G) (hS:Qb0 P G) (l:List Pr) (tg:Bool) (hl:l.length≤1000) (hl64:∀ x∈l,i64 x.n) (vars m:Nat) (hv:vars≤10) (hm:m≤4) (params next:Int) (hn:next≤1099511627776) (hL:L.length≤10000) (ex:List (Option Ob)) :
 C P G 0 Qar [.ptr 1 v0 0,.lst 3 (prs l) tg,.int .i64 ((vars:Nat):Int),.agg (fnC m),.int .i64 params,.int .i64 next] ⟨t,kG F.fmt v0 v1 v2 v3 v4 L++ex⟩ fun v σ =>
   ∃ L0 L' t' u2 u3 u4,∃ ps,ps=Zw l vars (Zk m params)∧∃ b,b=max 0 next+30+((Zk m params:Nat):Int) ∧
   Ext L L0∧AllR L0 (max 0 next) 32∧AllS L0 (max 0 next) (Zk m params)∧Ext L0 L'∧L'.length≤L.length+2500∧AllH L' (frS ps b vars).1 ∧
   v=.tup [.agg (frV L0 L' (max 0 next) ps b vars (Zk m params) m),.int .i64 (frS ps b vars).2]∧σ=⟨t',kG F.fmt v0 v1 u2 u3 u4 L'++ex⟩:=by
 refine Qjj [0,1,2,3,4] (QJa hT F hS (v0:=v0) (v1:=v1) (v2:=v2) (v3:=v3) (v4:=v4) (L:=L) l tg hl hl64 vars m hv hm params next hn hL) rfl (by decide) ?_ ?_ ?_ (zL _) ?_ ?_ fun v σ hv=>?_
 ·simp [Qnu,kG]
 ·simp [Qmq,kG,Ob.under,XC,V.under,Ob.ren,Qbs,V.ren,rOf,YQ,Qat,Zj,Qdd,QbP,-List.all_eq_true,Qaj]
 ·simp [Qzv]
 ·simp [XC,V.under,QFa,kG]
 ·simp only [Qbs,V.ren,QFb]
  simp [rOf]
 ·obtain ⟨L0,L',t',u2,u3,u4,ps,hps,b,hb,h1,h2,h3,h4,h5,h6,rfl,rfl⟩:=hv
  refine ⟨by simp [kG],L0,L',t',u2,u3,u4,ps,hps,b,hb,h1,h2,h3,h4,h5,h6,?_,?_⟩
  ·have hnl:=QuF L0 L' (max 0 next) ps b vars (Zk m params) m
   show V.ren _ (.tup [.agg (frV L0 L' (max 0 next) ps b vars (Zk m params) m),.int .i64 (frS ps b vars).2])=_
   rw [V.ren_nameless _ (by simp [Qd,Qb,hnl])]
  ·simp [QbJ,Qa9,kG,Ob.ren,Qbs,V.ren,rOf,YQ,Qat,Zj]
section
attribute [local go_sem] cA lC lN nA aZ lR zA zL and_true decide_false decide_true false_implies Qz Xo zqu_0 zqu_1 zqu_2 zqu_3 zqu_4 zqu_5 XO zq7_0 zq7_1 zq7_2 zq7_3 zq7_4 zq7_5 zq7_6 Qk true_and true_implies
theorem QBf (hT:Qh P tab) (a b:Pr):Am.Pure P G ZM [prV a,prV b] fun u=>u=.bool (decide (lt a b)):=by
 refine fun t=>Xq 0 (zL _) (Q0 hT X4 (by simp [Xo]) ?_)
 simp only [prV,prC]
 by_cases h1:a.v=b.v
 ·have h1':(a.v != b.v)=false:=by simp [h1]
  by_cases h2:a.k=b.k
  ·have h2':(a.k != b.k)=false:=by simp [h2]
   have hL:decide (lt a b)=decide (a.n<b.n):=decide_eq_decide.2 (by unfold lt; omega)
   rw [hL]
   refine Ql 1000 ?_
   refine yt ?_
   try simp [h1,h2]
  ·have h2':(a.k != b.k)=true:=by simpa using h2
   have hL:decide (lt a b)=decide (a.k<b.k):=decide_eq_decide.2 (by unfold lt; omega)
   rw [hL]
   refine Ql 1000 ?_
   refine yt ?_
   try simp [h1,h2]
 ·have h1':(a.v != b.v)=true:=by simpa using h1
  have hL:decide (lt a b)=decide (a.v<b.v):=decide_eq_decide.2 (by unfold lt; omega)
  rw [hL]
  refine Ql 1000 ?_
  simp -implicitDefEqProofs (disch:=omega) only [go_sem,↓reduceIte,reduceCtorEq,rA,rq,rL,List.getElem?_cons_zero,List.getElem?_cons_succ,h1']
  try simp
theorem c_Has (hT:Qh P tab) (l:List Pr) (tg:Bool) (p:Pr) (hl:l.length≤1000000):Am.Pure P G Qbb [.lst 3 (prs l) tg,prV p] fun u=>u=.bool (decide (p∈l)):=by
 refine fun t=>Xq 0 (zL _) (Q0 hT XV (by simp [XO]) (Ql 5 ?_))
 simp only [prV,prC]
 refine ya ?_
 refine Xf (Shift.freeze (k:=0) (v:=t) (T:=28) (cs:=[.int .i64 p.v,.int .u8 p.k,.int .i64 p.n]) (zL _) rfl rfl) ?_
 simp only [QC,QW,QvF,X8,QA,List.set_cons_zero,Option.map_none]
 refine Qa 40 ?_
 refine ya ?_
 refine XS l (fun i fr σ=>p ∉ l.take i∧Qf fr 0=.lst 3 (prs l) tg∧Qf fr 3=.ref (.agg [.int .i64 p.v,.int .u8 p.k,.int .i64 p.n]) 0∧Qf fr 5=.int .i64 ((i:Nat):Int)∧σ=⟨t+1,[none]⟩) (fun e fr σ=>(e=.ret∧p∈l∧Qf fr 4=.bool true)∨(e=.ex 0∧p ∉ l)) ⟨by simp,?_⟩ (fun i x hx fr σ hJ=>?_) (fun i hi fr σ hJ=>?_) (fun e fr σ hE=>?_)
 ·refine ya ?_
  try simp
 ·obtain ⟨hno,f0,f3,f5,rfl⟩:=hJ
  have hlt:=(List.getElem?_eq_some_iff.1 hx).1
  have hD:=QaW hx
  have e2:=YJ hlt (by omega)
  simp only [prV,prC] at hD
  by_cases he:x=p
  ·have hE:(x.v==p.v&&(x.k==p.k&&x.n==p.n))=true:=by rw [Qmw]; exact decide_eq_true he
   have hm:p∈l:=he▸List.mem_of_getElem? hx
   refine Qe [(0,.lst 3 (prs l) tg),(3,.ref (.agg [.int .i64 p.v,.int .u8 p.k,.int .i64 p.n]) 0),(5,.int .i64 ((i:Nat):Int))] ⟨f0,f3,f5,trivial⟩  1000 ?_
   simp -implicitDefEqProofs (disch:=omega) only [go_sem,↓reduceIte,reduceCtorEq,rA,rq,hlt,hD,hE]
   try exact hm
  ·have hE:(x.v==p.v&&(x.k==p.k&&x.n==p.n))=false:=by rw [Qmw]; exact decide_eq_false he
   refine Qe [(0,.lst 3 (prs l) tg),(3,.ref (.agg [.int .i64 p.v,.int .u8 p.k,.int .i64 p.n]) 0),(5,.int .i64 ((i:Nat):Int))] ⟨f0,f3,f5,trivial⟩  1000 ?_
   simp -implicitDefEqProofs (disch:=omega) only [go_sem,↓reduceIte,reduceCtorEq,rA,rq,hlt,hD,hE,e2]
   refine ⟨_,_,Shift.refl _ _ _ _,fun hm=>?_,?_⟩
   ·rw [Qy hx,List.mem_append,List.mem_singleton] at hm
    rcases hm with hm | hm
    ·exact hno hm
    ·exact he hm.symm
   ·exact yb
 ·obtain ⟨hno,f0,f3,f5,rfl⟩:=hJ
  refine Qe [(0,.lst 3 (prs l) tg),(3,.ref (.agg [.int .i64 p.v,.int .u8 p.k,.int .i64 p.n]) 0),(5,.int .i64 ((i:Nat):Int))] ⟨f0,f3,f5,trivial⟩  12 ?_
  refine yd ?_
  rw [hi,List.take_length] at hno
  try exact hno
 ·rcases hE with ⟨rfl,hm,f4⟩ | ⟨rfl,hm⟩
  ·refine Qa 12 ?_
   refine yy ?_
   try simp [hm]
  ·refine Qa 12 ?_
   refine ya ?_
   try simp [hm]
theorem Qz4 {o:List (Option Ob)} {k w T n:Nat} {lim:Option Nat} {l:List Pr} {ds:List V} (h:o[k]?=some (some (.arr w T (fl prC l++ds)))) (hn:n=l.length):Seen o (.sl k w 0 3 n lim) (.lst 3 (prs l) false):=by
 subst hn
 have:=Seen.row (o:=o) k w 0 3 lim T (fl prC l++ds) (prs l) h (fun j u hj=>by
  simp only [prs,List.getElem?_map,Option.map_eq_some_iff] at hj
  obtain ⟨p,hp,rfl⟩:=hj
  refine ⟨rfl,fun i d hd=>?_⟩
  have hpt:=ZJ hp ds
  have hi:i<3:=by have:=(List.getElem?_eq_some_iff.1 hd).1; simpa [prV,V.cells,prC] using this
  have h2:=congrArg (fun l=>l[i]?) hpt
  simp only [List.getElem?_take,if_pos hi,List.getElem?_drop] at h2
  rw [zA]
  refine ⟨by rw [h2]; exact hd,?_⟩
  have:i=0∨i=1∨i=2:=by omega
  rcases this with rfl | rfl | rfl <;> (simp [prV,V.cells,prC] at hd; subst hd; rfl)) (fun _=>rfl)
 rwa [Qk] at this
end
section
attribute [local go_sem] nF nT lR zA decide_false decide_true gt_iff_lt Qz Xn zqa_0 zqa_1 QBQ QBP zqa_2 zqa_3 zqa_4 zqa_5 zqa_6 QFT QFS QFR
variable {i k:Nat}
theorem QxU {L:List Pr} (h:i<L.length) (y:Pr):(fl prC L).take (i * 3)++V.int .i64 y.v::V.int .u8 y.k::V.int .i64 y.n::(fl prC L).drop (i * 3+3)=fl prC (L.set i y):=by
 have:=Qon h y []
 simpa only [List.append_nil] using this
variable {l s:List Pr}
theorem QxI {o:List (Option Ob)} {w T n:Nat} {lim:Option Nat} (h:o[k]?=some (some (.arr w T (fl prC l)))) (hn:n=l.length):Seen o (.sl k w 0 3 n lim) (.lst 3 (prs l) false):=Qz4 (ds:=[]) (by rw [List.append_nil]; exact h) hn
theorem QoE (s:List Pr) (x:Pr):fl prC s++[V.int .i64 x.v,V.int .u8 x.k,V.int .i64 x.n]=fl prC (s++[x]):=by simp [fl,prC]
def mv (s:List Pr) (x:Pr) (k:Nat):List Pr:=s.take k++x::s.drop k
variable {x:Pr}
theorem QE2 (hk:k≤s.length):(mv s x k).length=s.length+1:=by unfold mv; rw [lA,lC,List.length_take,List.length_drop]; omega
theorem mv_end (s:List Pr) (x:Pr):s++[x]=mv s x s.length:=by simp [mv]
theorem mv_at (hk:k≤s.length):(mv s x k)[k]?=some x:=by
 unfold mv
 rw [List.getElem?_append_right (by rw [List.length_take]; omega),List.length_take,Nat.min_eq_left hk,Nat.sub_self]; rfl
theorem mv_pre (hk:k≤s.length) (h0:0<k):(mv s x k)[k - 1]?=s[k - 1]?:=by
 unfold mv
 rw [List.getElem?_append_left (by simp; omega),List.getElem?_take,if_pos (by omega)]
theorem QIl {y:Pr} (hk:k≤s.length) (h0:0<k) (hy:s[k - 1]?=some y):((mv s x k).set k y).set (k - 1) x=mv s x (k - 1):=by
 apply List.ext_getElem?
 intro j
 have hl:(mv s x k).length=s.length+1:=QE2 hk
 by_cases h1:j=k - 1
 ·subst h1
  rw [List.getElem?_set_self (by simp [hl]; omega),mv_at (by omega)]
 ·rw [List.getElem?_set_ne (Ne.symm h1)]
  by_cases h2:j=k
  ·subst h2
   rw [List.getElem?_set_self (by omega)]
   unfold mv
   rw [List.getElem?_append_right (by simp; omega),List.length_take,Nat.min_eq_left (by omega),show j - (j - 1)=1 by omega,List.getElem?_cons_succ,List.getElem?_drop,show j - 1+0=j - 1 by omega,hy]
  ·rw [List.getElem?_set_ne (Ne.symm h2)]
   unfold mv
   rcases Nat.lt_or_ge j (k - 1) with h3 | h3
   ·rw [List.getElem?_append_left (by simp; omega),List.getElem?_append_left (by simp; omega),List.getElem?_take,List.getElem?_take,if_pos (by omega),if_pos (by omega)]
   ·rw [List.getElem?_append_right (by simp; omega),List.getElem?_append_right (by simp; omega),List.length_take,List.length_take,Nat.min_eq_left (by omega),Nat.min_eq_left (by omega)]
    obtain ⟨d,rfl⟩:∃ d,j=k+1+d:=⟨j - (k+1),by omega⟩
    rw [show k+1+d - k=d+1 by omega,show k+1+d - (k - 1)=d+2 by omega,List.getElem?_cons_succ,List.getElem?_cons_succ,List.getElem?_drop,List.getElem?_drop]
    congr 1; omega
abbrev mvJ (l s:List Pr) (tg:Bool) (x:Pr) (i:Nat):Nat→Fr→H→Prop:=fun k fr σ=>∃ t w,k≤s.length∧(∀ y∈s.drop k,lt x y)∧Qf fr 0=.lst 3 (prs l) tg∧Qf fr 4=.int .i64 ((i:Nat):Int)∧Qf fr 3=.sl 0 w 0 3 (s.length+1) none∧Qf fr 5=.int .i64 ((k:Nat):Int)∧σ=⟨t,[some (.arr w 28 (fl prC (mv s x k)))]⟩
abbrev mvE (l s:List Pr) (tg:Bool) (x:Pr) (i:Nat):AE→Fr→H→Prop:=fun e fr σ=>∃ t w,e=.ex 2∧Qf fr 0=.lst 3 (prs l) tg∧Qf fr 4=.int .i64 ((i:Nat):Int)∧Qf fr 3=.sl 0 w 0 3 (s.length+1) none∧σ=⟨t,[some (.arr w 28 (fl prC (put x s)))]⟩
theorem QAp (hT:Qh P tab) {tg:Bool} (hs:Srt s) (hsl:s.length≤1000000) {fr:Fr} {σ:H} (hJ:mvJ l s tg x i k fr σ) :
 W P G 61 0 (.seq (zg QFT [28,29,30,31,32,33,34,35,36,37,38,39,40] (zw 41 .skip (.exit 2))) (.seq (.block 3 (.reg QFS [44,45,46,47,48,49,50,51,52,53,54,55,56,57,58,59])) (.reg QFR [42,43]))) fr σ (YH (fun fr σ=>∃ k' fr' σ',k'<k∧Shift G 61 0 fr σ fr' σ'∧mvJ l s tg x i k' fr' σ') (mvE l s tg x i)):=by
 obtain ⟨t,w,hk,hgt,f0,f4,f3,f5,rfl⟩:=hJ
 have hml:(mv s x k).length=s.length+1:=QE2 hk
 rcases Nat.eq_zero_or_pos k with h0 | h0
 ·have hp:put x s=mv s x k:=Quh hs hk hgt (.inl h0)
  have h0':((k:Int) > 0)=False:=eq_false (by omega)
  have h0'':decide ((0:Int)<(k:Int))=false:=decide_eq_false (by omega)
  refine Qe [(0,.lst 3 (prs l) tg),(4,.int .i64 ((i:Nat):Int)),(3,.sl 0 w 0 3 (s.length+1) none),(5,.int .i64 ((k:Nat):Int))] ⟨f0,f4,f3,f5,trivial⟩  4 ?_
  refine ya ?_
  iterate 10 (try (refine Qa 3 ?_; simp -implicitDefEqProofs (disch:=omega) only [go_sem,↓reduceIte,reduceCtorEq,rq,h0'']))
  show mvE _ _ _ _ _ _ _ _
  refine ⟨t,w,rfl,?_⟩
  rw [hp]
  repeat' (first | exact rfl | refine ⟨rfl,?_⟩)
 ·obtain ⟨y,hy⟩:∃ y,s[k - 1]?=some y:=⟨_,List.getElem?_eq_getElem (by omega)⟩
  have h0'':decide ((0:Int)<(k:Int))=true:=decide_eq_true (by omega)
  have hx:=mv_at (x:=x) hk
  have hyp:=(mv_pre (x:=x) hk h0).trans hy
  have hDx:=Qum hx
  have hDy:=Qum hyp
  have e4:=QzE h0 (by omega)
  have b1:k<s.length+1:=by omega
  have b2:k - 1<s.length+1:=by omega
  have b3:k * 3+3≤(s.length+1) * 3:=by omega
  have b4:(k - 1) * 3+3≤(s.length+1) * 3:=by omega
  have hB:=QBf (P:=P) (G:=G) hT x y
  simp only [prV,prC] at hB
  by_cases hlt:lt x y
  ·have hB':decide (lt x y)=true:=decide_eq_true hlt
   rw [hB'] at hB
   have hP1:=QxU (L:=mv s x k) (i:=k) (by omega) y
   have hP2:=QxU (L:=(mv s x k).set k y) (i:=k - 1) (by simp [hml]; omega) x
   rw [QIl hk h0 hy] at hP2
   refine Qe [(0,.lst 3 (prs l) tg),(4,.int .i64 ((i:Nat):Int)),(3,.sl 0 w 0 3 (s.length+1) none),(5,.int .i64 ((k:Nat):Int))] ⟨f0,f4,f3,f5,trivial⟩  4 ?_
   refine ya ?_
   iterate 12 (try (refine Qa 3 ?_; simp -implicitDefEqProofs (disch:=omega) only [go_sem,↓reduceIte,reduceCtorEq,rA,rq,YR,false_implies,and_true,List.getElem?_cons_zero,h0'',hDx,hDy,b1,b2,b3,b4,hml,e4]))
   refine QX hT X4 hB rfl 3 ?_
   refine ya ?_
   iterate 10 (try (refine Qa 3 ?_; simp -implicitDefEqProofs (disch:=omega) only [go_sem,↓reduceIte,reduceCtorEq,rA,rq,YR,List.length_set,false_implies,and_true,aA,cA,nA,lC,lN,List.getElem?_cons_zero,List.set_cons_zero,hDx,hDy,b1,b2,b3,b4,hml,e4,hP1,hP2]))
   refine ⟨k - 1,_,_,by omega,Shift.refl _ _ _ _,t,w,by omega,fun z hz=>?_,?_⟩
   ·rw [List.drop_eq_getElem_cons (by omega)] at hz
    rcases List.mem_cons.1 hz with rfl | hz
    ·rw [List.getElem?_eq_getElem (by omega)] at hy
     injection hy with hy
     rw [hy]; exact hlt
    ·rw [show k - 1+1=k by omega] at hz; exact hgt z hz
   ·exact yg
  ·have hB':decide (lt x y)=false:=decide_eq_false hlt
   rw [hB'] at hB
   have hp:put x s=mv s x k:=Quh hs hk hgt (.inr ⟨y,hy,hlt⟩)
   refine Qe [(0,.lst 3 (prs l) tg),(4,.int .i64 ((i:Nat):Int)),(3,.sl 0 w 0 3 (s.length+1) none),(5,.int .i64 ((k:Nat):Int))] ⟨f0,f4,f3,f5,trivial⟩  4 ?_
   refine ya ?_
   iterate 12 (try (refine Qa 3 ?_; simp -implicitDefEqProofs (disch:=omega) only [go_sem,↓reduceIte,reduceCtorEq,rA,rq,YR,false_implies,and_true,List.getElem?_cons_zero,h0'',hDx,hDy,b1,b2,b3,b4,hml,e4]))
   refine QX hT X4 hB rfl 3 ?_
   refine ya ?_
   iterate 10 (try (refine Qa 3 ?_; simp -implicitDefEqProofs (disch:=omega) only [go_sem]))
   refine ⟨t,w,rfl,?_⟩
   rw [hp]
   repeat' (first | exact rfl | refine ⟨rfl,?_⟩)
theorem QrY (hT:Qh P tab) (l:List Pr) (tg:Bool) (hl:l.length≤1000000):Am.Pure P G ZL [.lst 3 (prs l) tg] fun u=>u=.lst 3 (prs (srt l)) false:=by
 refine Qli (fun t=>?_) (by simp [Qd])
 refine Q0 hT X3 (by simp [Xn]) (Ql 8 ?_)
 refine ya ?_
 refine Xf (n:=61) (Shift.own (s:=3) (z:=0) (sz:=3) (T:=28) (yb) (by decide)) ?_
 simp -implicitDefEqProofs (disch:=omega) only [go_sem,↓reduceIte,reduceCtorEq,rq,H.push]
 refine Qa 12 ?_
 refine ya ?_
 refine XS l (fun i fr σ=>∃ t w,Qf fr 0=.lst 3 (prs l) tg∧Qf fr 4=.int .i64 ((i:Nat):Int)∧Qf fr 3=.sl 0 w 0 3 (srt (l.take i)).length none∧σ=⟨t,[some (.arr w 28 (fl prC (srt (l.take i))))]⟩)
  (fun e fr σ=>∃ t w,e=.ex 0∧Qf fr 3=.sl 0 w 0 3 (srt l).length none∧σ=⟨t,[some (.arr w 28 (fl prC (srt l)))]⟩) ⟨t+1,t,?_⟩ (fun i x hx fr σ hJ=>?_) (fun i hi fr σ hJ=>?_) (fun e fr σ hE=>?_)
 ·rw [tZ]
  refine yi ?_
  simp [srt,fl]
 ·obtain ⟨t,w,f0,f4,f3,rfl⟩:=hJ
  have hlt:=(List.getElem?_eq_some_iff.1 hx).1
  have hD:=QaW hx
  have e2:=YJ hlt (by omega)
  have hst:=Qt8 (l.take i) x
  rw [← Qy hx] at hst
  have hsl:=QlM (l.take i)
  have hs:=Qpe (l.take i)
  generalize hg:srt (l.take i)=s at *
  have hsl2:s.length≤1000000:=by rw [List.length_take] at hsl; omega
  have hH:=c_Has (P:=P) (G:=G) hT s false x hsl2
  simp only [prV,prC] at hD hH
  have hsee:SeenL [some (Ob.arr w 28 (fl prC s))] [V.sl 0 w 0 3 s.length none,V.agg [V.int .i64 x.v,V.int .u8 x.k,V.int .i64 x.n]] [.lst 3 (prs s) false,V.agg [V.int .i64 x.v,V.int .u8 x.k,V.int .i64 x.n]] :=
   .cons _ _ _ _ (QxI rfl rfl) (.cons _ _ _ _ (.same _ rfl) .nil)
  by_cases hm:x∈s
  ·rw [decide_eq_true hm] at hH
   rw [if_pos hm] at hst
   refine Qe [(0,.lst 3 (prs l) tg),(4,.int .i64 ((i:Nat):Int)),(3,.sl 0 w 0 3 s.length none)] ⟨f0,f4,f3,trivial⟩ 1000 ?_
   simp -implicitDefEqProofs (disch:=omega) only [go_sem,↓reduceIte,reduceCtorEq,rA,rq,Qk,false_implies,and_true,lC,lN,hlt,hD]
   refine QdR hT XV (σ:=⟨t,[some (Ob.arr w 28 (fl prC s))]⟩) hH hsee rfl 20 ?_
   refine yf ?_
   refine ⟨_,_,Shift.refl _ _ _ _,t,w,?_⟩
   rw [hst]
   exact yg
  ·rw [decide_eq_false hm] at hH
   rw [if_neg hm] at hst
   refine Qe [(0,.lst 3 (prs l) tg),(4,.int .i64 ((i:Nat):Int)),(3,.sl 0 w 0 3 s.length none)] ⟨f0,f4,f3,trivial⟩ 1000 ?_
   simp -implicitDefEqProofs (disch:=omega) only [go_sem,↓reduceIte,reduceCtorEq,rA,rq,Qk,false_implies,and_true,lC,lN,hlt,hD]
   refine QdR hT XV (σ:=⟨t,[some (Ob.arr w 28 (fl prC s))]⟩) hH hsee rfl 8 ?_
   refine ya ?_
   iterate 8 (try (refine Qa 2 ?_; simp -implicitDefEqProofs (disch:=omega) only [go_sem,↓reduceIte,reduceCtorEq,rA,rq,rL,Qk,YR,false_implies,true_and,and_true,cA,nA,lC,lN,List.getElem?_cons_zero,List.set_cons_zero,hlt,hD]))
   have hw5:IntKind.i64.wrap (((s.length+1:Nat):Int) - 1)=((s.length:Nat):Int):=by rw [QzE (by omega) (by omega)]; rfl
   refine Qbe (mvJ l s tg x i) (mvE l s tg x i) (m0:=s.length) ⟨t+1,t,lR _,by simp,?_⟩ (fun k fr σ hJ=>QAp hT hs hsl2 hJ) (fun e fr σ hE=>?_)
   ·simp -implicitDefEqProofs (disch:=omega) only [go_sem,↓reduceIte,reduceCtorEq,rq,and_true,hw5,QoE,mv_end]
   ·obtain ⟨t2,w2,rfl,f0,f4,f3,rfl⟩:=hE
    refine QcZ [(0,.lst 3 (prs l) tg),(4,.int .i64 ((i:Nat):Int)),(3,.sl 0 w2 0 3 (s.length+1) none)] ⟨f0,f4,f3,trivial⟩ 12 ?_
    refine yf ?_
    refine ⟨_,_,Shift.refl _ _ _ _,t2,w2,?_⟩
    rw [hst]
    have hpl:(put x s).length=s.length+1:=by
     have hp:∀ (x:Pr) (l:List Pr),(put x l).length=l.length+1:=by
      intro x l
      induction l with
      | nil=>rfl
      | cons y l ih=>unfold put; split <;> simp [ih]
     exact hp x s
    simp -implicitDefEqProofs (disch:=omega) only [go_sem,↓reduceIte,reduceCtorEq,rq,and_true,hpl]
 ·obtain ⟨t2,w,f0,f4,f3,rfl⟩:=hJ
  rw [hi,List.take_length] at f3
  rw [hi,List.take_length]
  refine Qe [(0,.lst 3 (prs l) tg),(4,.int .i64 ((i:Nat):Int)),(3,.sl 0 w 0 3 (srt l).length none)] ⟨f0,f4,f3,trivial⟩ 12 ?_
  simp -implicitDefEqProofs (disch:=omega) only [go_sem,↓reduceIte,reduceCtorEq,rq,Qk,true_and,hi,Nat.lt_irrefl]
  refine ⟨t2,w,?_⟩
  repeat' (first | exact rfl | refine ⟨rfl,?_⟩)
 ·obtain ⟨t2,w,rfl,f3,rfl⟩:=hE
  refine QV [(3,.sl 0 w 0 3 (srt l).length none)] ⟨f3,trivial⟩ 12 ?_
  refine ya ?_
  have hz:=QiN (k:=0) (w:=w) (srt l) []
  rw [List.append_nil] at hz
  refine ⟨0,w,28,_,rfl,X9 prC QjG _,?_,?_⟩
  ·rw [hz]; simp [Qd]
  ·rw [hz]; exact .refl _
end
section
attribute [local go_sem] nF nT aZ lR Nat.mul_one Nat.one_mul Nat.succ_ne_zero zA zL Nat.zero_mul Option.getD_none Option.getD_some Option.isSome_none Option.isSome_some beq_self_eq_true bne_self_eq_false decide_false decide_true ge_iff_le gt_iff_lt Qz Xy zq6_0 zq6_1 zq6_2 zq6_3 zq6_4 zq6_5 zq6_6 XH zq8_0 zq8_1 zq8_2 zq8_3 zq8_4 zq8_5 zq8_6 zq8_7 zq8_8 zq8_9
theorem Qle {k w:Nat} (l:List Pr):X8 k w (fl prC l) (.sl k w 0 3 l.length none)=.lst 3 (prs l) false:=by
 have:=QiN (k:=k) (w:=w) l []
 rwa [List.append_nil] at this
theorem Qja (hT:Qh P tab) (l:List Pr) (tg:Bool) (hl:l.length≤1000000):Am.Pure P G Z2 [.lst 3 (prs l) tg] fun u=>u=.lst 3 (prs l) false:=by
 refine Qli (fun t=>?_) (by simp [Qd])
 refine Q0 hT Qw (by simp [Xy]) (Ql 8 ?_)
 refine ya ?_
 refine Xf (n:=33) (Shift.own (s:=3) (z:=0) (sz:=3) (T:=28) (yb) (by decide)) ?_
 simp -implicitDefEqProofs (disch:=omega) only [go_sem,↓reduceIte,reduceCtorEq,rq,H.push]
 refine Qa 12 ?_
 refine ya ?_
 refine XS l (fun i fr σ=>∃ t w q,q=l.take i∧Qf fr 0=.lst 3 (prs l) tg∧Qf fr 4=.int .i64 ((i:Nat):Int)∧Qf fr 3=.sl 0 w 0 3 q.length none∧σ=⟨t,[some (.arr w 28 (fl prC q))]⟩)
  (fun e fr σ=>∃ t w q,e=.ex 0∧q=l∧Qf fr 3=.sl 0 w 0 3 q.length none∧σ=⟨t,[some (.arr w 28 (fl prC q))]⟩) ⟨t+1,t,[],by simp,?_⟩ (fun i x hx fr σ hJ=>?_) (fun i hi fr σ hJ=>?_) (fun e fr σ hE=>?_)
 ·refine yu ?_
  simp [fl]
 ·obtain ⟨t,w,q,hq,f0,f4,f3,rfl⟩:=hJ
  have hlt:=(List.getElem?_eq_some_iff.1 hx).1
  have hD:=QaW hx
  have e2:=YJ hlt (by omega)
  have hst:=Qy hx
  rw [← hq] at hst
  have hql:q.length≤1000000:=by rw [hq,List.length_take]; omega
  simp only [prV,prC] at hD
  refine Qe [(0,.lst 3 (prs l) tg),(4,.int .i64 ((i:Nat):Int)),(3,.sl 0 w 0 3 q.length none)] ⟨f0,f4,f3,trivial⟩  12 ?_
  simp -implicitDefEqProofs (disch:=omega) only [go_sem,↓reduceIte,reduceCtorEq,rq,Qk,hlt]
  iterate 12 (try (refine Qa 4 ?_; simp -implicitDefEqProofs (disch:=omega) only [go_sem,↓reduceIte,reduceCtorEq,rA,rq,rL,Qk,YR,true_implies,true_and,and_true,cA,nA,lC,lN,List.getElem?_cons_zero,List.set_cons_zero,QoE,hlt,hD,e2]))
  refine ⟨_,_,Shift.refl _ _ _ _,t+1,t,q++[x],hst.symm,?_⟩
  simp -implicitDefEqProofs (disch:=omega) only [go_sem,↓reduceIte,reduceCtorEq,rq,and_true,lA,lC,lN]
 ·obtain ⟨t,w,q,hq,f0,f4,f3,rfl⟩:=hJ
  refine Qe [(0,.lst 3 (prs l) tg),(4,.int .i64 ((i:Nat):Int)),(3,.sl 0 w 0 3 q.length none)] ⟨f0,f4,f3,trivial⟩  12 ?_
  simp -implicitDefEqProofs (disch:=omega) only [go_sem,↓reduceIte,reduceCtorEq,rq,Qk,true_and,hi,Nat.lt_irrefl]
  rw [hi,List.take_length] at hq
  refine ⟨t,w,q,hq,?_⟩
  repeat' (first | exact rfl | refine ⟨rfl,?_⟩)
 ·obtain ⟨t2,w,q,rfl,hq,f3,rfl⟩:=hE
  refine QV [(3,.sl 0 w 0 3 q.length none)] ⟨f3,trivial⟩ 12 ?_
  refine ya ?_
  rw [← hq]
  refine ⟨0,w,28,_,rfl,X9 prC QjG _,?_,?_⟩
  ·rw [Qle]; simp [Qd]
  ·rw [Qle]; exact .refl _
theorem QFp (hT:Qh P tab) (a b:List Pr) (ta tb:Bool) (ha:a.length≤1000000):Am.Pure P G QaF [.lst 3 (prs a) ta,.lst 3 (prs b) tb] fun u=>u=.bool (decide (a=b)):=by
 refine fun t=>Xq 0 (zL _) (Q0 hT YL (by simp [XH]) ?_)
 have hpl:=Qja (P:=P) (G:=G) hT a ta ha
 have hn:Qb [.lst 3 (prs a) ta]=true:=by simp [Qb,Qd]
 by_cases hlen:a.length=b.length
 ·have h1:(((a.length:Nat):Int) != ((b.length:Nat):Int))=false:=by simp [hlen]
  refine Ql 1000 ?_
  refine ya ?_
  refine QX hT Qw hpl hn 1000 ?_
  simp -implicitDefEqProofs (disch:=omega) only [go_sem,↓reduceIte,reduceCtorEq,rq,Qk,h1]
  refine XS a (fun i fr σ=>a.take i=b.take i∧Qf fr 1=.lst 3 (prs b) tb∧Qf fr 5=.lst 3 (prs a) false∧Qf fr 6=.int .i64 ((i:Nat):Int)∧σ=⟨t,[]⟩) (fun e fr σ=>(e=.ret∧a≠b∧Qf fr 4=.bool false)∨(e=.ex 0∧a=b)) ⟨by simp,?_⟩ (fun i x hx fr σ hJ=>?_) (fun i hi fr σ hJ=>?_) (fun e fr σ hE=>?_)
  ·refine yo ?_
   try simp
  ·obtain ⟨hok,f1,f5,f6,rfl⟩:=hJ
   have hlt:=(List.getElem?_eq_some_iff.1 hx).1
   obtain ⟨y,hy⟩:∃ y,b[i]?=some y:=⟨_,List.getElem?_eq_getElem (by omega)⟩
   have hltb:=(List.getElem?_eq_some_iff.1 hy).1
   have hD:=QaW hx
   have hDy:=QaW hy
   have e2:=YJ hlt (by omega)
   simp only [prV,prC] at hD hDy
   by_cases he:x=y
   ·have hE:(x.v==y.v&&(x.k==y.k&&x.n==y.n))=true:=by rw [Qmw]; exact decide_eq_true he
    refine Qe [(1,.lst 3 (prs b) tb),(5,.lst 3 (prs a) false),(6,.int .i64 ((i:Nat):Int))] ⟨f1,f5,f6,trivial⟩  12 ?_
    simp -implicitDefEqProofs (disch:=omega) only [go_sem,↓reduceIte,rq,Qk,hlt]
    iterate 12 (try (refine Qa 4 ?_; simp -implicitDefEqProofs (disch:=omega) only [go_sem,↓reduceIte,reduceCtorEq,rA,rq,Qk,false_implies,and_true,lC,lN,hlt,hD,hDy,hltb,hE,e2]))
    refine ⟨_,_,Shift.refl _ _ _ _,?_,?_⟩
    ·rw [Qy hx,Qy hy,hok,he]
    ·exact yg
   ·have hE:(x.v==y.v&&(x.k==y.k&&x.n==y.n))=false:=by rw [Qmw]; exact decide_eq_false he
    have hne:a≠b:=fun h=>he (by rw [h,hy] at hx; injection hx with hx; exact hx.symm)
    refine Qe [(1,.lst 3 (prs b) tb),(5,.lst 3 (prs a) false),(6,.int .i64 ((i:Nat):Int))] ⟨f1,f5,f6,trivial⟩  12 ?_
    simp -implicitDefEqProofs (disch:=omega) only [go_sem,↓reduceIte,rq,Qk,hlt]
    iterate 12 (try (refine Qa 4 ?_; simp -implicitDefEqProofs (disch:=omega) only [go_sem,↓reduceIte,reduceCtorEq,rA,rq,Qk,false_implies,true_and,and_true,lC,lN,hlt,hD,hDy,hltb,hE]))
    try exact hne
  ·obtain ⟨hok,f1,f5,f6,rfl⟩:=hJ
   refine Qe [(1,.lst 3 (prs b) tb),(5,.lst 3 (prs a) false),(6,.int .i64 ((i:Nat):Int))] ⟨f1,f5,f6,trivial⟩  12 ?_
   simp -implicitDefEqProofs (disch:=omega) only [go_sem,↓reduceIte,reduceCtorEq,rq,Qk,true_and,hi,Nat.lt_irrefl]
   rw [hi,List.take_length,hlen,List.take_length] at hok
   try exact hok
  ·rcases hE with ⟨rfl,hne,f4⟩ | ⟨rfl,he⟩
   ·refine Qa 12 ?_
    simp -implicitDefEqProofs (disch:=omega) only [go_sem,true_and,f4]
    try simp [hne]
   ·refine Qa 12 ?_
    refine yi ?_
    try simp [he]
 ·have h1:(((a.length:Nat):Int) != ((b.length:Nat):Int))=true:=by simp; omega
  have hne:a≠b:=fun h=>hlen (by rw [h])
  refine Ql 1000 ?_
  refine ya ?_
  refine QX hT Qw hpl hn 1000 ?_
  simp -implicitDefEqProofs (disch:=omega) only [go_sem,↓reduceIte,reduceCtorEq,rq,Qk,true_and,lN,h1]
  try simp [hne]
end
section
attribute [local go_sem] Bool.and_self Bool.and_true nF nT Bool.true_and aZ lR Nat.mul_one Nat.one_mul Nat.succ_ne_zero zA zL Nat.zero_mul Option.getD_none Option.getD_some Option.isSome_none Option.isSome_some and_true beq_self_eq_true bne_self_eq_false decide_false decide_true false_implies ge_iff_le gt_iff_lt Qz not_false_eq_true not_true_eq_false Qk true_and true_implies
def Works (P:Program) (G:Nat→Option V):Prop:=Am.Pure P G Xh [] fun u=>u=.bool true
end
end Go.Proofs.YtfgccihafnjalaaGreatDoor
