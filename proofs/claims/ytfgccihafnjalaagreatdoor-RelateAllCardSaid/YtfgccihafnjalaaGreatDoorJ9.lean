/- What an end holds, asked: a Sym is made where nothing is held. -/
import Derived.Test.YtfgccihafnjalaaGreatDoorJ8
import Derived.Test.YtfgccihafnjalaaGreatDoorY
open Nat renaming reduceEqDiff → rq, reduceAdd → rA, reduceLeDiff → rL, reduceLT → rT, zero_add → zA, le_refl → lR, zero_le → zL, add_zero → aZ
open List renaming length_cons → lC, length_nil → lN, take_succ_cons → tS, length_append → lA, nil_append → nA, cons_append → cA, append_assoc → aA, take_nil → tN, take_zero → tZ, length_map → lM
open Bool renaming not_false → nF, not_true → nT
namespace Go.Proofs.YtfgccihafnjalaaGreatDoor
open Go Go.Am Go.Re
set_option maxRecDepth 100000
variable {P:Program} {G:Nat→Option V}
set_option maxHeartbeats 2000000
section
attribute [local go_sem] nF nT aA cA List.drop_nil List.drop_succ_cons List.drop_zero lA lC lN nA tN tS tZ lR zA zL Option.getD_none Option.getD_some Option.isSome_none Option.isSome_some and_true false_implies Qkg QcM Qq8 Qq7 Qtd Qq6 Qtb Qta QjT Qmi Qmf YM QEp QEo QEn QEm QEl QEk QEj true_and true_implies
def tmN:Tm→Nd
 | .c n=>co n
 | .s b=>sy b
def hoV (L:List Nd) (H:List (Pr × Tm)):List (V × V):=H.map fun p=>(prV p.1,.int .i64 (Xc L (tmN p.2)))
def AllH (L:List Nd) (H:List (Pr × Tm)):Prop:=∀ p∈H,Hs L (tmN p.2)
theorem AllH.ext {L L':List Nd} {H:List (Pr × Tm)} (h:AllH L H) (e:Ext L L'):AllH L' H:=fun p hp=>(h p hp).ext e
variable {L:List Nd}
theorem Qyt {L':List Nd} {H:List (Pr × Tm)} (h:AllH L H) (e:Ext L L'):hoV L H=hoV L' H:=List.map_congr_left fun p hp=>by rw [Xm (h p hp) e]
theorem QpB (L:List Nd) (H:List (Pr × Tm)) (x:Pr):Qng [Kd.i,Kd.i,Kd.i] (V.agg [.int .i64 x.v,.int .u8 x.k,.int .i64 x.n]) (hoV L H)=(Re.get H x).map fun t=>.int .i64 (Xc L (tmN t)):=by
 show Qng [Kd.i,Kd.i,Kd.i] (prV x) (hoV L H)=_
 unfold Qng hoV Re.get
 induction H with
 | nil=>rfl
 | cons p H ih =>
   simp only [List.map_cons,List.find?_cons,Qoo]
   by_cases h:x=p.1
   ·subst h; simp
   ·have h':¬ p.1=x:=fun e=>h e.symm
    simp only [h,h',decide_false]
    exact ih
theorem QIy (L:List Nd) (H:List (Pr × Tm)) (x:Pr):QbQ true [Kd.i,Kd.i,Kd.i] (V.agg [.int .i64 x.v,.int .u8 x.k,.int .i64 x.n]) (hoV L H)=True:=by
 refine eq_true ⟨⟨rfl,rfl⟩,fun p hp=>?_⟩
 simp only [hoV,List.mem_map] at hp
 obtain ⟨b,_,rfl⟩:=hp
 exact ⟨rfl,rfl⟩
theorem QE6 (L:List Nd) (H:List (Pr × Tm)) (x:Pr) (t:Tm) (h:Re.get H x=none):Qnf [Kd.i,Kd.i,Kd.i] (V.agg [.int .i64 x.v,.int .u8 x.k,.int .i64 x.n]) (.int .i64 (Xc L (tmN t))) (hoV L H)=hoV L (H++[(x,t)]):=by
 show Qnf [Kd.i,Kd.i,Kd.i] (prV x) _ (hoV L H)=_
 have h':=QuA.1 h
 clear h
 unfold hoV
 induction H with
 | nil=>rfl
 | cons p H ih =>
   simp only [List.map_cons,Qnf,Qoo,cA]
   have hp:¬ x=p.1:=fun e=>h' p (by simp) e.symm
   simp only [hp,decide_false,Bool.false_eq_true,if_false]
   rw [ih fun q hq=>h' q (by simp [hq])]
theorem AllH.snoc {H:List (Pr × Tm)} (h:AllH L H) {x:Pr} {t:Tm} (ht:Hs L (tmN t)):AllH L (H++[(x,t)]):=fun p hp=>by
 rcases List.mem_append.1 hp with hp | hp
 ·exact h p hp
 ·simp at hp; subst hp; exact ht
def frX (v0 wg wb wu wp wm wh:Nat) (y:Nat→Option Ob) (up:List (Pr × Pr)) (L:List Nd) (H:List (Pr × Tm)) (b:Int):List (Option Ob):=[some (.arr wg 41 [.ptr 1 v0 0]),y 6,y 7,y 8,y 9,y 10,y 11,y 12,y 13,y 14,y 15,some (.arr wb 2 [.int .i64 b]),y 17,y 18,some (.map wu (upV up)),some (.arr wp 96 [.mp 19 wu]),y 21,some (.map wm (hoV L H)),some (.arr wh 101 [.mp 22 wm]),y 24]
theorem QyX (hT:Qh P tab) (F:Fmt P G) {v0 v1 v2 v3 v4 wg wb wu wp wm wh t:Nat} {y:Nat→Option Ob} {up:List (Pr × Pr)} {H:List (Pr × Tm)} {b:Int} (hf:Fst up) (hA:AllH L H) (hb:0≤b∧b≤2199023255552) (hL:L.length≤100000) (e:Pr) :
 C P G 0 Qah [prV e,.ptr 20 wp 0,.ptr 23 wh 0,.ptr 5 wg 0,.ptr 16 wb 0] ⟨t,kG F.fmt v0 v1 v2 v3 v4 L++frX v0 wg wb wu wp wm wh y up L H b⟩ fun v σ=>∃ tm L' t' v2' v3' v4',Re.get (ofT up (H,b) e).1 (Qi up e)=some tm∧Ext L L'∧L'.length≤L.length+1∧AllH L' (ofT up (H,b) e).1∧Hs L' (tmN tm)∧t≤t'∧v=.int .i64 (Xc L' (tmN tm))∧σ=⟨t',kG F.fmt v0 v1 v2' v3' v4' L'++frX v0 wg wb wu wp wm wh y up L' (ofT up (H,b) e).1 (ofT up (H,b) e).2⟩:=by
 refine Xq 25 (zL _) (Q0 hT QT (by simp [YM]) (Ql 1000 ?_))
 simp only [prV,prC,frX]
 refine ya ?_
 refine call hT Qs (QoI hT hf e (k:=19) (w:=wu) (base:=0) (by simp only [Qbc,lC]; omega) rfl (zL _)) 1000 fun v σ hv=>?_
 obtain ⟨rfl,t1,ht1,rfl⟩:=hv
 have hkk:=fun (L:List Nd)=>QIy L H (Qi up e)
 have hnl:Qd (V.agg [.int .i64 (Qi up e).v,.int .u8 (Qi up e).k,.int .i64 (Qi up e).n])=true:=rfl
 simp only [prV,prC]
 cases hg:Re.get H (Qi up e) with
 | some tm =>
   have ho:=QpB L H (Qi up e)
   rw [hg,Option.map_some] at ho
   have hof:ofT up (H,b) e=(H,b):=by unfold ofT; rw [hg]; rfl
   have hmem:Hs L (tmN tm):=by
    unfold Re.get at hg
    cases hfi:H.find? fun x=>decide (x.1=Qi up e) with
    | none=>rw [hfi] at hg; simp at hg
    | some p=>rw [hfi] at hg; simp at hg; subst hg; exact hA p (List.mem_of_find?_eq_some hfi)
   simp -implicitDefEqProofs (disch:=omega) only [go_sem,↓reduceIte,reduceCtorEq,rA,rq,rL,rT,ho,hkk]
   rw [hof]
   first | exact ⟨tm,L,_,v2,v3,v4,hg,Ext.refl L,by omega,hA,hmem,by omega,rfl,rfl,rfl⟩ | exact ⟨tm,L,_,v2,v3,v4,hg,Ext.refl L,by omega,hA,hmem,by omega,rfl,rfl⟩
 | none =>
   have ho:=QpB L H (Qi up e)
   rw [hg,Option.map_none] at ho
   have hof:ofT up (H,b) e=(H++[(Qi up e,.s b)],b+1):=by unfold ofT; rw [hg]; rfl
   have hg2:Re.get (H++[(Qi up e,Tm.s b)]) (Qi up e)=some (.s b):=by rw [Qf4 hg,if_pos rfl]
   have e1:IntKind.i64.wrap (b+1)=b+1:=QcU (by omega)
   simp -implicitDefEqProofs (disch:=omega) only [go_sem,↓reduceIte,reduceCtorEq,rA,rq,rT,ho,hkk]
   repeat' (first | with_reducible refine And.intro ?_ ?_)
   all_goals (
    refine call hT Qbr (Qyi hT F (n:=b) (by unfold i64; omega) hb.1 (by omega)) 1000 fun v σ hv=>?_
    obtain ⟨L2,t2,w2,w3,w4,x1,x2,x3,x4,rfl,rfl⟩:=hv
    have hput:=QE6 L2 H (Qi up e) (.s b) hg
    have ho2:=QpB L2 (H++[(Qi up e,Tm.s b)]) (Qi up e)
    have hk2:=QIy L2 (H++[(Qi up e,Tm.s b)]) (Qi up e)
    rw [hg2,Option.map_some] at ho2
    simp only [tmN] at hput ho2
    rw [Qyt hA x1]
    simp -implicitDefEqProofs (disch:=omega) only [go_sem,↓reduceIte,reduceCtorEq,rA,rq,rL,hkk,hk2,hput,ho2,hnl,e1]
    rw [hof]
    exact ⟨.s b,L2,_,w2,w3,w4,hg2,x1,x3,(hA.ext x1).snoc x2,x2,by omega,rfl,rfl,rfl⟩)
end
theorem QxR (r:Nat→Nat) (L:List Nd) (b:Int) (k:Nat):Qbs r (Qdn L b k)=Qdn L b k:=by
 unfold Qdn
 induction (List.range 32) with
 | nil=>rfl
 | cons x l ih=>rw [List.map_cons,Qbs,ih]; rfl
theorem Qvo (r:Nat→Nat) (L:List Nd) (b:Int) (k:Nat):Qbs r (Y8 L b k)=Y8 L b k:=by
 unfold Y8
 induction (List.range k) with
 | nil=>rfl
 | cons x l ih=>rw [List.map_cons,Qbs,ih]; rfl
theorem Qug (r:Nat→Nat):∀ a b:List V,Qbs r (a++b)=Qbs r a++Qbs r b
 | [],b=>by simp [Qbs]
 | x::a,b=>by rw [cA,Qbs,Qbs,Qug r a b]; rfl
theorem fn_nl (m:Nat):Qb (fnC m)=true:=by simp [fnC,Qb,Qd]
theorem QFb (r:Nat→Nat) (m:Nat):Qbs r (fnC m)=fnC m:=Q5 _ (fn_nl m)
theorem QFa (k m:Nat):XC k (fnC m)=true:=Qx _ (fn_nl m)
theorem QuS (hT:Qh P tab) (F:Fmt P G) {v0 v1 v2 v3 v4 t:Nat} {L:List Nd} (m:Nat) (hm:m≤4) (params next:Int) (hn:next≤1099511627776) (hL:L.length≤10000) (ex:List (Option Ob)) :
 C P G 0 Qfp [.ptr 1 v0 0,.agg (fnC m),.int .i64 params,.int .i64 next] ⟨t,kG F.fmt v0 v1 v2 v3 v4 L++ex⟩ fun v σ=>∃ L' t' v2' v3' v4' ws,Ext L L'∧L'.length≤L.length+60∧AllR L' (max 0 next) 32∧AllS L' (max 0 next) (Zk m params) ∧
   v=.tup [.agg (stC L' (max 0 next) 32 (.sl (10+ex.length) ws 0 1 (Zk m params) none) (decide (m=0))),.int .i64 (max 0 next+30+(Zk m params:Nat))]∧σ=⟨t',kG F.fmt v0 v1 v2' v3' v4' L'++(ex++[none,none,none,none,none,some (.arr ws 44 (Y8 L' (max 0 next) (Zk m params)))])⟩:=by
 refine Qjj [0,1,2,3,4] (QJb hT F (v0:=v0) (v1:=v1) (v2:=v2) (v3:=v3) (v4:=v4) m hm params next hn hL) rfl (by decide) ?_ ?_ ?_ (zL _) ?_ ?_ fun v σ hv=>?_
 ·simp [Qnu,kG]
 ·simp [Qmq,kG,Ob.under,XC,V.under,Ob.ren,Qbs,V.ren,rOf,YQ,Qat,Zj,Qdd,QbP,-List.all_eq_true,Qaj]
 ·simp [Qzv]
 ·simp [XC,V.under,QFa,kG]
 ·simp only [Qbs,V.ren,QFb]
  simp [rOf]
 ·obtain ⟨L',t',v2',v3',v4',ws,h1,h2,h3,h4,rfl,rfl⟩:=hv
  refine ⟨by simp [kG],L',t',v2',v3',v4',ws,h1,h2,h3,h4,?_,?_⟩
  ·simp only [V.ren,Qbs,stC,Qug,QxR]
   simp [rOf,kG]
   omega
  ·simp [QbJ,Qa9,kG,Ob.ren,Qbs,V.ren,rOf,YQ,Qat,Zj,Qvo]
section
attribute [local go_sem] lA lC lN tN tS lR zA ga0 YN QEJ QEI
theorem XK (o z:List (Option Ob)):Xw o (o++z):=by
 have:=Z6 o.length (o++z)
 rwa [List.take_left'] at this
 rfl
theorem QsE (hT:Qh P tab) {o:List (Option Ob)} {wv w15:Nat} {vars:Int} {cnt:Nat} {L:List Nd} {b:Int} {k j w14:Nat} {sure:Bool} (h6:o[6]?=some (some (.arr wv 3 [.int .i64 vars]))) (h15:o[15]?=some (some (.arr w15 47 (stC L b k (.sl j w14 0 1 cnt none) sure)))) (l:List Pr) :
 QuW P G 0 (.fn (.func Qc9) [] [.ptr 6 wv 0,.ptr 15 w15 0]) o (fun p=>!QQ vars cnt p) l:=fun t p hp=>by
 have g6:∀ l:List (Option Ob),(o++l)[6]?=some (some (.arr wv 3 [.int .i64 vars])):=fun l=>by rw [List.getElem?_append_left (List.getElem?_eq_some_iff.1 h6).1,h6]
 have g15:∀ l:List (Option Ob),(o++l)[15]?=some (some (.arr w15 47 (stC L b k (.sl j w14 0 1 cnt none) sure))):=fun l=>by rw [List.getElem?_append_left (List.getElem?_eq_some_iff.1 h15).1,h15]
 have hth:=QI5 (P:=P) (G:=G) hT p vars cnt
 have htk:∀ l:List (Option Ob),List.take o.length (o++l)=o:=fun l=>by simp
 have hl:=QgN L b k (.sl j w14 0 1 cnt none) sure
 simp only [prV,prC] at hth ⊢
 refine CV.of hT QcX (Xq o.length (zL _) (Q0 hT QcX (by simp [YN]) (Ql 1000 ?_)))
 simp -implicitDefEqProofs (disch:=omega) only [go_sem,↓reduceIte,reduceCtorEq,rA,rq,rL,List.getElem?_cons_zero,g6,g15,hl]
 refine QX hT Qgr hth rfl 1000 ?_
 simp -implicitDefEqProofs (disch:=omega) only [go_sem,↓reduceIte,reduceCtorEq,rq,htk]
 exact ⟨by omega,_,by omega,rfl⟩
end
section
attribute [local go_sem] nF nT aA cA List.drop_nil List.drop_succ_cons List.drop_zero lA lC lN nA List.set_cons_succ List.set_cons_zero tN tS tZ aZ lR Nat.mul_one Nat.one_mul Nat.succ_ne_zero zA zL Nat.zero_mul Option.getD_none Option.getD_some Option.isSome_none Option.isSome_some and_true beq_self_eq_true bne_self_eq_false decide_false decide_true false_implies YR ge_iff_le gt_iff_lt Qnz Qkg Qnh Qsl QAB QAA Qeb QcM Qbc QgB QdB Qg0 Qh2 Qny Qnx Qrc Qrb Qra Qtf Qq9 Qq8 Qnw Qnv QvC Qq7 Qte Qtd Qq6 Qtc Qtb Qta QvB QvA QjW QjV QjU Qml Qmk QjT QjS QjR QoA Qmj Qoz Qmi Qmh Qmg Qoy Qmf Qox Qow Qai Qz not_false_eq_true not_true_eq_false relate_Fresh QoY QoX QhC QhB Qgp QhA Qhz Qhy Qhx Qhw Qhv Qhu QoW Qht QeN QdZ QeM QeL QeK Qhs Qci QcT QcS QoV QcR QcQ QcP QcO QcN Qjo QoU QoT Qni QoS QoR QoQ true_and true_implies
def frA (v0 wg wb wu wp w21:Nat) (y:Nat→Option Ob) (up:List (Pr × Pr)) (ps:List Pr) (cells:List V) (b:Int):List (Option Ob):=[some (.arr wg 41 [.ptr 1 v0 0]),y 6,y 7,y 8,y 9,y 10,y 11,y 12,y 13,y 14,y 15,some (.arr wb 2 [.int .i64 b]),y 17,y 18,some (.map wu (upV up)),some (.arr wp 96 [.mp 19 wu]),some (.arr w21 64 (fl prC ps++cells))]
theorem QyB (hT:Qh P tab) {fmt:Int→List UInt8} {v0 v1 v2 v3 v4 wg wb wu wp w21 w8 kW wW t i:Nat} {y:Nat→Option Ob} {up:List (Pr × Pr)} {ps:List Pr} {cells:List V} {b:Int} {L:List Nd} {x:Pr} (hf:Fst up) (hl:ps.length≤1000) (hx:ps[i]?=some x) :
 W P G 157 0 wC [(1,.sl 21 w21 0 3 ps.length none),(6,.ptr 5 wg 0),(12,.ptr 8 w8 0),(15,.ptr 16 wb 0),(16,.ptr kW wW 0),(17,.ptr 20 wp 0),(49,.sl 21 w21 0 3 ps.length none),(50,.int .i64 ((ps.length:Nat):Int)),(51,.int .i64 ((i:Nat):Int))] ⟨t,kG fmt v0 v1 v2 v3 v4 L++frA v0 wg wb wu wp w21 y up ps cells b⟩
   (YH (fun fr σ=>∃ fr' σ',Shift G 157 0 fr σ fr' σ'∧QH fr' [(1,.sl 21 w21 0 3 ps.length none),(6,.ptr 5 wg 0),(12,.ptr 8 w8 0),(15,.ptr 16 wb 0),(16,.ptr kW wW 0),(17,.ptr 20 wp 0),(49,.sl 21 w21 0 3 ps.length none),(50,.int .i64 ((ps.length:Nat):Int)),(51,.int .i64 ((i+1:Nat):Int))]∧∃ t',σ'=⟨t',kG fmt v0 v1 v2 v3 v4 L++frA v0 wg wb wu wp w21 y (joinL up (vE x.v) (pE x)) ps cells b⟩) fun e fr σ=>False):=by
 have hlt:=(List.getElem?_eq_some_iff.1 hx).1
 have hD:=ZJ hx cells
 have hsz:i * 3+3≤ps.length * 3+cells.length:=by omega
 have e2:=YJ hlt (by omega)
 simp only [frA] at hD ⊢
 refine Ql 12 ?_
 refine yc ?_
 iterate 10 (try (refine Qa 4 ?_; simp -implicitDefEqProofs (disch:=omega) only [go_sem,↓reduceIte,reduceCtorEq,rA,rq,rL,hD,hsz]))
 refine call hT X0 (c_join hT hf (vE x.v) (pE x) (k:=19) (w:=wu) (base:=0) (by simp only [Qbc,lC]; omega) (zL _) rfl) 12 fun v σ hv=>?_
 obtain ⟨rfl,t1,ht1,rfl⟩:=hv
 refine ya ?_
 iterate 10 (try (refine Qa 4 ?_; simp -implicitDefEqProofs (disch:=omega) only [go_sem,↓reduceIte,reduceCtorEq,rA,rq,rL,rT,Nat.reduceSub,Nat.reduceMul,Int.reduceToNat,Int.reduceLE,Int.reduceLT,Int.reduceEq,Int.reduceNe,Nat.reduceBEq,Nat.reduceBNe,Int.reduceBEq,List.getElem?_cons_zero,List.getElem?_cons_succ,e2]))
 refine ⟨_,_,Shift.drop (o':=kG fmt v0 v1 v2 v3 v4 L++frA v0 wg wb wu wp w21 y (joinL up (vE x.v) (pE x)) ps cells b) (t':=t1) ?_ (lR _) (zL _),?_,t1,?_⟩
 ·exact XK (kG fmt v0 v1 v2 v3 v4 L++frA v0 wg wb wu wp w21 y (joinL up (vE x.v) (pE x)) ps cells b) [_]
 ·simp only [QH]; simp -implicitDefEqProofs (disch:=omega) only [go_sem,↓reduceIte,rq,e2]
 ·rfl
end
section
attribute [local go_sem] nF nT aA cA List.drop_nil List.drop_succ_cons List.drop_zero lA lC lN nA List.set_cons_succ List.set_cons_zero tN tS tZ aZ lR Nat.mul_one Nat.one_mul Nat.succ_ne_zero zA zL Nat.zero_mul Option.getD_none Option.getD_some Option.isSome_none Option.isSome_some and_true beq_self_eq_true bne_self_eq_false decide_false decide_true false_implies YR ge_iff_le gt_iff_lt Qnz Qkg Qnh Qsl QAB QAA Qeb QcM Qbc QgB QdB Qg0 Qh2 Qny Qnx Qrc Qrb Qra Qtf Qq9 Qq8 Qnw Qnv QvC Qq7 Qte Qtd Qq6 Qtc Qtb Qta QvB QvA QjW QjV QjU Qml Qmk QjT QjS QjR QoA Qmj Qoz Qmi Qmh Qmg Qoy Qmf Qox Qow Qai Qz not_false_eq_true not_true_eq_false relate_Fresh QoY QoX QhC QhB Qgp QhA Qhz Qhy Qhx Qhw Qhv Qhu QoW Qht QeN QdZ QeM QeL QeK Qhs Qci QcT QcS QoV QcR QcQ QcP QcO QcN Qjo QoU QoT Qni QoS QoR QoQ true_and true_implies
def frH (wm wh:Nat) (L:List Nd) (H:List (Pr × Tm)):List (Option Ob):=[some (.map wm (hoV L H)),some (.arr wh 101 [.mp 22 wm])]
theorem QyA (hT:Qh P tab) (F:Fmt P G) {v0 v1 v2 v3 v4 wg wb wu wp wm wh w21 w8 kW wW t i:Nat} {y:Nat→Option Ob} {up:List (Pr × Pr)} {ps:List Pr} {cells:List V} {b:Int} {L:List Nd} {H:List (Pr × Tm)} {x:Pr} (hf:Fst up) (hl:ps.length≤1000) (hx:ps[i]?=some x) (hL:L.length≤100000) (hA:AllH L H) (hxn:i64 x.n) :
 W P G 157 0 wB [(1,.sl 21 w21 0 3 ps.length none),(6,.ptr 5 wg 0),(12,.ptr 8 w8 0),(15,.ptr 16 wb 0),(16,.ptr kW wW 0),(17,.ptr 20 wp 0),(20,.ptr 23 wh 0),(65,.sl 21 w21 0 3 ps.length none),(66,.int .i64 ((ps.length:Nat):Int)),(67,.int .i64 ((i:Nat):Int))] ⟨t,kG F.fmt v0 v1 v2 v3 v4 L++(frA v0 wg wb wu wp w21 y up ps cells b++frH wm wh L H)⟩
   (YH (fun fr σ=>∃ fr' σ',Shift G 157 0 fr σ fr' σ'∧QH fr' [(1,.sl 21 w21 0 3 ps.length none),(6,.ptr 5 wg 0),(12,.ptr 8 w8 0),(15,.ptr 16 wb 0),(16,.ptr kW wW 0),(17,.ptr 20 wp 0),(20,.ptr 23 wh 0),(65,.sl 21 w21 0 3 ps.length none),(66,.int .i64 ((ps.length:Nat):Int)),(67,.int .i64 ((i+1:Nat):Int))]∧∃ L' t' v2' v3' v4',Ext L L'∧L'.length≤L.length+1∧AllH L' (QaX up H x)∧σ'=⟨t',kG F.fmt v0 v1 v2' v3' v4' L'++(frA v0 wg wb wu wp w21 y up ps cells b++frH wm wh L' (QaX up H x))⟩) fun e fr σ=>False):=by
 have hlt:=(List.getElem?_eq_some_iff.1 hx).1
 have hD:=ZJ hx cells
 have hsz:i * 3+3≤ps.length * 3+cells.length:=by omega
 have e2:=YJ hlt (by omega)
 simp only [frA,frH,cA,nA] at hD ⊢
 refine Ql 12 ?_
 refine yc ?_
 iterate 10 (try (refine Qa 4 ?_; simp -implicitDefEqProofs (disch:=omega) only [go_sem,↓reduceIte,reduceCtorEq,rA,rq,rL,hD,hsz]))
 refine call hT Qs (QoI hT hf (vE x.v) (k:=19) (w:=wu) (base:=0) (by simp only [Qbc,lC]; omega) rfl (zL _)) 12 fun v σ hv=>?_
 obtain ⟨rfl,t1,ht1,rfl⟩:=hv
 have hkk:=fun (L:List Nd)=>QIy L H (Qi up (vE x.v))
 have ho:=QpB L H (Qi up (vE x.v))
 have hnl:Qd (V.agg [.int .i64 (Qi up (vE x.v)).v,.int .u8 (Qi up (vE x.v)).k,.int .i64 (Qi up (vE x.v)).n])=true:=rfl
 simp only [prV,prC]
 simp -implicitDefEqProofs (disch:=omega) only [go_sem,↓reduceIte,reduceCtorEq,rA,rq,rT,hkk]
 cases hg:Re.get H (Qi up (vE x.v)) with
 | some tm =>
   rw [hg,Option.map_some] at ho
   have hst:QaX up H x=H:=by unfold QaX; rw [hg]; simp
   rw [hst]
   iterate 10 (try (refine Qa 4 ?_; simp -implicitDefEqProofs (disch:=omega) only [go_sem,↓reduceIte,rq,ho]))
   iterate 10 (try (refine Qa 4 ?_; simp -implicitDefEqProofs (disch:=omega) only [go_sem,↓reduceIte,reduceCtorEq,rA,rq,rL,rT,Nat.reduceSub,Nat.reduceMul,Int.reduceToNat,Int.reduceLE,Int.reduceLT,Int.reduceEq,Int.reduceNe,Nat.reduceBEq,Nat.reduceBNe,Int.reduceBEq,List.getElem?_cons_zero,List.getElem?_cons_succ,ho,hkk,e2]))
   refine ⟨_,_,Shift.drop (o':=kG F.fmt v0 v1 v2 v3 v4 L++(frA v0 wg wb wu wp w21 y up ps cells b++frH wm wh L H)) (XK (kG F.fmt v0 v1 v2 v3 v4 L++(frA v0 wg wb wu wp w21 y up ps cells b++frH wm wh L H)) [_,_]) (lR _) (zL _),?_,L,_,v2,v3,v4,Ext.refl L,by omega,hA,rfl⟩
   simp only [QH]; simp -implicitDefEqProofs (disch:=omega) only [go_sem,↓reduceIte,rq,e2]
 | none =>
   rw [hg,Option.map_none] at ho
   by_cases h3:x.k=3
   ·have h3':(x.k==3)=true:=by simp [h3]
    have hst:QaX up H x=H++[(Qi up (vE x.v),.c x.n)]:=by unfold QaX; rw [hg]; simp [h3]
    rw [hst]
    iterate 10 (try (refine Qa 4 ?_; simp -implicitDefEqProofs (disch:=omega) only [go_sem,↓reduceIte,rA,rq,rL,ho,h3']))
    have hput:=fun (L:List Nd)=>QE6 L H (Qi up (vE x.v)) (.c x.n) hg
    simp only [tmN] at hput
    obtain ⟨H2,hH2⟩:∃ H2,H2=H++[(Qi up (vE x.v),Tm.c x.n)]:=⟨_,rfl⟩
    simp only [← hH2] at hput ⊢
    repeat' (first | with_reducible refine And.intro ?_ ?_ | (refine Qa 12 ?_; simp -implicitDefEqProofs (disch:=omega) only [go_sem,↓reduceIte,reduceCtorEq,rA,rq]))
    all_goals
     refine call hT XD (QdA hT F (L:=L) hxn (by omega)) 12 fun v σ hv=>?_
     obtain ⟨L2,t2,w2,w3,w4,x1,x2,x3,x4,rfl,rfl⟩:=hv
     have hk2:=Qyt hA x1
     have hkk2:=hkk L2
     simp -implicitDefEqProofs (disch:=omega) only [go_sem,↓reduceIte,reduceCtorEq,rA,rq,hkk,hput,hnl,hk2]
     iterate 10 (try (refine Qa 4 ?_; simp -implicitDefEqProofs (disch:=omega) only [go_sem,↓reduceIte,reduceCtorEq,rA,rq,rL,rT,Nat.reduceSub,Nat.reduceMul,Int.reduceToNat,Int.reduceLE,Int.reduceLT,Int.reduceEq,Int.reduceNe,Nat.reduceBEq,Nat.reduceBNe,Int.reduceBEq,List.getElem?_cons_zero,List.getElem?_cons_succ,hkk,hput,hnl,hk2]))
     refine ⟨_,_,Shift.drop (o':=kG F.fmt v0 v1 w2 w3 w4 L2++(frA v0 wg wb wu wp w21 y up ps cells b++frH wm wh L2 H2)) (XK (kG F.fmt v0 v1 w2 w3 w4 L2++(frA v0 wg wb wu wp w21 y up ps cells b++frH wm wh L2 H2)) [_,_]) (lR _) (zL _),?_,L2,_,w2,w3,w4,x1,x3,hH2▸(hA.ext x1).snoc x2,rfl⟩
     simp only [QH]; simp -implicitDefEqProofs (disch:=omega) only [go_sem,↓reduceIte,rq,e2]
   ·have h3':(x.k==3)=false:=by simpa using h3
    have hst:QaX up H x=H:=by unfold QaX; rw [hg]; simp [h3]
    rw [hst]
    iterate 10 (try (refine Qa 4 ?_; simp -implicitDefEqProofs (disch:=omega) only [go_sem,↓reduceIte,rA,rq,rL,ho,h3']))
    iterate 10 (try (refine Qa 4 ?_; simp -implicitDefEqProofs (disch:=omega) only [go_sem,↓reduceIte,reduceCtorEq,rA,rq,rL,rT,Nat.reduceSub,Nat.reduceMul,Int.reduceToNat,Int.reduceLE,Int.reduceLT,Int.reduceEq,Int.reduceNe,Nat.reduceBEq,Nat.reduceBNe,Int.reduceBEq,List.getElem?_cons_zero,List.getElem?_cons_succ,ho,hkk,h3',e2]))
    refine ⟨_,_,Shift.drop (o':=kG F.fmt v0 v1 v2 v3 v4 L++(frA v0 wg wb wu wp w21 y up ps cells b++frH wm wh L H)) (XK (kG F.fmt v0 v1 v2 v3 v4 L++(frA v0 wg wb wu wp w21 y up ps cells b++frH wm wh L H)) [_,_]) (lR _) (zL _),?_,L,_,v2,v3,v4,Ext.refl L,by omega,hA,rfl⟩
    simp only [QH]; simp -implicitDefEqProofs (disch:=omega) only [go_sem,↓reduceIte,rq,e2]
end
section
attribute [local go_sem] nF nT aA cA List.drop_nil List.drop_succ_cons List.drop_zero lA lC lN nA List.set_cons_succ List.set_cons_zero tN tS tZ aZ lR Nat.mul_one Nat.one_mul Nat.succ_ne_zero zA zL Nat.zero_mul Option.getD_none Option.getD_some Option.isSome_none Option.isSome_some and_true beq_self_eq_true bne_self_eq_false decide_false decide_true false_implies YR ge_iff_le gt_iff_lt Qnz Qkg Qnh Qsl QAB QAA Qeb QcM Qbc QgB QdB Qg0 Qh2 Qny Qnx Qrc Qrb Qra Qtf Qq9 Qq8 Qnw Qnv QvC Qq7 Qte Qtd Qq6 Qtc Qtb Qta QvB QvA QjW QjV QjU Qml Qmk QjT QjS QjR QoA Qmj Qoz Qmi Qmh Qmg Qoy Qmf Qox Qow Qai Qz not_false_eq_true not_true_eq_false relate_Fresh QoY QoX QhC QhB Qgp QhA Qhz Qhy Qhx Qhw Qhv Qhu QoW Qht QeN QdZ QeM QeL QeK Qhs Qci QcT QcS QoV QcR QcQ QcP QcO QcN Qjo QoU QoT Qni QoS QoR QoQ true_and true_implies
def ZV (L:List Nd) (up:List (Pr × Pr)) (H:List (Pr × Tm)) (e:Pr):Int:=match Re.get H (Qi up e) with | some t=>Xc L (tmN t) | none=>0
variable {t:Tm} {e r:Pr} {L L':List Nd}
theorem XZ {up:List (Pr × Pr)} {H:List (Pr × Tm)} (h:Re.get H (Qi up e)=some t):ZV L up H e=Xc L (tmN t):=by unfold ZV; rw [h]
theorem get_mem {H:List (Pr × Tm)} (h:Re.get H r=some t):∃ p∈H,p.2=t:=by
 unfold Re.get at h
 cases hfi:H.find? fun x=>decide (x.1=r) with
 | none=>rw [hfi] at h; simp at h
 | some p=>rw [hfi] at h; simp at h; exact ⟨p,List.mem_of_find?_eq_some hfi,h⟩
theorem AllH.get {H:List (Pr × Tm)} (hA:AllH L H) (h:Re.get H r=some t):Hs L (tmN t):=by
 obtain ⟨p,hp,rfl⟩:=get_mem h; exact hA p hp
variable {S:List (Pr × Tm) × Int}
theorem Qmp {up:List (Pr × Pr)} (hA:AllH L S.1) (hE:Ext L L') (h:(Re.get S.1 (Qi up e)).isSome) (f:Pr):ZV L' up (ofT up S f).1 e=ZV L up S.1 e:=by
 obtain ⟨t,ht⟩:=Option.isSome_iff_exists.1 h
 rw [XZ ht,XZ (Quo up S f ht),Xm (hA.get ht) hE]
def YG (L:List Nd) (up:List (Pr × Pr)) (H:List (Pr × Tm)) (i n:Nat):List V:=(List.range n).map fun j:Nat=>.int .i64 (if j<i then ZV L up H (vE ((j:Nat):Int)) else 0)
theorem QkS (L:List Nd) (up:List (Pr × Pr)) (H:List (Pr × Tm)) (i n:Nat):(YG L up H i n).length=n:=by simp [YG]
theorem Qxm (L:List Nd) (up:List (Pr × Pr)) (H:List (Pr × Tm)) (i n:Nat) (j:Nat) (h:j<(YG L up H i n).length):(YG L up H i n)[j]=.int .i64 (if j<i then ZV L up H (vE ((j:Nat):Int)) else 0):=by
 have h':j<((List.range n).map fun j:Nat=>V.int .i64 (if j<i then ZV L up H (vE ((j:Nat):Int)) else 0)).length:=h
 show ((List.range n).map fun j:Nat=>V.int .i64 (if j<i then ZV L up H (vE ((j:Nat):Int)) else 0))[j]'h'=_
 rw [List.getElem_map,List.getElem_range]
variable {i n:Nat}
theorem Qt4 {up:List (Pr × Pr)} (hi:i<n) (hA:AllH L S.1) (hE:Ext L L') (h:∀ j,j<i→(Re.get S.1 (Qi up (vE ((j:Nat):Int)))).isSome) (f:Pr) {x:Int} (hx:x=ZV L' up (ofT up S f).1 (vE ((i:Nat):Int))) :
 (YG L up S.1 i n).take i++V.int .i64 x::(YG L up S.1 i n).drop (i+1)=YG L' up (ofT up S f).1 (i+1) n:=by
 have e:(YG L up S.1 i n).take i++V.int .i64 x::(YG L up S.1 i n).drop (i+1)=(YG L up S.1 i n).set i (.int .i64 x):=by
  rw [List.set_eq_take_append_cons_drop,if_pos (by rw [QkS]; exact hi)]
 rw [e]
 refine List.ext_getElem (by simp [YG]) fun j h1 h2=>?_
 rw [List.length_set,QkS] at h1
 rw [List.getElem_set]
 rw [Qxm,Qxm]
 by_cases hj:i=j
 ·subst hj; rw [if_pos rfl,if_pos (by omega),hx]
 ·rw [if_neg hj]
  by_cases hlt:j<i
  ·rw [if_pos hlt,if_pos (by omega),Qmp hA hE (h j hlt) f]
  ·rw [if_neg hlt,if_neg (by omega)]
def yW (y:Nat→Option Ob) (kV kW:Nat) (vr wo:Option Ob):Nat→Option Ob:=fun i=>if i=kV then vr else if i=kW then wo else y i
abbrev ofV (wp wh wg wb:Nat):V:=.fn (.func Qah) [] [.ptr 20 wp 0,.ptr 23 wh 0,.ptr 5 wg 0,.ptr 16 wb 0]
theorem Qyz (hT:Qh P tab) (F:Fmt P G) {v0 v1 v2 v3 v4 wg wb wu wp wm wh w21 nps w8 kV kW wV wW t:Nat} {y:Nat→Option Ob} {rest:List V} {up:List (Pr × Pr)} {b:Int} {H:List (Pr × Tm)}
 (hk:kV=17∧kW=18∨kV=18∧kW=17) (hf:Fst up) (hA:AllH L H) (hb:0≤b∧b≤2199023255552) (hL:L.length≤100000) (hi:i<n) (hn:n≤10) (hr:rest.length=35) (hall:∀ j,j<i→(Re.get H (Qi up (vE ((j:Nat):Int)))).isSome) :
 W P G 157 0 we [(1,.sl 21 w21 0 3 nps none),(12,.ptr 8 w8 0),(15,.ptr 16 wb 0),(16,.ptr kW wW 0),(26,ofV wp wh wg wb),(105,.int .i64 ((n:Nat):Int)),(106,.int .i64 ((i:Nat):Int))] ⟨t,kG F.fmt v0 v1 v2 v3 v4 L++frX v0 wg wb wu wp wm wh (yW y kV kW (some (.arr wV 44 (YG L up H i n))) (some (.arr wW 49 (.sl kV wV 0 1 n none::rest)))) up L H b⟩
   (YH (fun fr σ=>∃ fr' σ',Shift G 157 0 fr σ fr' σ'∧QH fr' [(1,.sl 21 w21 0 3 nps none),(12,.ptr 8 w8 0),(15,.ptr 16 wb 0),(16,.ptr kW wW 0),(26,ofV wp wh wg wb),(105,.int .i64 ((n:Nat):Int)),(106,.int .i64 ((i+1:Nat):Int))]∧∃ L' t' v2' v3' v4',Ext L L'∧L'.length≤L.length+1∧AllH L' (ofT up (H,b) (vE ((i:Nat):Int))).1∧σ'=⟨t',kG F.fmt v0 v1 v2' v3' v4' L'++frX v0 wg wb wu wp wm wh (yW y kV kW (some (.arr wV 44 (YG L' up (ofT up (H,b) (vE ((i:Nat):Int))).1 (i+1) n))) (some (.arr wW 49 (.sl kV wV 0 1 n none::rest)))) up L' (ofT up (H,b) (vE ((i:Nat):Int))).1 (ofT up (H,b) (vE ((i:Nat):Int))).2⟩) fun e fr σ=>False):=by
 have e2:IntKind.i64.wrap ((i:Int)+1)=((i+1:Nat):Int):=YJ hi (by omega)
 have hvl:=QkS L up H i n
 have hof:=fun (y:Nat→Option Ob) (t:Nat)=>QyX (P:=P) (G:=G) hT F (v0:=v0) (v1:=v1) (v2:=v2) (v3:=v3) (v4:=v4) (wg:=wg) (wb:=wb) (wu:=wu) (wp:=wp) (wm:=wm) (wh:=wh) (t:=t) (y:=y) (b:=b) hf hA hb hL (vE ((i:Nat):Int))
 rcases hk with ⟨rfl,rfl⟩ | ⟨rfl,rfl⟩
 ·have hof':=hof (yW y 17 18 (some (.arr wV 44 (YG L up H i n))) (some (.arr wW 49 (.sl 17 wV 0 1 n none::rest))))
  simp only [frX,yW,rq,if_true,if_false,prV,prC] at hof' ⊢
  refine Ql 12 ?_
  refine ye ?_
  iterate 10 (try (refine Qa 4 ?_; simp -implicitDefEqProofs (disch:=omega) only [go_sem,↓reduceIte,rA,rq,rL,hr]))
  repeat' (first | with_reducible refine And.intro ?_ ?_ | (refine Qa 12 ?_; simp -implicitDefEqProofs (disch:=omega) only [go_sem,↓reduceIte,reduceCtorEq,rA,rq,rL,rT,Nat.reduceSub,Nat.reduceMul,Int.reduceToNat,Int.reduceLE,Int.reduceLT,Int.reduceEq,Int.reduceNe,Nat.reduceBEq,Nat.reduceBNe,Int.reduceBEq,List.getElem?_cons_zero,List.getElem?_cons_succ,hi,hr]))
  all_goals
   refine CV.use 12 (CV.of hT QT (hof' t)) fun v σ hv=>?_
   obtain ⟨tm,L2,t2,w2,w3,w4,x1,x2,x3,x4,x5,x6,rfl,rfl⟩:=hv
   have hset:=Qt4 (n:=n) (S:=(H,b)) hi hA x2 hall (vE ((i:Nat):Int)) (x:=Xc L2 (tmN tm)) (XZ x1).symm
   simp -implicitDefEqProofs (disch:=omega) only [go_sem,↓reduceIte,rA,rq,rL,hi,hr,hvl,hset]
   iterate 10 (try (refine Qa 4 ?_; simp -implicitDefEqProofs (disch:=omega) only [go_sem,↓reduceIte,reduceCtorEq,rA,rq,rL,rT,Nat.reduceSub,Nat.reduceMul,Int.reduceToNat,Int.reduceLE,Int.reduceLT,Int.reduceEq,Int.reduceNe,Nat.reduceBEq,Nat.reduceBNe,Int.reduceBEq,List.getElem?_cons_zero,List.getElem?_cons_succ,hi,hr,hvl,hset]))
   refine ⟨_,_,Shift.refl _ _ _ _,?_,L2,t2,w2,w3,w4,x2,x3,x4,rfl⟩
   simp only [QH]; simp -implicitDefEqProofs (disch:=omega) only [go_sem,↓reduceIte,rq,e2]
 ·have hof':=hof (yW y 18 17 (some (.arr wV 44 (YG L up H i n))) (some (.arr wW 49 (.sl 18 wV 0 1 n none::rest))))
  simp only [frX,yW,rq,if_true,if_false,prV,prC] at hof' ⊢
  refine Ql 12 ?_
  refine ye ?_
  iterate 10 (try (refine Qa 4 ?_; simp -implicitDefEqProofs (disch:=omega) only [go_sem,↓reduceIte,rA,rq,rL,hr]))
  repeat' (first | with_reducible refine And.intro ?_ ?_ | (refine Qa 12 ?_; simp -implicitDefEqProofs (disch:=omega) only [go_sem,↓reduceIte,reduceCtorEq,rA,rq,rL,rT,Nat.reduceSub,Nat.reduceMul,Int.reduceToNat,Int.reduceLE,Int.reduceLT,Int.reduceEq,Int.reduceNe,Nat.reduceBEq,Nat.reduceBNe,Int.reduceBEq,List.getElem?_cons_zero,List.getElem?_cons_succ,hi,hr]))
  all_goals
   refine CV.use 12 (CV.of hT QT (hof' t)) fun v σ hv=>?_
   obtain ⟨tm,L2,t2,w2,w3,w4,x1,x2,x3,x4,x5,x6,rfl,rfl⟩:=hv
   have hset:=Qt4 (n:=n) (S:=(H,b)) hi hA x2 hall (vE ((i:Nat):Int)) (x:=Xc L2 (tmN tm)) (XZ x1).symm
   simp -implicitDefEqProofs (disch:=omega) only [go_sem,↓reduceIte,rA,rq,rL,hi,hr,hvl,hset]
   iterate 10 (try (refine Qa 4 ?_; simp -implicitDefEqProofs (disch:=omega) only [go_sem,↓reduceIte,reduceCtorEq,rA,rq,rL,rT,Nat.reduceSub,Nat.reduceMul,Int.reduceToNat,Int.reduceLE,Int.reduceLT,Int.reduceEq,Int.reduceNe,Nat.reduceBEq,Nat.reduceBNe,Int.reduceBEq,List.getElem?_cons_zero,List.getElem?_cons_succ,hi,hr,hvl,hset]))
   refine ⟨_,_,Shift.refl _ _ _ _,?_,L2,t2,w2,w3,w4,x2,x3,x4,rfl⟩
   simp only [QH]; simp -implicitDefEqProofs (disch:=omega) only [go_sem,↓reduceIte,rq,e2]
end
section
attribute [local go_sem] nF nT aA cA List.drop_nil List.drop_succ_cons List.drop_zero lA lC lN nA List.set_cons_succ List.set_cons_zero tN tS tZ aZ lR Nat.mul_one Nat.one_mul Nat.succ_ne_zero zA zL Nat.zero_mul Option.getD_none Option.getD_some Option.isSome_none Option.isSome_some and_true beq_self_eq_true bne_self_eq_false decide_false decide_true false_implies YR ge_iff_le gt_iff_lt Qnz Qkg Qnh Qsl QAB QAA Qeb QcM Qbc QgB QdB Qg0 Qh2 Qny Qnx Qrc Qrb Qra Qtf Qq9 Qq8 Qnw Qnv QvC Qq7 Qte Qtd Qq6 Qtc Qtb Qta QvB QvA QjW QjV QjU Qml Qmk QjT QjS QjR QoA Qmj Qoz Qmi Qmh Qmg Qoy Qmf Qox Qow Qai Qz not_false_eq_true not_true_eq_false relate_Fresh QoY QoX QhC QhB Qgp QhA Qhz Qhy Qhx Qhw Qhv Qhu QoW Qht QeN QdZ QeM QeL QeK Qhs Qci QcT QcS QoV QcR QcQ QcP QcO QcN Qjo QoU QoT Qni QoS QoR QoQ true_and true_implies
def QK (L:List Nd) (up:List (Pr × Pr)) (H:List (Pr × Tm)) (l:List Pr) (k:Int) (f:Nat→Int) (n:Nat):List V:=(List.range n).map fun r:Nat=>.int .i64 (if l.any fun p=>decide (p.k=k∧p.n=((r:Nat):Int)) then ZV L up H ⟨0,k,((r:Nat):Int)⟩ else f r)
theorem Xs (L:List Nd) (up:List (Pr × Pr)) (H:List (Pr × Tm)) (l:List Pr) (k:Int) (f:Nat→Int) (n:Nat):(QK L up H l k f n).length=n:=by simp [QK]
theorem Qiy (L:List Nd) (up:List (Pr × Pr)) (H:List (Pr × Tm)) (l:List Pr) (k:Int) (f:Nat→Int) (n j:Nat) (h:j<(QK L up H l k f n).length):(QK L up H l k f n)[j]=.int .i64 (if l.any fun p=>decide (p.k=k∧p.n=((j:Nat):Int)) then ZV L up H ⟨0,k,((j:Nat):Int)⟩ else f j):=by
 have h':j<((List.range n).map fun r:Nat=>V.int .i64 (if l.any fun p=>decide (p.k=k∧p.n=((r:Nat):Int)) then ZV L up H ⟨0,k,((r:Nat):Int)⟩ else f r)).length:=h
 show ((List.range n).map fun r:Nat=>V.int .i64 (if l.any fun p=>decide (p.k=k∧p.n=((r:Nat):Int)) then ZV L up H ⟨0,k,((r:Nat):Int)⟩ else f r))[j]'h'=_
 rw [List.getElem_map,List.getElem_range]
def Got (up:List (Pr × Pr)) (H:List (Pr × Tm)) (l:List Pr):Prop:=∀ p∈l,p.k≠3→(Re.get H (Qi up (pE p))).isSome
variable {k:Int} {l:List Pr}
theorem Qsd {j:Nat} (h:(l.any fun p=>decide (p.k=k∧p.n=((j:Nat):Int)))=true):∃ p∈l,pE p=⟨0,k,((j:Nat):Int)⟩∧p.k=k:=by
 rw [List.any_eq_true] at h
 obtain ⟨p,hp,he⟩:=h
 simp only [decide_eq_true_eq] at he
 exact ⟨p,hp,by simp [pE,he.1,he.2],he.1⟩
variable {x:Pr} {n r:Nat} {f:Nat→Int} {S:List (Pr × Tm) × Int} {L L':List Nd}
theorem Qf1 {up:List (Pr × Pr)} (hk3:k≠3) (hA:AllH L S.1) (hE:Ext L L') (hg:Got up S.1 l) (hx:x.k≠k) (e:Pr):QK L up S.1 l k f n=QK L' up (ofT up S e).1 (l++[x]) k f n:=by
 refine List.ext_getElem (by simp [QK]) fun j h1 h2=>?_
 rw [Qiy,Qiy,List.any_append]
 have h0:([x].any fun p=>decide (p.k=k∧p.n=((j:Nat):Int)))=false:=by simp [hx]
 rw [h0,Bool.or_false]
 split
 ·rename_i h
  obtain ⟨p,hp,hpe,hpk⟩:=Qsd h
  rw [← hpe,Qmp hA hE (hg p hp (by rw [hpk]; exact hk3)) e]
 ·rfl
theorem QqU {up:List (Pr × Pr)} {H:List (Pr × Tm)} (hx:x.k≠k):QK L up H l k f n=QK L up H (l++[x]) k f n:=by
 refine List.ext_getElem (by simp [QK]) fun j h1 h2=>?_
 rw [Qiy,Qiy,List.any_append]
 have h0:([x].any fun p=>decide (p.k=k∧p.n=((j:Nat):Int)))=false:=by simp [hx]
 rw [h0,Bool.or_false]
theorem Qk1 {up:List (Pr × Pr)} (hk3:k≠3) (hr:r<n) (hA:AllH L S.1) (hE:Ext L L') (hg:Got up S.1 l) (hx:x.k=k) (hn:x.n=((r:Nat):Int)) {z:Int} (hz:z=ZV L' up (ofT up S (pE x)).1 (pE x)) :
 (QK L up S.1 l k f n).take r++V.int .i64 z::(QK L up S.1 l k f n).drop (r+1)=QK L' up (ofT up S (pE x)).1 (l++[x]) k f n:=by
 have e:(QK L up S.1 l k f n).take r++V.int .i64 z::(QK L up S.1 l k f n).drop (r+1)=(QK L up S.1 l k f n).set r (.int .i64 z):=by
  rw [List.set_eq_take_append_cons_drop,if_pos (by rw [Xs]; exact hr)]
 rw [e]
 refine List.ext_getElem (by simp [QK]) fun j h1 h2=>?_
 rw [List.getElem_set,Qiy,Qiy,List.any_append]
 by_cases hj:r=j
 ·subst hj
  have h0:([x].any fun p=>decide (p.k=k∧p.n=((r:Nat):Int)))=true:=by simp [hx,hn]
  have hp:pE x=⟨0,k,((r:Nat):Int)⟩:=by simp [pE,hx,hn]
  rw [if_pos rfl,h0,Bool.or_true,if_pos rfl,hz,← hp]
 ·have h0:([x].any fun p=>decide (p.k=k∧p.n=((j:Nat):Int)))=false:=by simp [hx,hn]; omega
  rw [if_neg hj,h0,Bool.or_false]
  split
  ·rename_i h
   obtain ⟨p,hp,hpe,hpk⟩:=Qsd h
   rw [← hpe,Qmp hA hE (hg p hp (by rw [hpk]; exact hk3)) _]
  ·rfl
def y3 (y:Nat→Option Ob) (kV kW:Nat) (vr wo sr row:Option Ob):Nat→Option Ob:=fun i=>if i=kV then vr else if i=kW then wo else if i=14 then sr else if i=21 then row else y i
def frZ (v0 wg wb wu wp wm wh:Nat) (y:Nat→Option Ob) (up:List (Pr × Pr)) (L:List Nd) (H:List (Pr × Tm)) (b:Int):List (Option Ob):=[some (.arr wg 41 [.ptr 1 v0 0]),y 6,y 7,y 8,y 9,y 10,y 11,y 12,y 13,y 14,y 15,some (.arr wb 2 [.int .i64 b]),y 17,y 18,some (.map wu (upV up)),some (.arr wp 96 [.mp 19 wu]),y 21,some (.map wm (hoV L H)),some (.arr wh 101 [.mp 22 wm])]
def woC (kV wV n:Nat) (lk:Int) (rg:List V) (ws cnt:Nat) (sure:Bool):List V:=.sl kV wV 0 1 n none::.int .i64 lk::(rg++[.sl 14 ws 0 1 cnt none,.bool sure])
theorem QEM (R:List V) (a c v:V) (tl:List V) (h:r<R.length):List.take (2+r) (a::c::(R++tl))++v::List.drop (2+r) (c::(R++tl))=a::c::((R.take r++v::R.drop (r+1))++tl):=by
 rw [show 2+r=r+1+1 by omega,tS,tS,List.drop_succ_cons,List.take_append_of_le_length (by omega),List.drop_append_of_le_length (by omega)]
 simp
theorem QIF (hT:Qh P tab) (F:Fmt P G) {v0 v1 v2 v3 v4 wg wb wu wp wm wh w21 w8 kV kW wV wW ws t i cnt:Nat} {y:Nat→Option Ob} {vr:Option Ob} {ps:List Pr} {cells:List V} {up:List (Pr × Pr)} {b lk:Int} {H:List (Pr × Tm)} {g:Nat→Int} {sure:Bool} 
 (hk:kV=17∧kW=18∨kV=18∧kW=17) (hf:Fst up) (hA:AllH L H) (hb:0≤b∧b≤2199023255552) (hL:L.length≤100000) (hx:ps[i]?=some x) (hl:ps.length≤1000) (hg:Got up H (ps.take i)) (hx1:x.k=1) (hxr:x.n=((r:Nat):Int)) (hr:r<32) :
 W P G 157 0 wd [(12,.ptr 8 w8 0),(15,.ptr 16 wb 0),(16,.ptr kW wW 0),(26,ofV wp wh wg wb),(118,.sl 21 w21 0 3 ps.length none),(119,.int .i64 ((ps.length:Nat):Int)),(120,.int .i64 ((i:Nat):Int))] ⟨t,kG F.fmt v0 v1 v2 v3 v4 L++frZ v0 wg wb wu wp wm wh (y3 y kV kW vr (some (.arr wW 49 (woC kV wV n lk (QK L up H (ps.take i) 1 f 32) ws cnt sure))) (some (.arr ws 44 (QK L up H (ps.take i) 2 g cnt))) (some (.arr w21 64 (fl prC ps++cells)))) up L H b⟩
   (YH (fun fr σ=>∃ fr' σ',Shift G 157 0 fr σ fr' σ'∧QH fr' [(12,.ptr 8 w8 0),(15,.ptr 16 wb 0),(16,.ptr kW wW 0),(26,ofV wp wh wg wb),(118,.sl 21 w21 0 3 ps.length none),(119,.int .i64 ((ps.length:Nat):Int)),(120,.int .i64 ((i+1:Nat):Int))]∧∃ L' t' v2' v3' v4',Ext L L'∧L'.length≤L.length+1∧AllH L' (ofT up (H,b) (pE x)).1∧σ'=⟨t',kG F.fmt v0 v1 v2' v3' v4' L'++frZ v0 wg wb wu wp wm wh (y3 y kV kW vr (some (.arr wW 49 (woC kV wV n lk (QK L' up (ofT up (H,b) (pE x)).1 (ps.take (i+1)) 1 f 32) ws cnt sure))) (some (.arr ws 44 (QK L' up (ofT up (H,b) (pE x)).1 (ps.take (i+1)) 2 g cnt))) (some (.arr w21 64 (fl prC ps++cells)))) up L' (ofT up (H,b) (pE x)).1 (ofT up (H,b) (pE x)).2⟩) fun e fr σ=>False):=by
 obtain ⟨xv,xk,xn⟩:=x
 simp only at hx1 hxr
 subst hx1 hxr
 have hi:=(List.getElem?_eq_some_iff.1 hx).1
 have hD:=ZJ hx cells
 have hsz:i * 3+3≤ps.length * 3+cells.length:=by omega
 have e2:IntKind.i64.wrap ((i:Int)+1)=((i+1:Nat):Int):=YJ hi (by omega)
 have hpl:=Xs L up H (ps.take i) 1 f 32
 have hpl2:=Xs L up H (ps.take i) 2 g cnt
 have hof:=fun (y:Nat→Option Ob) (t:Nat)=>QyX (P:=P) (G:=G) hT F (v0:=v0) (v1:=v1) (v2:=v2) (v3:=v3) (v4:=v4) (wg:=wg) (wb:=wb) (wu:=wu) (wp:=wp) (wm:=wm) (wh:=wh) (t:=t) (y:=y) (b:=b) hf hA hb hL (pE ⟨xv,1,((r:Nat):Int)⟩)
 have hrI:((r:Nat):Int)<32:=by omega
 rw [Qy hx]
 rcases hk with ⟨rfl,rfl⟩ | ⟨rfl,rfl⟩
 ·have hof':=hof (fun j=>if j=24 then some (.arr t 64 [.int .i64 xv,.int .u8 1,.int .i64 ((r:Nat):Int)]) else y3 y 17 18 vr (some (.arr wW 49 (woC 17 wV n lk (QK L up H (ps.take i) 1 f 32) ws cnt sure))) (some (.arr ws 44 (QK L up H (ps.take i) 2 g cnt))) (some (.arr w21 64 (fl prC ps++cells))) j)
  simp only [frX,frZ,y3,woC,rq,if_true,if_false,prV,prC] at hof' hD ⊢
  refine Ql 12 ?_
  refine ye ?_
  iterate 10 (try (refine Qa 4 ?_; simp -implicitDefEqProofs (disch:=omega) only [go_sem,↓reduceIte,reduceCtorEq,rA,rq,rL,hD,hsz]))
  repeat' (first | with_reducible refine And.intro ?_ ?_ | (refine Qa 12 ?_; simp -implicitDefEqProofs (disch:=omega) only [go_sem,↓reduceIte,rq]))
  all_goals
   refine CV.use 12 (CV.of hT QT (hof' (t+1))) fun v σ hv=>?_
   obtain ⟨tm,L2,t2,w2,w3,w4,x1,x2,x3,x4,x5,x6,rfl,rfl⟩:=hv
   have hset:=Qk1 (S:=(H,b)) (f:=f) (n:=32) (k:=1) (by decide) hr hA x2 hg (x:=⟨xv,1,((r:Nat):Int)⟩) rfl rfl (z:=Xc L2 (tmN tm)) (XZ x1).symm
   have hoth:=Qf1 (S:=(H,b)) (f:=g) (n:=cnt) (k:=2) (by decide) hA x2 hg (x:=⟨xv,1,((r:Nat):Int)⟩) (show (1:Int)≠2 by decide) (pE ⟨xv,1,((r:Nat):Int)⟩)
   have hws:=QEM (QK L up H (ps.take i) 1 f 32) (.sl 17 wV 0 1 n none) (.int .i64 lk) (.int .i64 (Xc L2 (tmN tm))) [.sl 14 ws 0 1 cnt none,.bool sure] (r:=r) (by rw [hpl]; exact hr)
   rw [hset] at hws
   rw [hoth]
   simp -implicitDefEqProofs (disch:=omega) only [go_sem,↓reduceIte,rA,rq,rL,hpl,hws]
   iterate 10 (try (refine Qa 4 ?_; simp -implicitDefEqProofs (disch:=omega) only [go_sem,↓reduceIte,reduceCtorEq,rA,rq,rL,rT,Nat.reduceSub,Nat.reduceMul,Int.reduceToNat,Int.reduceLE,Int.reduceLT,Int.reduceEq,Int.reduceNe,Nat.reduceBEq,Nat.reduceBNe,Int.reduceBEq,List.getElem?_cons_zero,List.getElem?_cons_succ,hi,hpl,hrI,hws]))
   refine ⟨_,_,Shift.drop (o':=_) (XK (kG F.fmt v0 v1 w2 w3 w4 L2++frZ v0 wg wb wu wp wm wh (y3 y 17 18 vr (some (.arr wW 49 (woC 17 wV n lk (QK L2 up (ofT up (H,b) (pE ⟨xv,1,((r:Nat):Int)⟩)).1 (ps.take i++[⟨xv,1,((r:Nat):Int)⟩]) 1 f 32) ws cnt sure))) (some (.arr ws 44 (QK L2 up (ofT up (H,b) (pE ⟨xv,1,((r:Nat):Int)⟩)).1 (ps.take i++[⟨xv,1,((r:Nat):Int)⟩]) 2 g cnt))) (some (.arr w21 64 (fl prC ps++cells)))) up L2 (ofT up (H,b) (pE ⟨xv,1,((r:Nat):Int)⟩)).1 (ofT up (H,b) (pE ⟨xv,1,((r:Nat):Int)⟩)).2) [_]) (lR _) (zL _),?_,L2,t2,w2,w3,w4,x2,x3,x4,rfl⟩
   simp only [QH]; simp -implicitDefEqProofs (disch:=omega) only [go_sem,↓reduceIte,rq,e2]
 ·have hof':=hof (fun j=>if j=24 then some (.arr t 64 [.int .i64 xv,.int .u8 1,.int .i64 ((r:Nat):Int)]) else y3 y 18 17 vr (some (.arr wW 49 (woC 18 wV n lk (QK L up H (ps.take i) 1 f 32) ws cnt sure))) (some (.arr ws 44 (QK L up H (ps.take i) 2 g cnt))) (some (.arr w21 64 (fl prC ps++cells))) j)
  simp only [frX,frZ,y3,woC,rq,if_true,if_false,prV,prC] at hof' hD ⊢
  refine Ql 12 ?_
  refine ye ?_
  iterate 10 (try (refine Qa 4 ?_; simp -implicitDefEqProofs (disch:=omega) only [go_sem,↓reduceIte,reduceCtorEq,rA,rq,rL,hD,hsz]))
  repeat' (first | with_reducible refine And.intro ?_ ?_ | (refine Qa 12 ?_; simp -implicitDefEqProofs (disch:=omega) only [go_sem,↓reduceIte,rq]))
  all_goals
   refine CV.use 12 (CV.of hT QT (hof' (t+1))) fun v σ hv=>?_
   obtain ⟨tm,L2,t2,w2,w3,w4,x1,x2,x3,x4,x5,x6,rfl,rfl⟩:=hv
   have hset:=Qk1 (S:=(H,b)) (f:=f) (n:=32) (k:=1) (by decide) hr hA x2 hg (x:=⟨xv,1,((r:Nat):Int)⟩) rfl rfl (z:=Xc L2 (tmN tm)) (XZ x1).symm
   have hoth:=Qf1 (S:=(H,b)) (f:=g) (n:=cnt) (k:=2) (by decide) hA x2 hg (x:=⟨xv,1,((r:Nat):Int)⟩) (show (1:Int)≠2 by decide) (pE ⟨xv,1,((r:Nat):Int)⟩)
   have hws:=QEM (QK L up H (ps.take i) 1 f 32) (.sl 18 wV 0 1 n none) (.int .i64 lk) (.int .i64 (Xc L2 (tmN tm))) [.sl 14 ws 0 1 cnt none,.bool sure] (r:=r) (by rw [hpl]; exact hr)
   rw [hset] at hws
   rw [hoth]
   simp -implicitDefEqProofs (disch:=omega) only [go_sem,↓reduceIte,rA,rq,rL,hpl,hws]
   iterate 10 (try (refine Qa 4 ?_; simp -implicitDefEqProofs (disch:=omega) only [go_sem,↓reduceIte,reduceCtorEq,rA,rq,rL,rT,Nat.reduceSub,Nat.reduceMul,Int.reduceToNat,Int.reduceLE,Int.reduceLT,Int.reduceEq,Int.reduceNe,Nat.reduceBEq,Nat.reduceBNe,Int.reduceBEq,List.getElem?_cons_zero,List.getElem?_cons_succ,hi,hpl,hrI,hws]))
   refine ⟨_,_,Shift.drop (o':=_) (XK (kG F.fmt v0 v1 w2 w3 w4 L2++frZ v0 wg wb wu wp wm wh (y3 y 18 17 vr (some (.arr wW 49 (woC 18 wV n lk (QK L2 up (ofT up (H,b) (pE ⟨xv,1,((r:Nat):Int)⟩)).1 (ps.take i++[⟨xv,1,((r:Nat):Int)⟩]) 1 f 32) ws cnt sure))) (some (.arr ws 44 (QK L2 up (ofT up (H,b) (pE ⟨xv,1,((r:Nat):Int)⟩)).1 (ps.take i++[⟨xv,1,((r:Nat):Int)⟩]) 2 g cnt))) (some (.arr w21 64 (fl prC ps++cells)))) up L2 (ofT up (H,b) (pE ⟨xv,1,((r:Nat):Int)⟩)).1 (ofT up (H,b) (pE ⟨xv,1,((r:Nat):Int)⟩)).2) [_]) (lR _) (zL _),?_,L2,t2,w2,w3,w4,x2,x3,x4,rfl⟩
   simp only [QH]; simp -implicitDefEqProofs (disch:=omega) only [go_sem,↓reduceIte,rq,e2]
end
section
attribute [local go_sem] nF aA cA List.drop_nil List.drop_succ_cons List.drop_zero lA lC lN nA tN tS tZ aZ lR Nat.mul_one zA zL and_true beq_self_eq_true decide_true false_implies YR QcM Qtf Qnw Qnv Qte Qtc Qml Qmg Qz Xs Qci QcT QcS QcR QcQ QcP QcO QcN true_and true_implies
theorem Qf2 (L:List Nd) (up:List (Pr × Pr)) (H:List (Pr × Tm)) (l:List Pr) (k:Int) (f:Nat→Int) (a c:V):(QK L up H l k f 32++[a,c]).getD 32 V.any=a:=by
 rw [List.getD_eq_getElem?_getD,List.getElem?_append_right (by rw [Xs]; omega),Xs]; rfl
variable {x:Pr} {sure:Bool} {f g:Nat→Int} {L:List Nd} {b lk:Int} {ps:List Pr} {y:Nat→Option Ob} {v0 v1 v2 v3 v4 wg wb wu wm wh w21 w8 kV wW ws t i n cnt r:Nat}
theorem Qyy (hT:Qh P tab) (F:Fmt P G) {wp kW wV:Nat} {vr:Option Ob} {cells:List V} {up:List (Pr × Pr)} {H:List (Pr × Tm)} 
 (hk:kV=17∧kW=18) (hf:Fst up) (hA:AllH L H) (hb:0≤b∧b≤2199023255552) (hL:L.length≤100000) (hx:ps[i]?=some x) (hl:ps.length≤1000) (hg:Got up H (ps.take i)) (hx1:x.k=2) (hxr:x.n=((r:Nat):Int)) (hr:r<cnt) (hcnt:cnt≤100) :
 W P G 157 0 wd [(12,.ptr 8 w8 0),(15,.ptr 16 wb 0),(16,.ptr kW wW 0),(26,ofV wp wh wg wb),(118,.sl 21 w21 0 3 ps.length none),(119,.int .i64 ((ps.length:Nat):Int)),(120,.int .i64 ((i:Nat):Int))] ⟨t,kG F.fmt v0 v1 v2 v3 v4 L++frZ v0 wg wb wu wp wm wh (y3 y kV kW vr (some (.arr wW 49 (woC kV wV n lk (QK L up H (ps.take i) 1 f 32) ws cnt sure))) (some (.arr ws 44 (QK L up H (ps.take i) 2 g cnt))) (some (.arr w21 64 (fl prC ps++cells)))) up L H b⟩
   (YH (fun fr σ=>∃ fr' σ',Shift G 157 0 fr σ fr' σ'∧QH fr' [(12,.ptr 8 w8 0),(15,.ptr 16 wb 0),(16,.ptr kW wW 0),(26,ofV wp wh wg wb),(118,.sl 21 w21 0 3 ps.length none),(119,.int .i64 ((ps.length:Nat):Int)),(120,.int .i64 ((i+1:Nat):Int))]∧∃ L' t' v2' v3' v4',Ext L L'∧L'.length≤L.length+1∧AllH L' (ofT up (H,b) (pE x)).1∧σ'=⟨t',kG F.fmt v0 v1 v2' v3' v4' L'++frZ v0 wg wb wu wp wm wh (y3 y kV kW vr (some (.arr wW 49 (woC kV wV n lk (QK L' up (ofT up (H,b) (pE x)).1 (ps.take (i+1)) 1 f 32) ws cnt sure))) (some (.arr ws 44 (QK L' up (ofT up (H,b) (pE x)).1 (ps.take (i+1)) 2 g cnt))) (some (.arr w21 64 (fl prC ps++cells)))) up L' (ofT up (H,b) (pE x)).1 (ofT up (H,b) (pE x)).2⟩) fun e fr σ=>False):=by
 obtain ⟨xv,xk,xn⟩:=x
 simp only at hx1 hxr
 subst hx1 hxr
 have hi:=(List.getElem?_eq_some_iff.1 hx).1
 have hD:=ZJ hx cells
 have hsz:i * 3+3≤ps.length * 3+cells.length:=by omega
 have e2:IntKind.i64.wrap ((i:Int)+1)=((i+1:Nat):Int):=YJ hi (by omega)
 have hpl:=Xs L up H (ps.take i) 1 f 32
 have hpl2:=Xs L up H (ps.take i) 2 g cnt
 have hof:=fun (y:Nat→Option Ob) (t:Nat)=>QyX (P:=P) (G:=G) hT F (v0:=v0) (v1:=v1) (v2:=v2) (v3:=v3) (v4:=v4) (wg:=wg) (wb:=wb) (wu:=wu) (wp:=wp) (wm:=wm) (wh:=wh) (t:=t) (y:=y) (b:=b) hf hA hb hL (pE ⟨xv,2,((r:Nat):Int)⟩)
 have hrI:((r:Nat):Int)<((cnt:Nat):Int):=by omega
 rw [Qy hx]
 obtain ⟨rfl,rfl⟩:=hk
 have hof':=hof (fun j=>if j=24 then some (.arr t 64 [.int .i64 xv,.int .u8 2,.int .i64 ((r:Nat):Int)]) else y3 y 17 18 vr (some (.arr wW 49 (woC 17 wV n lk (QK L up H (ps.take i) 1 f 32) ws cnt sure))) (some (.arr ws 44 (QK L up H (ps.take i) 2 g cnt))) (some (.arr w21 64 (fl prC ps++cells))) j)
 simp only [frX,frZ,y3,woC,rq,if_true,if_false,prV,prC] at hof' hD ⊢
 refine Ql 12 ?_
 refine ye ?_
 iterate 10 (try (refine Qa 4 ?_; simp -implicitDefEqProofs (disch:=omega) only [go_sem,↓reduceIte,reduceCtorEq,rA,rq,rL,Qf2,Int.reduceBEq,hD,hsz,hpl]))
 repeat' (first | with_reducible refine And.intro ?_ ?_ | (refine Qa 12 ?_; simp -implicitDefEqProofs (disch:=omega) only [go_sem,↓reduceIte,rA,rq,rL,Qf2,hpl]))
 all_goals
  refine CV.use 12 (CV.of hT QT (hof' (t+1))) fun v σ hv=>?_
  obtain ⟨tm,L2,t2,w2,w3,w4,x1,x2,x3,x4,x5,x6,rfl,rfl⟩:=hv
  have hset:=Qk1 (S:=(H,b)) (f:=g) (n:=cnt) (k:=2) (by decide) hr hA x2 hg (x:=⟨xv,2,((r:Nat):Int)⟩) rfl rfl (z:=Xc L2 (tmN tm)) (XZ x1).symm
  have hoth:=Qf1 (S:=(H,b)) (f:=f) (n:=32) (k:=1) (by decide) hA x2 hg (x:=⟨xv,2,((r:Nat):Int)⟩) (show (2:Int)≠1 by decide) (pE ⟨xv,2,((r:Nat):Int)⟩)
  rw [hoth]
  simp -implicitDefEqProofs (disch:=omega) only [go_sem,↓reduceIte,rA,rq,rL,Qf2,hr,hpl2,hset]
  iterate 10 (try (refine Qa 4 ?_; simp -implicitDefEqProofs (disch:=omega) only [go_sem]))
  refine ⟨_,_,Shift.drop (o':=_) (XK (kG F.fmt v0 v1 w2 w3 w4 L2++frZ v0 wg wb wu wp wm wh (y3 y 17 18 vr (some (.arr wW 49 (woC 17 wV n lk (QK L2 up (ofT up (H,b) (pE ⟨xv,2,((r:Nat):Int)⟩)).1 (ps.take i++[⟨xv,2,((r:Nat):Int)⟩]) 1 f 32) ws cnt sure))) (some (.arr ws 44 (QK L2 up (ofT up (H,b) (pE ⟨xv,2,((r:Nat):Int)⟩)).1 (ps.take i++[⟨xv,2,((r:Nat):Int)⟩]) 2 g cnt))) (some (.arr w21 64 (fl prC ps++cells)))) up L2 (ofT up (H,b) (pE ⟨xv,2,((r:Nat):Int)⟩)).1 (ofT up (H,b) (pE ⟨xv,2,((r:Nat):Int)⟩)).2) [_]) (lR _) (zL _),?_,L2,t2,w2,w3,w4,x2,x3,x4,rfl⟩
  simp only [QH]; simp -implicitDefEqProofs (disch:=omega) only [go_sem,↓reduceIte,rq,e2]
theorem Qyx (hT:Qh P tab) (F:Fmt P G) {wp kW wV:Nat} {vr:Option Ob} {cells:List V} {up:List (Pr × Pr)} {H:List (Pr × Tm)} 
 (hk:kV=18∧kW=17) (hf:Fst up) (hA:AllH L H) (hb:0≤b∧b≤2199023255552) (hL:L.length≤100000) (hx:ps[i]?=some x) (hl:ps.length≤1000) (hg:Got up H (ps.take i)) (hx1:x.k=2) (hxr:x.n=((r:Nat):Int)) (hr:r<cnt) (hcnt:cnt≤100) :
 W P G 157 0 wd [(12,.ptr 8 w8 0),(15,.ptr 16 wb 0),(16,.ptr kW wW 0),(26,ofV wp wh wg wb),(118,.sl 21 w21 0 3 ps.length none),(119,.int .i64 ((ps.length:Nat):Int)),(120,.int .i64 ((i:Nat):Int))] ⟨t,kG F.fmt v0 v1 v2 v3 v4 L++frZ v0 wg wb wu wp wm wh (y3 y kV kW vr (some (.arr wW 49 (woC kV wV n lk (QK L up H (ps.take i) 1 f 32) ws cnt sure))) (some (.arr ws 44 (QK L up H (ps.take i) 2 g cnt))) (some (.arr w21 64 (fl prC ps++cells)))) up L H b⟩
   (YH (fun fr σ=>∃ fr' σ',Shift G 157 0 fr σ fr' σ'∧QH fr' [(12,.ptr 8 w8 0),(15,.ptr 16 wb 0),(16,.ptr kW wW 0),(26,ofV wp wh wg wb),(118,.sl 21 w21 0 3 ps.length none),(119,.int .i64 ((ps.length:Nat):Int)),(120,.int .i64 ((i+1:Nat):Int))]∧∃ L' t' v2' v3' v4',Ext L L'∧L'.length≤L.length+1∧AllH L' (ofT up (H,b) (pE x)).1∧σ'=⟨t',kG F.fmt v0 v1 v2' v3' v4' L'++frZ v0 wg wb wu wp wm wh (y3 y kV kW vr (some (.arr wW 49 (woC kV wV n lk (QK L' up (ofT up (H,b) (pE x)).1 (ps.take (i+1)) 1 f 32) ws cnt sure))) (some (.arr ws 44 (QK L' up (ofT up (H,b) (pE x)).1 (ps.take (i+1)) 2 g cnt))) (some (.arr w21 64 (fl prC ps++cells)))) up L' (ofT up (H,b) (pE x)).1 (ofT up (H,b) (pE x)).2⟩) fun e fr σ=>False):=by
 obtain ⟨xv,xk,xn⟩:=x
 simp only at hx1 hxr
 subst hx1 hxr
 have hi:=(List.getElem?_eq_some_iff.1 hx).1
 have hD:=ZJ hx cells
 have hsz:i * 3+3≤ps.length * 3+cells.length:=by omega
 have e2:IntKind.i64.wrap ((i:Int)+1)=((i+1:Nat):Int):=YJ hi (by omega)
 have hpl:=Xs L up H (ps.take i) 1 f 32
 have hpl2:=Xs L up H (ps.take i) 2 g cnt
 have hof:=fun (y:Nat→Option Ob) (t:Nat)=>QyX (P:=P) (G:=G) hT F (v0:=v0) (v1:=v1) (v2:=v2) (v3:=v3) (v4:=v4) (wg:=wg) (wb:=wb) (wu:=wu) (wp:=wp) (wm:=wm) (wh:=wh) (t:=t) (y:=y) (b:=b) hf hA hb hL (pE ⟨xv,2,((r:Nat):Int)⟩)
 have hrI:((r:Nat):Int)<((cnt:Nat):Int):=by omega
 rw [Qy hx]
 obtain ⟨rfl,rfl⟩:=hk
 have hof':=hof (fun j=>if j=24 then some (.arr t 64 [.int .i64 xv,.int .u8 2,.int .i64 ((r:Nat):Int)]) else y3 y 18 17 vr (some (.arr wW 49 (woC 18 wV n lk (QK L up H (ps.take i) 1 f 32) ws cnt sure))) (some (.arr ws 44 (QK L up H (ps.take i) 2 g cnt))) (some (.arr w21 64 (fl prC ps++cells))) j)
 simp only [frX,frZ,y3,woC,rq,if_true,if_false,prV,prC] at hof' hD ⊢
 refine Ql 12 ?_
 refine ye ?_
 iterate 10 (try (refine Qa 4 ?_; simp -implicitDefEqProofs (disch:=omega) only [go_sem,↓reduceIte,reduceCtorEq,rA,rq,rL,Qf2,Int.reduceBEq,hD,hsz,hpl]))
 repeat' (first | with_reducible refine And.intro ?_ ?_ | (refine Qa 12 ?_; simp -implicitDefEqProofs (disch:=omega) only [go_sem,↓reduceIte,rA,rq,rL,Qf2,hpl]))
 all_goals
  refine CV.use 12 (CV.of hT QT (hof' (t+1))) fun v σ hv=>?_
  obtain ⟨tm,L2,t2,w2,w3,w4,x1,x2,x3,x4,x5,x6,rfl,rfl⟩:=hv
  have hset:=Qk1 (S:=(H,b)) (f:=g) (n:=cnt) (k:=2) (by decide) hr hA x2 hg (x:=⟨xv,2,((r:Nat):Int)⟩) rfl rfl (z:=Xc L2 (tmN tm)) (XZ x1).symm
  have hoth:=Qf1 (S:=(H,b)) (f:=f) (n:=32) (k:=1) (by decide) hA x2 hg (x:=⟨xv,2,((r:Nat):Int)⟩) (show (2:Int)≠1 by decide) (pE ⟨xv,2,((r:Nat):Int)⟩)
  rw [hoth]
  simp -implicitDefEqProofs (disch:=omega) only [go_sem,↓reduceIte,rA,rq,rL,Qf2,hr,hpl2,hset]
  iterate 10 (try (refine Qa 4 ?_; simp -implicitDefEqProofs (disch:=omega) only [go_sem]))
  refine ⟨_,_,Shift.drop (o':=_) (XK (kG F.fmt v0 v1 w2 w3 w4 L2++frZ v0 wg wb wu wp wm wh (y3 y 18 17 vr (some (.arr wW 49 (woC 18 wV n lk (QK L2 up (ofT up (H,b) (pE ⟨xv,2,((r:Nat):Int)⟩)).1 (ps.take i++[⟨xv,2,((r:Nat):Int)⟩]) 1 f 32) ws cnt sure))) (some (.arr ws 44 (QK L2 up (ofT up (H,b) (pE ⟨xv,2,((r:Nat):Int)⟩)).1 (ps.take i++[⟨xv,2,((r:Nat):Int)⟩]) 2 g cnt))) (some (.arr w21 64 (fl prC ps++cells)))) up L2 (ofT up (H,b) (pE ⟨xv,2,((r:Nat):Int)⟩)).1 (ofT up (H,b) (pE ⟨xv,2,((r:Nat):Int)⟩)).2) [_]) (lR _) (zL _),?_,L2,t2,w2,w3,w4,x2,x3,x4,rfl⟩
  simp only [QH]; simp -implicitDefEqProofs (disch:=omega) only [go_sem,↓reduceIte,rq,e2]
end
end Go.Proofs.YtfgccihafnjalaaGreatDoor
