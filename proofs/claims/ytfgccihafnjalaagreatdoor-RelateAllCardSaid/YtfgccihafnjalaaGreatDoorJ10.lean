/- Fresh: a number's. -/
import Derived.Test.YtfgccihafnjalaaGreatDoorJ9
import Derived.Test.YtfgccihafnjalaaGreatDoorY
open Nat renaming reduceEqDiff → rq, reduceAdd → rA, reduceLeDiff → rL, reduceLT → rT, zero_add → zA, le_refl → lR, zero_le → zL, add_zero → aZ
open List renaming length_cons → lC, length_nil → lN, take_succ_cons → tS, length_append → lA, nil_append → nA, cons_append → cA, append_assoc → aA, take_nil → tN, take_zero → tZ, length_map → lM
open Bool renaming not_false → nF, not_true → nT
namespace Go.Proofs.YtfgccihafnjalaaGreatDoor
open Go Go.Am Go.Re
set_option maxRecDepth 100000
variable {P:Program} {G:Nat→Option V}
set_option maxHeartbeats 2000000
section
attribute [local go_sem] nF nT aA cA List.drop_nil List.drop_succ_cons List.drop_zero lA lC lN nA List.set_cons_succ List.set_cons_zero tN tS tZ aZ lR Nat.mul_one Nat.one_mul Nat.succ_ne_zero zA zL Nat.zero_mul Option.getD_none Option.getD_some Option.isSome_none Option.isSome_some and_true beq_self_eq_true bne_self_eq_false decide_false decide_true false_implies YR ge_iff_le gt_iff_lt Qnz Qkg Qnh Qsl QAB QAA Qeb QcM Qbc QgB QdB Qg0 Qh2 Qny Qnx Qrc Qrb Qra Qtf Qq9 Qq8 Qnw Qnv QvC Qq7 Qte Qtd Qq6 Qtc Qtb Qta QvB QvA QjW QjV QjU Qml Qmk QjT QjS QjR QoA Qmj Qoz Qmi Qmh Qmg Qoy Qmf Qox Qow Qai Qz not_false_eq_true not_true_eq_false Xs relate_Fresh QoY QoX QhC QhB Qgp QhA Qhz Qhy Qhx Qhw Qhv Qhu QoW Qht QeN QdZ QeM QeL QeK Qhs Qci QcT QcS QoV QcR QcQ QcP QcO QcN Qjo QoU QoT Qni QoS QoR QoQ true_and true_implies
theorem QIG (hT:Qh P tab) (F:Fmt P G) {v0 v1 v2 v3 v4 wg wb wu wp wm wh w21 w8 kV kW wV wW ws t i n cnt r:Nat} {y:Nat→Option Ob} {vr:Option Ob} {ps:List Pr} {cells:List V} {up:List (Pr × Pr)} {b lk:Int} {L:List Nd} {H:List (Pr × Tm)} {f g:Nat→Int} {sure:Bool} {x:Pr}
 (hk:kV=17∧kW=18∨kV=18∧kW=17) (hf:Fst up) (hA:AllH L H) (hb:0≤b∧b≤2199023255552) (hL:L.length≤100000) (hx:ps[i]?=some x) (hl:ps.length≤1000) (hg:Got up H (ps.take i)) (hx1:x.k=3) :
 W P G 157 0 wd [(12,.ptr 8 w8 0),(15,.ptr 16 wb 0),(16,.ptr kW wW 0),(26,ofV wp wh wg wb),(118,.sl 21 w21 0 3 ps.length none),(119,.int .i64 ((ps.length:Nat):Int)),(120,.int .i64 ((i:Nat):Int))] ⟨t,kG F.fmt v0 v1 v2 v3 v4 L++frZ v0 wg wb wu wp wm wh (y3 y kV kW vr (some (.arr wW 49 (woC kV wV n lk (QK L up H (ps.take i) 1 f 32) ws cnt sure))) (some (.arr ws 44 (QK L up H (ps.take i) 2 g cnt))) (some (.arr w21 64 (fl prC ps++cells)))) up L H b⟩
   (YH (fun fr σ=>∃ fr' σ',Shift G 157 0 fr σ fr' σ'∧QH fr' [(12,.ptr 8 w8 0),(15,.ptr 16 wb 0),(16,.ptr kW wW 0),(26,ofV wp wh wg wb),(118,.sl 21 w21 0 3 ps.length none),(119,.int .i64 ((ps.length:Nat):Int)),(120,.int .i64 ((i+1:Nat):Int))]∧∃ t',σ'=⟨t',kG F.fmt v0 v1 v2 v3 v4 L++frZ v0 wg wb wu wp wm wh (y3 y kV kW vr (some (.arr wW 49 (woC kV wV n lk (QK L up H (ps.take (i+1)) 1 f 32) ws cnt sure))) (some (.arr ws 44 (QK L up H (ps.take (i+1)) 2 g cnt))) (some (.arr w21 64 (fl prC ps++cells)))) up L H b⟩) fun e fr σ=>False):=by
 have hi:=(List.getElem?_eq_some_iff.1 hx).1
 have hD:=ZJ hx cells
 have hsz:i * 3+3≤ps.length * 3+cells.length:=by omega
 have e2:IntKind.i64.wrap ((i:Int)+1)=((i+1:Nat):Int):=YJ hi (by omega)
 have hk1:(x.k==1)=false:=by simp [hx1]
 have hk2:(x.k==2)=false:=by simp [hx1]
 rw [Qy hx,← QqU (k:=1) (by omega),← QqU (k:=2) (by omega)]
 rcases hk with ⟨rfl,rfl⟩ | ⟨rfl,rfl⟩
 ·simp only [frZ,y3,woC,rq,if_true,if_false] at hD ⊢
  refine Ql 12 ?_
  refine ye ?_
  iterate 10 (try (refine Qa 4 ?_; simp -implicitDefEqProofs (disch:=omega) only [go_sem,↓reduceIte,reduceCtorEq,rA,rq,rL,hD,hsz,hk1,hk2]))
  iterate 10 (try (refine Qa 4 ?_; simp -implicitDefEqProofs (disch:=omega) only [go_sem,↓reduceIte,reduceCtorEq,rA,rq,rL,rT,Nat.reduceSub,Nat.reduceMul,Int.reduceToNat,Int.reduceLE,Int.reduceLT,Int.reduceEq,Int.reduceNe,Nat.reduceBEq,Nat.reduceBNe,Int.reduceBEq,List.getElem?_cons_zero,List.getElem?_cons_succ,hi,hD,hsz,hk1,hk2]))
  refine ⟨_,_,Shift.drop (o':=_) (XK (kG F.fmt v0 v1 v2 v3 v4 L++frZ v0 wg wb wu wp wm wh (y3 y 17 18 vr (some (.arr wW 49 (woC 17 wV n lk (QK L up H (ps.take i) 1 f 32) ws cnt sure))) (some (.arr ws 44 (QK L up H (ps.take i) 2 g cnt))) (some (.arr w21 64 (fl prC ps++cells)))) up L H b) [_]) (lR _) (zL _),?_,_,rfl⟩
  simp only [QH]; simp -implicitDefEqProofs (disch:=omega) only [go_sem,↓reduceIte,rq,e2]
 ·simp only [frZ,y3,woC,rq,if_true,if_false] at hD ⊢
  refine Ql 12 ?_
  refine ye ?_
  iterate 10 (try (refine Qa 4 ?_; simp -implicitDefEqProofs (disch:=omega) only [go_sem,↓reduceIte,reduceCtorEq,rA,rq,rL,hD,hsz,hk1,hk2]))
  iterate 10 (try (refine Qa 4 ?_; simp -implicitDefEqProofs (disch:=omega) only [go_sem,↓reduceIte,reduceCtorEq,rA,rq,rL,rT,Nat.reduceSub,Nat.reduceMul,Int.reduceToNat,Int.reduceLE,Int.reduceLT,Int.reduceEq,Int.reduceNe,Nat.reduceBEq,Nat.reduceBNe,Int.reduceBEq,List.getElem?_cons_zero,List.getElem?_cons_succ,hi,hD,hsz,hk1,hk2]))
  refine ⟨_,_,Shift.drop (o':=_) (XK (kG F.fmt v0 v1 v2 v3 v4 L++frZ v0 wg wb wu wp wm wh (y3 y 18 17 vr (some (.arr wW 49 (woC 18 wV n lk (QK L up H (ps.take i) 1 f 32) ws cnt sure))) (some (.arr ws 44 (QK L up H (ps.take i) 2 g cnt))) (some (.arr w21 64 (fl prC ps++cells)))) up L H b) [_]) (lR _) (zL _),?_,_,rfl⟩
  simp only [QH]; simp -implicitDefEqProofs (disch:=omega) only [go_sem,↓reduceIte,rq,e2]
end
section
attribute [local go_sem] nF nT aA cA List.drop_nil List.drop_succ_cons List.drop_zero lA lC lN nA List.set_cons_succ List.set_cons_zero tN tS tZ aZ lR Nat.mul_one Nat.one_mul Nat.succ_ne_zero zA zL Nat.zero_mul Option.getD_none Option.getD_some Option.isSome_none Option.isSome_some and_true beq_self_eq_true bne_self_eq_false decide_false decide_true false_implies YR ge_iff_le gt_iff_lt Qnz Qkg Qnh Qsl QAB QAA Qeb QcM Qbc QgB QdB Qg0 Qh2 Qny Qnx Qrc Qrb Qra Qtf Qq9 Qq8 Qnw Qnv QvC Qq7 Qte Qtd Qq6 Qtc Qtb Qta QvB QvA QjW QjV QjU Qml Qmk QjT QjS QjR QoA Qmj Qoz Qmi Qmh Qmg Qoy Qmf Qox Qow Qai Qz not_false_eq_true not_true_eq_false Xs relate_Fresh QoY QoX QhC QhB Qgp QhA Qhz Qhy Qhx Qhw Qhv Qhu QoW Qht QeN QdZ QeM QeL QeK Qhs Qci QcT QcS QoV QcR QcQ QcP QcO QcN Qjo QoU QoT Qni QoS QoR QoQ true_and true_implies
def XJ:Nat→AC→AC
 | 0,c=>c
 | k+1,.seq _ c=>XJ k c
 | _,c=>c
abbrev QiP (G:Nat→Option V) (Q:V→Am.H→Prop):=QoH G relate_Fresh.res Q
variable {sure:Bool} {lk:Int} {kV n ws cnt:Nat}
theorem QHD {wV:Nat} {rg:List V} (h:rg.length=32):(woC kV wV n lk rg ws cnt sure).length=36:=by simp [woC,h]
variable {f:Nat→Int} {l:List Pr} {L:List Nd}
theorem QzG {wV:Nat} {up:List (Pr × Pr)} {H:List (Pr × Tm)} {k:Int}:ones (woC kV wV n lk (QK L up H l k f 32) ws cnt sure):=by
 intro c hc
 simp only [woC,QK,List.mem_cons,List.mem_append,List.mem_map,List.not_mem_nil,or_false] at hc
 rcases hc with rfl | rfl | ⟨r,_,rfl⟩ | rfl | rfl <;> rfl
theorem fr_D {fmt:Int→List UInt8} {v0 v1 v2 v3 v4 wg wb wu wp wm wh w8 kW wV wW t:Nat} {y:Nat→Option Ob} {vr sr row:Option Ob} {up up':List (Pr × Pr)} {b:Int} {L':List Nd} {H H':List (Pr × Tm)} {z8:List V} {Q:V→Am.H→Prop}
 (hk:kV=17∧kW=18∨kV=18∧kW=17) (h8:y 8=some (.arr w8 49 z8)) (hz:z8.length=36)
 (hQ:∀ y',Q (.tup [.agg (woC kV wV n lk (QK L' up' H' l 1 f 32) ws cnt sure),.int .i64 b]) ⟨t,kG fmt v0 v1 v2 v3 v4 L++frZ v0 wg wb wu wp wm wh (y3 y' kV kW vr (some (.arr wW 49 (woC kV wV n lk (QK L' up' H' l 1 f 32) ws cnt sure))) sr row) up L H b⟩) :
 W P G 157 0 (XJ 12 relate_Fresh.body) [(12,.ptr 8 w8 0),(15,.ptr 16 wb 0),(16,.ptr kW wW 0)] ⟨t,kG fmt v0 v1 v2 v3 v4 L++frZ v0 wg wb wu wp wm wh (y3 y kV kW vr (some (.arr wW 49 (woC kV wV n lk (QK L' up' H' l 1 f 32) ws cnt sure))) sr row) up L H b⟩ (QiP G Q):=by
 have hlen:=QHD (kV:=kV) (wV:=wV) (n:=n) (ws:=ws) (cnt:=cnt) (lk:=lk) (sure:=sure) (Xs L' up' H' l 1 f 32)
 have hones:=QzG (kV:=kV) (wV:=wV) (n:=n) (lk:=lk) (L:=L') (up:=up') (H:=H') (l:=l) (k:=1) (f:=f) (ws:=ws) (cnt:=cnt) (sure:=sure)
 have hq:=hQ fun i=>if i=8 then some (.arr w8 49 (woC kV wV n lk (QK L' up' H' l 1 f 32) ws cnt sure)) else y i
 generalize woC kV wV n lk (QK L' up' H' l 1 f 32) ws cnt sure=wo at *
 have htk:List.take 36 wo=wo:=List.take_of_length_le (by omega)
 have hdz:List.drop 36 z8=[]:=List.drop_of_length_le (by omega)
 have happ:wo++List.drop 36 z8=wo:=by rw [hdz,List.append_nil]
 show W P G 157 0 (.seq (.reg Qjo [155,156]) .ret) _ _ _
 rcases hk with ⟨rfl,rfl⟩ | ⟨rfl,rfl⟩
 ·simp only [frZ,y3,h8,rq,if_true,if_false] at hq ⊢
  refine Ql 12 ?_
  simp -implicitDefEqProofs (disch:=omega) only [go_sem,↓reduceIte,reduceCtorEq,rq,hlen,hones,htk,hz,hdz,QiP]
  repeat' (first | with_reducible refine And.intro ?_ ?_ | (refine Qa 12 ?_; simp -implicitDefEqProofs (disch:=omega) only [go_sem,↓reduceIte,reduceCtorEq,rA,rq,rL,rT,Nat.reduceSub,Nat.reduceMul,Int.reduceToNat,Int.reduceLE,Int.reduceLT,Int.reduceEq,Int.reduceNe,Nat.reduceBEq,Nat.reduceBNe,Int.reduceBEq,List.getElem?_cons_zero,List.getElem?_cons_succ,hlen,hones,htk,hz,hdz,happ,QiP]))
  all_goals exact hq
 ·simp only [frZ,y3,h8,rq,if_true,if_false] at hq ⊢
  refine Ql 12 ?_
  simp -implicitDefEqProofs (disch:=omega) only [go_sem,↓reduceIte,reduceCtorEq,rq,hlen,hones,htk,hz,hdz,QiP]
  repeat' (first | with_reducible refine And.intro ?_ ?_ | (refine Qa 12 ?_; simp -implicitDefEqProofs (disch:=omega) only [go_sem,↓reduceIte,reduceCtorEq,rA,rq,rL,rT,Nat.reduceSub,Nat.reduceMul,Int.reduceToNat,Int.reduceLE,Int.reduceLT,Int.reduceEq,Int.reduceNe,Nat.reduceBEq,Nat.reduceBNe,Int.reduceBEq,List.getElem?_cons_zero,List.getElem?_cons_succ,hlen,hones,htk,hz,hdz,happ,QiP]))
  all_goals exact hq
end
section
attribute [local go_sem] decide_false Qhs Qci
def vEs (i:Nat):List Pr:=(List.range i).map fun j:Nat=>vE ((j:Nat):Int)
theorem QzM (i:Nat):vEs (i+1)=vEs i++[vE ((i:Nat):Int)]:=by simp [vEs,List.range_succ]
theorem QHH {i j:Nat} (h:j<i):vE ((j:Nat):Int)∈vEs i:=List.mem_map.2 ⟨j,List.mem_range.2 h,rfl⟩
def plE (l:List Pr):List Pr:=(l.filter fun p=>decide (p.k≠3)).map pE
variable {x:Pr} {l:List Pr}
theorem QH4 (h:x.k=3):plE (l++[x])=plE l:=by simp [plE,List.filter_append,h]
theorem QqV (h:x.k≠3):plE (l++[x])=plE l++[pE x]:=by simp [plE,List.filter_append,h]
theorem QH5 (hx:x∈l) (h:x.k≠3):pE x∈plE l:=List.mem_map.2 ⟨x,List.mem_filter.2 ⟨hx,by simpa using h⟩,rfl⟩
theorem QH6 (l:List Pr):(plE l).length≤l.length:=by unfold plE; rw [lM]; exact List.length_filter_le _ _
theorem Qji (up:List (Pr × Pr)) (S:List (Pr × Tm) × Int) (es:List Pr) (e:Pr):asked up S (es++[e])=ofT up (asked up S es) e:=by simp [asked,List.foldl_append]
theorem Qx5 (up:List (Pr × Pr)) (S:List (Pr × Tm) × Int) (e:Pr):S.2≤(ofT up S e).2∧(ofT up S e).2≤S.2+1:=by
 unfold ofT; split
 ·exact ⟨by show S.2≤S.2+1; omega,Int.le_refl _⟩
 ·exact ⟨Int.le_refl _,by omega⟩
theorem Qlg (up:List (Pr × Pr)):∀ (es:List Pr) (S:List (Pr × Tm) × Int),S.2≤(asked up S es).2∧(asked up S es).2≤S.2+(es.length:Nat)
 | [],S=>by simp [asked]
 | e::es,S=>by
   have h1:=Qx5 up S e
   have h2:=Qlg up es (ofT up S e)
   have:asked up S (e::es)=asked up (ofT up S e) es:=rfl
   rw [this]
   simp only [lC]
   omega
variable {S:List (Pr × Tm) × Int} {L L':List Nd}
theorem QiM {up:List (Pr × Pr)} {e:Pr} (hA:AllH L S.1) (hE:Ext L L') (h:(Re.get S.1 (Qi up e)).isSome) (es:List Pr):ZV L' up (asked up S es).1 e=ZV L up S.1 e:=by
 obtain ⟨t,ht⟩:=Option.isSome_iff_exists.1 h
 rw [XZ ht,XZ (Qbu (up:=up) ht),Xm (hA.get ht) hE]
variable {n:Nat}
theorem Qvc {up:List (Pr × Pr)} (hA:AllH L S.1) (hE:Ext L L') (h:∀ j,j<n→(Re.get S.1 (Qi up (vE ((j:Nat):Int)))).isSome) (es:List Pr):YG L up S.1 n n=YG L' up (asked up S es).1 n n:=by
 unfold YG
 refine List.map_congr_left fun j hj=>?_
 have:=List.mem_range.1 hj
 rw [if_pos this,if_pos this,QiM hA hE (h j this)]
variable {f:Nat→Int}
theorem Qaq {up up':List (Pr × Pr)} {H H':List (Pr × Tm)} {k:Int}:QK L up H [] k f n=QK L' up' H' [] k f n:=by simp [QK]
def QJw (cnt:Nat) (x:Pr):Prop:=(x.k=1∧∃ r:Nat,x.n=((r:Nat):Int)∧r<32)∨(x.k=2∧∃ r:Nat,x.n=((r:Nat):Int)∧r<cnt)∨x.k=3
theorem fr_C3 (hT:Qh P tab) (F:Fmt P G) {v0 v1 v2 v3 v4 wg wb wu wp wm wh w21 w8 kV kW wV wW ws t cnt:Nat} {y:Nat→Option Ob} {vr:Option Ob} {ps:List Pr} {cells:List V} {up:List (Pr × Pr)} {lk:Int} {g:Nat→Int} {sure:Bool} {z8:List V} {Q:V→Am.H→Prop}
 (hk:kV=17∧kW=18∨kV=18∧kW=17) (hf:Fst up) (hA:AllH L S.1) (hb:0≤S.2∧S.2≤1199023255552) (hL:L.length≤50000) (hl:ps.length≤1000) (hcnt:cnt≤100) (hps:∀ x∈ps,QJw cnt x) (h8:y 8=some (.arr w8 49 z8)) (hz:z8.length=36)
 (hQ:∀ y' L' t' u2 u3 u4,Ext L L'→L'.length≤L.length+ps.length→AllH L' (asked up S (plE ps)).1→Q (.tup [.agg (woC kV wV n lk (QK L' up (asked up S (plE ps)).1 ps 1 f 32) ws cnt sure),.int .i64 (asked up S (plE ps)).2]) ⟨t',kG F.fmt v0 v1 u2 u3 u4 L'++frZ v0 wg wb wu wp wm wh (y3 y' kV kW vr (some (.arr wW 49 (woC kV wV n lk (QK L' up (asked up S (plE ps)).1 ps 1 f 32) ws cnt sure))) (some (.arr ws 44 (QK L' up (asked up S (plE ps)).1 ps 2 g cnt))) (some (.arr w21 64 (fl prC ps++cells)))) up L' (asked up S (plE ps)).1 (asked up S (plE ps)).2⟩) :
 W P G 157 0 (XJ 11 relate_Fresh.body) [(1,.sl 21 w21 0 3 ps.length none),(12,.ptr 8 w8 0),(15,.ptr 16 wb 0),(16,.ptr kW wW 0),(26,ofV wp wh wg wb)] ⟨t,kG F.fmt v0 v1 v2 v3 v4 L++frZ v0 wg wb wu wp wm wh (y3 y kV kW vr (some (.arr wW 49 (woC kV wV n lk (QK L up S.1 [] 1 f 32) ws cnt sure))) (some (.arr ws 44 (QK L up S.1 [] 2 g cnt))) (some (.arr w21 64 (fl prC ps++cells)))) up L S.1 S.2⟩ (QiP G Q):=by
 show W P G 157 0 (.seq (.seq (.reg Qhs []) (.block 6 (.loop wd))) (XJ 12 relate_Fresh.body)) _ _ _
 refine Ql 12 ?_
 refine ya ?_
 refine XS ps (fun i fr σ=>∃ L' t' u2 u3 u4,Ext L L'∧L'.length≤L.length+i∧AllH L' (asked up S (plE (ps.take i))).1∧QH fr [(12,.ptr 8 w8 0),(15,.ptr 16 wb 0),(16,.ptr kW wW 0),(26,ofV wp wh wg wb),(118,.sl 21 w21 0 3 ps.length none),(119,.int .i64 ((ps.length:Nat):Int)),(120,.int .i64 ((i:Nat):Int))]∧σ=⟨t',kG F.fmt v0 v1 u2 u3 u4 L'++frZ v0 wg wb wu wp wm wh (y3 y kV kW vr (some (.arr wW 49 (woC kV wV n lk (QK L' up (asked up S (plE (ps.take i))).1 (ps.take i) 1 f 32) ws cnt sure))) (some (.arr ws 44 (QK L' up (asked up S (plE (ps.take i))).1 (ps.take i) 2 g cnt))) (some (.arr w21 64 (fl prC ps++cells)))) up L' (asked up S (plE (ps.take i))).1 (asked up S (plE (ps.take i))).2⟩)
  (fun e fr σ=>e=.ex 6∧∃ L' t' u2 u3 u4,Ext L L'∧L'.length≤L.length+ps.length∧AllH L' (asked up S (plE ps)).1∧QH fr [(12,.ptr 8 w8 0),(15,.ptr 16 wb 0),(16,.ptr kW wW 0),(26,ofV wp wh wg wb),(118,.sl 21 w21 0 3 ps.length none),(119,.int .i64 ((ps.length:Nat):Int))]∧σ=⟨t',kG F.fmt v0 v1 u2 u3 u4 L'++frZ v0 wg wb wu wp wm wh (y3 y kV kW vr (some (.arr wW 49 (woC kV wV n lk (QK L' up (asked up S (plE ps)).1 ps 1 f 32) ws cnt sure))) (some (.arr ws 44 (QK L' up (asked up S (plE ps)).1 ps 2 g cnt))) (some (.arr w21 64 (fl prC ps++cells)))) up L' (asked up S (plE ps)).1 (asked up S (plE ps)).2⟩)
  ⟨L,t,v2,v3,v4,Ext.refl L,by omega,hA,?_,rfl⟩ (fun i x hx fr σ hJ=>?_) (fun i hi fr σ hJ=>?_) (fun e fr σ hE=>?_)
 ·simp only [QH]; simp -implicitDefEqProofs (disch:=omega) only [go_sem,↓reduceIte,rq]; try rfl
 ·obtain ⟨L1,t1,u2,u3,u4,hE,hLl,hA1,hh,rfl⟩:=hJ
  have hi:=(List.getElem?_eq_some_iff.1 hx).1
  have hxm:=List.mem_of_getElem? hx
  have hg:Got up (asked up S (plE (ps.take i))).1 (ps.take i):=fun p hp hp3=>Qil (QH5 hp hp3)
  have hle:=Qlg up (plE (ps.take i)) S
  have hpl:(plE (ps.take i)).length≤1000:=Nat.le_trans (QH6 _) (by rw [List.length_take]; omega)
  rcases hps x hxm with ⟨h1,r,hr,hr2⟩ | ⟨h1,r,hr,hr2⟩ | h3
  ·have hS:asked up S (plE (ps.take (i+1)))=ofT up (asked up S (plE (ps.take i))) (pE x):=by rw [Qy hx,QqV (by omega),Qji]
   refine (Xv _ hh (QIF hT F hk hf hA1 (by omega) (by omega) hx hl hg h1 hr hr2)).conseq fun e fr σ h=>?_
   cases e with
   | nrm =>
     obtain ⟨fr',σ',q1,q2,L2,t2,w2,w3,w4,q3,q4,q5,q6⟩:=h
     exact ⟨fr',σ',q1,L2,t2,w2,w3,w4,hE.trans q3,by omega,by rw [hS]; exact q5,q2,by rw [hS]; exact q6⟩
   | ex id=>exact h.elim
   | ret=>exact h.elim
  ·have hS:asked up S (plE (ps.take (i+1)))=ofT up (asked up S (plE (ps.take i))) (pE x):=by rw [Qy hx,QqV (by omega),Qji]
   rcases hk with hk' | hk'
   ·refine (Xv _ hh (Qyy hT F hk' hf hA1 (by omega) (by omega) hx hl hg h1 hr hr2 hcnt)).conseq fun e fr σ h=>?_
    cases e with
    | nrm =>
      obtain ⟨fr',σ',q1,q2,L2,t2,w2,w3,w4,q3,q4,q5,q6⟩:=h
      exact ⟨fr',σ',q1,L2,t2,w2,w3,w4,hE.trans q3,by omega,by rw [hS]; exact q5,q2,by rw [hS]; exact q6⟩
    | ex id=>exact h.elim
    | ret=>exact h.elim
   ·refine (Xv _ hh (Qyx hT F hk' hf hA1 (by omega) (by omega) hx hl hg h1 hr hr2 hcnt)).conseq fun e fr σ h=>?_
    cases e with
    | nrm =>
      obtain ⟨fr',σ',q1,q2,L2,t2,w2,w3,w4,q3,q4,q5,q6⟩:=h
      exact ⟨fr',σ',q1,L2,t2,w2,w3,w4,hE.trans q3,by omega,by rw [hS]; exact q5,q2,by rw [hS]; exact q6⟩
    | ex id=>exact h.elim
    | ret=>exact h.elim
  ·have hS:asked up S (plE (ps.take (i+1)))=asked up S (plE (ps.take i)):=by rw [Qy hx,QH4 h3]
   refine (Xv _ hh (QIG (r:=0) hT F hk hf hA1 (by omega) (by omega) hx hl hg h3)).conseq fun e fr σ h=>?_
   cases e with
   | nrm =>
     obtain ⟨fr',σ',q1,q2,t2,q6⟩:=h
     exact ⟨fr',σ',q1,L1,t2,u2,u3,u4,hE,by omega,by rw [hS]; exact hA1,q2,by rw [hS]; exact q6⟩
   | ex id=>exact h.elim
   | ret=>exact h.elim
 ·obtain ⟨L1,t1,u2,u3,u4,hE,hLl,hA1,hh,rfl⟩:=hJ
  rw [hi,List.take_length] at hA1 ⊢
  refine Qe _ hh 12 ?_
  refine yd ?_
  refine ⟨L1,t1,u2,u3,u4,hE,by omega,hA1,?_,rfl,rfl⟩
  simp only [QH]; simp -implicitDefEqProofs (disch:=omega) only [go_sem,↓reduceIte,rq]
 ·obtain ⟨rfl,L1,t1,u2,u3,u4,hE,hLl,hA1,hh,rfl⟩:=hE
  refine Qax [(12,.ptr 8 w8 0),(15,.ptr 16 wb 0),(16,.ptr kW wW 0)] ?_ (fr_D hk h8 hz fun y'=>hQ y' L1 t1 u2 u3 u4 hE hLl hA1)
  simp only [QH] at hh ⊢
  exact ⟨hh.1,hh.2.1,hh.2.2.1,trivial⟩
end
section
attribute [local go_sem] aZ zA decide_false QeN QdZ
theorem fr_C2 (hT:Qh P tab) (F:Fmt P G) {v0 v1 v2 v3 v4 wg wb wu wp wm wh w21 w8 kV kW wV wW ws t n cnt:Nat} {y:Nat→Option Ob} {ps:List Pr} {cells:List V} {up:List (Pr × Pr)} {S:List (Pr × Tm) × Int} {lk:Int} {L:List Nd} {f g:Nat→Int} {sure:Bool} {z8:List V} {Q:V→Am.H→Prop}
 (hk:kV=17∧kW=18∨kV=18∧kW=17) (hf:Fst up) (hA:AllH L S.1) (hb:0≤S.2∧S.2≤1199023255000) (hL:L.length≤40000) (hn:n≤10) (hl:ps.length≤1000) (hcnt:cnt≤100) (hps:∀ x∈ps,QJw cnt x) (h8:y 8=some (.arr w8 49 z8)) (hz:z8.length=36)
 (hQ:∀ y' L1 L' t' u2 u3 u4,Ext L L1→Ext L1 L'→AllH L1 (asked up S (vEs n)).1→L'.length≤L.length+n+ps.length→AllH L' (asked up (asked up S (vEs n)) (plE ps)).1→Q (.tup [.agg (woC kV wV n lk (QK L' up (asked up (asked up S (vEs n)) (plE ps)).1 ps 1 f 32) ws cnt sure),.int .i64 (asked up (asked up S (vEs n)) (plE ps)).2]) ⟨t',kG F.fmt v0 v1 u2 u3 u4 L'++frZ v0 wg wb wu wp wm wh (y3 y' kV kW (some (.arr wV 44 (YG L' up (asked up (asked up S (vEs n)) (plE ps)).1 n n))) (some (.arr wW 49 (woC kV wV n lk (QK L' up (asked up (asked up S (vEs n)) (plE ps)).1 ps 1 f 32) ws cnt sure))) (some (.arr ws 44 (QK L' up (asked up (asked up S (vEs n)) (plE ps)).1 ps 2 g cnt))) (some (.arr w21 64 (fl prC ps++cells)))) up L' (asked up (asked up S (vEs n)) (plE ps)).1 (asked up (asked up S (vEs n)) (plE ps)).2⟩) :
 W P G 157 0 (XJ 10 relate_Fresh.body) [(1,.sl 21 w21 0 3 ps.length none),(12,.ptr 8 w8 0),(15,.ptr 16 wb 0),(16,.ptr kW wW 0),(26,ofV wp wh wg wb)] ⟨t,kG F.fmt v0 v1 v2 v3 v4 L++frX v0 wg wb wu wp wm wh (y3 y kV kW (some (.arr wV 44 (YG L up S.1 0 n))) (some (.arr wW 49 (woC kV wV n lk (QK L up S.1 [] 1 f 32) ws cnt sure))) (some (.arr ws 44 (QK L up S.1 [] 2 g cnt))) (some (.arr w21 64 (fl prC ps++cells)))) up L S.1 S.2⟩ (QiP G Q):=by
 have hsome:∀ i,∀ j,j<i→(Re.get (asked up S (vEs i)).1 (Qi up (vE ((j:Nat):Int)))).isSome:=fun i j hj=>Qil (QHH hj)
 have hpl:=Xs L up S.1 [] 1 f 32
 have pre:W P G 157 0 (.reg QeN [103,104]) [(1,.sl 21 w21 0 3 ps.length none),(12,.ptr 8 w8 0),(15,.ptr 16 wb 0),(16,.ptr kW wW 0),(26,ofV wp wh wg wb)] ⟨t,kG F.fmt v0 v1 v2 v3 v4 L++frX v0 wg wb wu wp wm wh (y3 y kV kW (some (.arr wV 44 (YG L up S.1 0 n))) (some (.arr wW 49 (woC kV wV n lk (QK L up S.1 [] 1 f 32) ws cnt sure))) (some (.arr ws 44 (QK L up S.1 [] 2 g cnt))) (some (.arr w21 64 (fl prC ps++cells)))) up L S.1 S.2⟩
  (fun e fr σ=>e=.nrm∧QH fr [(1,.sl 21 w21 0 3 ps.length none),(12,.ptr 8 w8 0),(15,.ptr 16 wb 0),(16,.ptr kW wW 0),(26,ofV wp wh wg wb),(105,.int .i64 ((n:Nat):Int)),(106,.int .i64 0)]∧σ=⟨t,kG F.fmt v0 v1 v2 v3 v4 L++frX v0 wg wb wu wp wm wh (y3 y kV kW (some (.arr wV 44 (YG L up S.1 0 n))) (some (.arr wW 49 (woC kV wV n lk (QK L up S.1 [] 1 f 32) ws cnt sure))) (some (.arr ws 44 (QK L up S.1 [] 2 g cnt))) (some (.arr w21 64 (fl prC ps++cells)))) up L S.1 S.2⟩):=by
  rcases hk with ⟨rfl,rfl⟩ | ⟨rfl,rfl⟩ <;>
  ·simp only [frX,y3,woC,rq,if_true,if_false]
   refine Ql 12 ?_
   simp -implicitDefEqProofs (disch:=omega) only [go_sem,↓reduceIte,rA,rq,rL,Qnw,Qnv,true_implies,true_and,and_true,lC,lN,lA,hpl]
   try (simp only [QH]; simp -implicitDefEqProofs (disch:=omega) only [go_sem,↓reduceIte,rq])
 show W P G 157 0 (.seq (.seq (.reg QeN [103,104]) (.block 4 (.loop we))) (XJ 11 relate_Fresh.body)) _ _ _
 refine Ql 2 ?_
 show W P G 157 0 (.reg QeN [103,104]) _ _ (fun e fr σ=>sem P G 157 0 (QiP G Q) [.ac (.block 4 (.loop we)),.ac (XJ 11 relate_Fresh.body)] e fr σ)
 refine pre.conseq fun e fr σ h=>?_
 obtain ⟨rfl,hh0,rfl⟩:=h
 refine Qa 1 ?_
 show sem P G 157 0 (QiP G Q) [.ac (.loop we),.blk 4,.ac (XJ 11 relate_Fresh.body)] .nrm fr _
 refine XS (List.range n) (fun i fr σ=>∃ L' t' u2 u3 u4,Ext L L'∧L'.length≤L.length+i∧AllH L' (asked up S (vEs i)).1∧QH fr [(1,.sl 21 w21 0 3 ps.length none),(12,.ptr 8 w8 0),(15,.ptr 16 wb 0),(16,.ptr kW wW 0),(26,ofV wp wh wg wb),(105,.int .i64 ((n:Nat):Int)),(106,.int .i64 ((i:Nat):Int))]∧σ=⟨t',kG F.fmt v0 v1 u2 u3 u4 L'++frX v0 wg wb wu wp wm wh (y3 y kV kW (some (.arr wV 44 (YG L' up (asked up S (vEs i)).1 i n))) (some (.arr wW 49 (woC kV wV n lk (QK L up S.1 [] 1 f 32) ws cnt sure))) (some (.arr ws 44 (QK L up S.1 [] 2 g cnt))) (some (.arr w21 64 (fl prC ps++cells)))) up L' (asked up S (vEs i)).1 (asked up S (vEs i)).2⟩)
  (fun e fr σ=>e=.ex 4∧∃ L' t' u2 u3 u4,Ext L L'∧L'.length≤L.length+n∧AllH L' (asked up S (vEs n)).1∧QH fr [(1,.sl 21 w21 0 3 ps.length none),(12,.ptr 8 w8 0),(15,.ptr 16 wb 0),(16,.ptr kW wW 0),(26,ofV wp wh wg wb)]∧σ=⟨t',kG F.fmt v0 v1 u2 u3 u4 L'++frX v0 wg wb wu wp wm wh (y3 y kV kW (some (.arr wV 44 (YG L' up (asked up S (vEs n)).1 n n))) (some (.arr wW 49 (woC kV wV n lk (QK L up S.1 [] 1 f 32) ws cnt sure))) (some (.arr ws 44 (QK L up S.1 [] 2 g cnt))) (some (.arr w21 64 (fl prC ps++cells)))) up L' (asked up S (vEs n)).1 (asked up S (vEs n)).2⟩)
  ⟨L,t,v2,v3,v4,Ext.refl L,by omega,hA,hh0,rfl⟩ (fun i x hx fr σ hJ=>?_) (fun i hi fr σ hJ=>?_) (fun e fr σ hE=>?_)
 ·obtain ⟨L1,t1,u2,u3,u4,hE,hLl,hA1,hh,rfl⟩:=hJ
  have hi:i<n:=by have:=(List.getElem?_eq_some_iff.1 hx).1; simpa using this
  have hle:=Qlg up (vEs i) S
  have hvl:(vEs i).length=i:=by simp [vEs]
  have hS:asked up S (vEs (i+1))=ofT up (asked up S (vEs i)) (vE ((i:Nat):Int)):=by rw [QzM,Qji]
  refine (Xv _ hh (Qyz hT F (b:=(asked up S (vEs i)).2) (y:=fun k=>if k=14 then some (.arr ws 44 (QK L up S.1 [] 2 g cnt)) else if k=21 then some (.arr w21 64 (fl prC ps++cells)) else y k) (rest:=.int .i64 lk::(QK L up S.1 [] 1 f 32++[.sl 14 ws 0 1 cnt none,.bool sure])) hk hf hA1 (by omega) (by omega) hi hn (by simp [hpl]) (hsome i))).conseq fun e fr σ h=>?_
  cases e with
  | nrm =>
    obtain ⟨fr',σ',q1,q2,L2,t2,w2,w3,w4,q3,q4,q5,q6⟩:=h
    exact ⟨fr',σ',q1,L2,t2,w2,w3,w4,hE.trans q3,by omega,by rw [hS]; exact q5,q2,by rw [hS]; exact q6⟩
  | ex id=>exact h.elim
  | ret=>exact h.elim
 ·obtain ⟨L1,t1,u2,u3,u4,hE,hLl,hA1,hh,rfl⟩:=hJ
  have hin:i=n:=by simpa using hi
  subst hin
  refine Qe _ hh 12 ?_
  simp -implicitDefEqProofs (disch:=omega) only [go_sem,↓reduceIte,rq,Nat.lt_irrefl]
  refine ⟨L1,t1,u2,u3,u4,hE,by omega,hA1,?_,rfl,rfl⟩
  simp only [QH]; simp -implicitDefEqProofs (disch:=omega) only [go_sem,↓reduceIte,rq]
 ·obtain ⟨rfl,L1,t1,u2,u3,u4,hE,hLl,hA1,hh,rfl⟩:=hE
  have hle:=Qlg up (vEs n) S
  have hvl:(vEs n).length=n:=by simp [vEs]
  refine Qax [(1,.sl 21 w21 0 3 ps.length none),(12,.ptr 8 w8 0),(15,.ptr 16 wb 0),(16,.ptr kW wW 0),(26,ofV wp wh wg wb)] hh (Xf (Shift.drop (o':=_) (XK (kG F.fmt v0 v1 u2 u3 u4 L1++frZ v0 wg wb wu wp wm wh (y3 y kV kW (some (.arr wV 44 (YG L1 up (asked up S (vEs n)).1 n n))) (some (.arr wW 49 (woC kV wV n lk (QK L up S.1 [] 1 f 32) ws cnt sure))) (some (.arr ws 44 (QK L up S.1 [] 2 g cnt))) (some (.arr w21 64 (fl prC ps++cells)))) up L1 (asked up S (vEs n)).1 (asked up S (vEs n)).2) [_]) (lR _) (zL _)) ?_)
  rw [Qaq (L:=L) (up:=up) (H:=S.1) (L':=L1) (up':=up) (H':=(asked up S (vEs n)).1) (k:=1),Qaq (L:=L) (up:=up) (H:=S.1) (L':=L1) (up':=up) (H':=(asked up S (vEs n)).1) (k:=2)]
  refine fr_C3 hT F hk hf hA1 (by omega) (by omega) hl hcnt hps h8 hz fun y' L2 t2 w2 w3 w4 q1 q2 q3=>?_
  rw [Qvc hA1 q1 (hsome n) (plE ps)]
  exact hQ y' L1 L2 t2 w2 w3 w4 hE q1 hA1 (by omega) q3
end
section
attribute [local go_sem] nF zA zL Qhu Qht
def Qgo (n:Nat) (ps:List Pr):List Pr:=vE (-1)::(vEs n++plE ps)
theorem Qm6 (up:List (Pr × Pr)) (S:List (Pr × Tm) × Int) (a b:List Pr):asked up S (a++b)=asked up (asked up S a) b:=by simp [asked,List.foldl_append]
theorem Qdl (up:List (Pr × Pr)) (S:List (Pr × Tm) × Int) (n:Nat) (ps:List Pr):asked up S (Qgo n ps)=asked up (asked up (ofT up S (vE (-1))) (vEs n)) (plE ps):=by
 rw [Qgo,← Qm6]; rfl
theorem fr_B (hT:Qh P tab) (F:Fmt P G) {v0 v1 v2 v3 v4 wg wb wu wp wm wh w21 w8 kV kW wV wW ws t n cnt:Nat} {y:Nat→Option Ob} {ps:List Pr} {cells:List V} {up:List (Pr × Pr)} {S:List (Pr × Tm) × Int} {L:List Nd} {f g:Nat→Int} {sure:Bool} {z8:List V} {Q:V→Am.H→Prop}
 (hk:kV=17∧kW=18∨kV=18∧kW=17) (hf:Fst up) (hA:AllH L S.1) (hb:0≤S.2∧S.2≤1199023254000) (hL:L.length≤30000) (hn:n≤10) (hl:ps.length≤1000) (hcnt:cnt≤100) (hps:∀ x∈ps,QJw cnt x) (h8:y 8=some (.arr w8 49 z8)) (hz:z8.length=36)
 (hQ:∀ y' L' t' u2 u3 u4,Ext L L'→L'.length≤L.length+1+n+ps.length→AllH L' (asked up S (Qgo n ps)).1→Q (.tup [.agg (woC kV wV n (ZV L' up (asked up S (Qgo n ps)).1 (vE (-1))) (QK L' up (asked up S (Qgo n ps)).1 ps 1 f 32) ws cnt sure),.int .i64 (asked up S (Qgo n ps)).2]) ⟨t',kG F.fmt v0 v1 u2 u3 u4 L'++frZ v0 wg wb wu wp wm wh (y3 y' kV kW (some (.arr wV 44 (YG L' up (asked up S (Qgo n ps)).1 n n))) (some (.arr wW 49 (woC kV wV n (ZV L' up (asked up S (Qgo n ps)).1 (vE (-1))) (QK L' up (asked up S (Qgo n ps)).1 ps 1 f 32) ws cnt sure))) (some (.arr ws 44 (QK L' up (asked up S (Qgo n ps)).1 ps 2 g cnt))) (some (.arr w21 64 (fl prC ps++cells)))) up L' (asked up S (Qgo n ps)).1 (asked up S (Qgo n ps)).2⟩) :
 W P G 157 0 (XJ 8 relate_Fresh.body) [(1,.sl 21 w21 0 3 ps.length none),(6,.ptr 5 wg 0),(12,.ptr 8 w8 0),(15,.ptr 16 wb 0),(16,.ptr kW wW 0),(17,.ptr 20 wp 0),(20,.ptr 23 wh 0)] ⟨t,kG F.fmt v0 v1 v2 v3 v4 L++frX v0 wg wb wu wp wm wh (y3 y kV kW (some (.arr wV 44 (YG L up S.1 0 n))) (some (.arr wW 49 (woC kV wV n 0 (QK L up S.1 [] 1 f 32) ws cnt sure))) (some (.arr ws 44 (QK L up S.1 [] 2 g cnt))) (some (.arr w21 64 (fl prC ps++cells)))) up L S.1 S.2⟩ (QiP G Q):=by
 have hpl:=Xs L up S.1 [] 1 f 32
 have hof:=QyX (P:=P) (G:=G) hT F (v0:=v0) (v1:=v1) (v2:=v2) (v3:=v3) (v4:=v4) (wg:=wg) (wb:=wb) (wu:=wu) (wp:=wp) (wm:=wm) (wh:=wh) (t:=t) (y:=y3 y kV kW (some (.arr wV 44 (YG L up S.1 0 n))) (some (.arr wW 49 (woC kV wV n 0 (QK L up S.1 [] 1 f 32) ws cnt sure))) (some (.arr ws 44 (QK L up S.1 [] 2 g cnt))) (some (.arr w21 64 (fl prC ps++cells)))) (b:=S.2) hf hA (by omega) (by omega) (vE (-1))
 show W P G 157 0 (.seq (.reg Qhu [98]) (.seq (.reg Qht [99,100,101,102]) (XJ 10 relate_Fresh.body))) _ _ _
 obtain ⟨T10,hT10⟩:∃ c,c=XJ 10 relate_Fresh.body:=⟨_,rfl⟩
 rw [← hT10]
 rcases hk with ⟨rfl,rfl⟩ | ⟨rfl,rfl⟩
 ·simp only [frX,y3,woC,rq,if_true,if_false,prV,prC] at hof ⊢
  refine Ql 12 ?_
  refine yv ?_
  refine CV.use 3 (CV.of hT QT hof) fun v σ hv=>?_
  obtain ⟨tm,L2,t2,w2,w3,w4,x1,x2,x3,x4,x5,x6,rfl,rfl⟩:=hv
  simp -implicitDefEqProofs (disch:=omega) only [go_sem,↓reduceIte,rA,rq,rL,Qnv,QjR,and_true,lC,lN,cA,nA,lA,tS,tZ,List.drop_succ_cons,List.drop_zero,hpl]
  rw [hT10]
  have hle:=Qx5 up S (vE (-1))
  have hlk:Xc L2 (tmN tm)=ZV L2 up (ofT up S (vE (-1))).1 (vE (-1)):=(XZ x1).symm
  have e0:YG L up S.1 0 n=YG L2 up (ofT up S (vE (-1))).1 0 n:=by simp [YG]
  refine Xv [(1,.sl 21 w21 0 3 ps.length none),(12,.ptr 8 w8 0),(15,.ptr 16 wb 0),(16,.ptr 18 wW 0),(26,ofV wp wh wg wb)] (by simp only [QH]; simp -implicitDefEqProofs (disch:=omega) only [go_sem,↓reduceIte,rq]) ?_
  rw [hlk,e0,Qaq (L:=L) (up:=up) (H:=S.1) (L':=L2) (up':=up) (H':=(ofT up S (vE (-1))).1) (k:=1),Qaq (L:=L) (up:=up) (H:=S.1) (L':=L2) (up':=up) (H':=(ofT up S (vE (-1))).1) (k:=2)]
  refine fr_C2 hT F (kV:=17) (kW:=18) (y:=y) (S:=ofT up S (vE (-1))) (by simp) hf x4 (by omega) (by omega) hn hl hcnt hps h8 hz fun y' L3 L4 t4 u2 u3 u4 q1 q2 q3 q4 q5=>?_
  have hs1:(Re.get (ofT up S (vE (-1))).1 (Qi up (vE (-1)))).isSome:=by rw [x1]; rfl
  have hkeep:ZV L4 up (asked up S (Qgo n ps)).1 (vE (-1))=ZV L2 up (ofT up S (vE (-1))).1 (vE (-1)):=by
   rw [Qdl,← Qm6]; exact QiM x4 (q1.trans q2) hs1 _
  have:=hQ y' L4 t4 u2 u3 u4 (x2.trans (q1.trans q2)) (by omega) (by rw [Qdl]; exact q5)
  rw [hkeep,Qdl] at this
  exact this
 ·simp only [frX,y3,woC,rq,if_true,if_false,prV,prC] at hof ⊢
  refine Ql 12 ?_
  refine yv ?_
  refine CV.use 3 (CV.of hT QT hof) fun v σ hv=>?_
  obtain ⟨tm,L2,t2,w2,w3,w4,x1,x2,x3,x4,x5,x6,rfl,rfl⟩:=hv
  simp -implicitDefEqProofs (disch:=omega) only [go_sem,↓reduceIte,rA,rq,rL,Qnw,QjS,and_true,lC,lN,cA,nA,lA,tS,tZ,List.drop_succ_cons,List.drop_zero,hpl]
  rw [hT10]
  have hle:=Qx5 up S (vE (-1))
  have hlk:Xc L2 (tmN tm)=ZV L2 up (ofT up S (vE (-1))).1 (vE (-1)):=(XZ x1).symm
  have e0:YG L up S.1 0 n=YG L2 up (ofT up S (vE (-1))).1 0 n:=by simp [YG]
  refine Xv [(1,.sl 21 w21 0 3 ps.length none),(12,.ptr 8 w8 0),(15,.ptr 16 wb 0),(16,.ptr 17 wW 0),(26,ofV wp wh wg wb)] (by simp only [QH]; simp -implicitDefEqProofs (disch:=omega) only [go_sem,↓reduceIte,rq]) ?_
  rw [hlk,e0,Qaq (L:=L) (up:=up) (H:=S.1) (L':=L2) (up':=up) (H':=(ofT up S (vE (-1))).1) (k:=1),Qaq (L:=L) (up:=up) (H:=S.1) (L':=L2) (up':=up) (H':=(ofT up S (vE (-1))).1) (k:=2)]
  refine fr_C2 hT F (kV:=18) (kW:=17) (y:=y) (S:=ofT up S (vE (-1))) (by simp) hf x4 (by omega) (by omega) hn hl hcnt hps h8 hz fun y' L3 L4 t4 u2 u3 u4 q1 q2 q3 q4 q5=>?_
  have hs1:(Re.get (ofT up S (vE (-1))).1 (Qi up (vE (-1)))).isSome:=by rw [x1]; rfl
  have hkeep:ZV L4 up (asked up S (Qgo n ps)).1 (vE (-1))=ZV L2 up (ofT up S (vE (-1))).1 (vE (-1)):=by
   rw [Qdl,← Qm6]; exact QiM x4 (q1.trans q2) hs1 _
  have:=hQ y' L4 t4 u2 u3 u4 (x2.trans (q1.trans q2)) (by omega) (by rw [Qdl]; exact q5)
  rw [hkeep,Qdl] at this
  exact this
end
section
attribute [local go_sem] nF lR zA zL decide_false QhC QhB Qgp
theorem Qpc:∀ o:List (Option Ob),Xw (o++[none]) o
 | []=>by simp [Xw]
 | none::o=>by have:=Qpc o; simpa [Xw] using this
 | some x::o=>by have:=Qpc o; simpa [Xw] using this
variable {ps:List Pr} {b:Int} {L:List Nd} {y:Nat→Option Ob} {v0 wg wb wu w21 kV:Nat}
theorem frX_eq {wp wm wh kW:Nat} {vr wo sr:Option Ob} {up:List (Pr × Pr)} {H:List (Pr × Tm)} {cells:List V} (hk:kV=17∧kW=18∨kV=18∧kW=17) (h24:y 24=none) :
 frX v0 wg wb wu wp wm wh (y3 y kV kW vr wo sr (some (.arr w21 64 (fl prC ps++cells)))) up L H b=(frA v0 wg wb wu wp w21 (y3 y kV kW vr wo sr (some (.arr w21 64 (fl prC ps++cells)))) up ps cells b++frH wm wh L H)++[none]:=by
 rcases hk with ⟨rfl,rfl⟩ | ⟨rfl,rfl⟩ <;> simp [frX,frA,frH,y3,h24]
theorem fr_A1 (hT:Qh P tab) (F:Fmt P G) {v1 v2 v3 v4 wp w8 kW wV wW ws t n cnt:Nat} {cells:List V} {up:List (Pr × Pr)} {f g:Nat→Int} {sure:Bool} {z8:List V} {Q:V→Am.H→Prop}
 (hk:kV=17∧kW=18∨kV=18∧kW=17) (hf:Fst up) (hb:0≤b∧b≤1199023254000) (hL:L.length≤20000) (hn:n≤10) (hl:ps.length≤1000) (hcnt:cnt≤100) (hps:∀ x∈ps,QJw cnt x) (hpn:∀ x∈ps,i64 x.n) (h8:y 8=some (.arr w8 49 z8)) (h24:y 24=none) (hz:z8.length=36)
 (hQ:∀ wm wh y' L' t' u2 u3 u4,Ext L L'→L'.length≤L.length+1+n+2 * ps.length→AllH L' (asked up (nums up ps,b) (Qgo n ps)).1→Q (.tup [.agg (woC kV wV n (ZV L' up (asked up (nums up ps,b) (Qgo n ps)).1 (vE (-1))) (QK L' up (asked up (nums up ps,b) (Qgo n ps)).1 ps 1 f 32) ws cnt sure),.int .i64 (asked up (nums up ps,b) (Qgo n ps)).2]) ⟨t',kG F.fmt v0 v1 u2 u3 u4 L'++frZ v0 wg wb wu wp wm wh (y3 y' kV kW (some (.arr wV 44 (YG L' up (asked up (nums up ps,b) (Qgo n ps)).1 n n))) (some (.arr wW 49 (woC kV wV n (ZV L' up (asked up (nums up ps,b) (Qgo n ps)).1 (vE (-1))) (QK L' up (asked up (nums up ps,b) (Qgo n ps)).1 ps 1 f 32) ws cnt sure))) (some (.arr ws 44 (QK L' up (asked up (nums up ps,b) (Qgo n ps)).1 ps 2 g cnt))) (some (.arr w21 64 (fl prC ps++cells)))) up L' (asked up (nums up ps,b) (Qgo n ps)).1 (asked up (nums up ps,b) (Qgo n ps)).2⟩) :
 W P G 157 0 (XJ 6 relate_Fresh.body) [(1,.sl 21 w21 0 3 ps.length none),(6,.ptr 5 wg 0),(12,.ptr 8 w8 0),(15,.ptr 16 wb 0),(16,.ptr kW wW 0),(17,.ptr 20 wp 0)] ⟨t,kG F.fmt v0 v1 v2 v3 v4 L++frA v0 wg wb wu wp w21 (y3 y kV kW (some (.arr wV 44 (YG L up [] 0 n))) (some (.arr wW 49 (woC kV wV n 0 (QK L up [] [] 1 f 32) ws cnt sure))) (some (.arr ws 44 (QK L up [] [] 2 g cnt))) (some (.arr w21 64 (fl prC ps++cells)))) up ps cells b⟩ (QiP G Q):=by
 obtain ⟨Y,hY⟩:∃ Y,Y=y3 y kV kW (some (.arr wV 44 (YG L up [] 0 n))) (some (.arr wW 49 (woC kV wV n 0 (QK L up [] [] 1 f 32) ws cnt sure))) (some (.arr ws 44 (QK L up [] [] 2 g cnt))) (some (.arr w21 64 (fl prC ps++cells))):=⟨_,rfl⟩
 rw [← hY]
 show W P G 157 0 (.seq (.reg QhC [64]) (.seq (.seq (.reg QhB []) (.block 2 (.loop wB))) (XJ 8 relate_Fresh.body))) _ _ _
 obtain ⟨T8,hT8⟩:∃ c,c=XJ 8 relate_Fresh.body:=⟨_,rfl⟩
 rw [← hT8]
 refine Ql 40 ?_
 simp only [frA]
 simp -implicitDefEqProofs (disch:=omega) only [go_sem,↓reduceIte,rA,rq,and_true,lC,lN,cA,nA,aA,lA,tZ,List.drop_succ_cons,List.drop_nil,Qai,QcM,Qq6,Qmh]
 refine XS ps (fun i fr σ=>∃ L' t' u2 u3 u4,Ext L L'∧L'.length≤L.length+i∧AllH L' (nums up (ps.take i))∧QH fr [(1,.sl 21 w21 0 3 ps.length none),(6,.ptr 5 wg 0),(12,.ptr 8 w8 0),(15,.ptr 16 wb 0),(16,.ptr kW wW 0),(17,.ptr 20 wp 0),(20,.ptr 23 (t+1) 0),(65,.sl 21 w21 0 3 ps.length none),(66,.int .i64 ((ps.length:Nat):Int)),(67,.int .i64 ((i:Nat):Int))]∧σ=⟨t',kG F.fmt v0 v1 u2 u3 u4 L'++(frA v0 wg wb wu wp w21 Y up ps cells b++frH t (t+1) L' (nums up (ps.take i)))⟩)
  (fun e fr σ=>e=.ex 2∧∃ L' t' u2 u3 u4,Ext L L'∧L'.length≤L.length+ps.length∧AllH L' (nums up ps)∧QH fr [(1,.sl 21 w21 0 3 ps.length none),(6,.ptr 5 wg 0),(12,.ptr 8 w8 0),(15,.ptr 16 wb 0),(16,.ptr kW wW 0),(17,.ptr 20 wp 0),(20,.ptr 23 (t+1) 0)]∧σ=⟨t',kG F.fmt v0 v1 u2 u3 u4 L'++(frA v0 wg wb wu wp w21 Y up ps cells b++frH t (t+1) L' (nums up ps))⟩)
  ⟨L,_,v2,v3,v4,Ext.refl L,by omega,fun p hp=>absurd hp (by simp [nums]),?_,rfl⟩ (fun i x hx fr σ hJ=>?_) (fun i hi fr σ hJ=>?_) (fun e fr σ hE=>?_)
 ·simp only [QH]; simp -implicitDefEqProofs (disch:=omega) only [go_sem,↓reduceIte,rq]; try rfl
 ·obtain ⟨L1,t1,u2,u3,u4,hE,hLl,hA1,hh,rfl⟩:=hJ
  have hi:=(List.getElem?_eq_some_iff.1 hx).1
  have hxm:=List.mem_of_getElem? hx
  have hS:nums up (ps.take (i+1))=QaX up (nums up (ps.take i)) x:=by rw [Qy hx,QqW]
  refine (Xv _ hh (QyA hT F hf hl hx (by omega) hA1 (hpn x hxm))).conseq fun e fr σ h=>?_
  cases e with
  | nrm =>
    obtain ⟨fr',σ',q1,q2,L2,t2,w2,w3,w4,q3,q4,q5,q6⟩:=h
    exact ⟨fr',σ',q1,L2,t2,w2,w3,w4,hE.trans q3,by omega,by rw [hS]; exact q5,q2,by rw [hS]; exact q6⟩
  | ex id=>exact h.elim
  | ret=>exact h.elim
 ·obtain ⟨L1,t1,u2,u3,u4,hE,hLl,hA1,hh,rfl⟩:=hJ
  rw [hi,List.take_length] at hA1 ⊢
  refine Qe _ hh 12 ?_
  refine yd ?_
  refine ⟨L1,t1,u2,u3,u4,hE,by omega,hA1,?_,rfl,rfl⟩
  simp only [QH]; simp -implicitDefEqProofs (disch:=omega) only [go_sem,↓reduceIte,rq]
 ·obtain ⟨rfl,L1,t1,u2,u3,u4,hE,hLl,hA1,hh,rfl⟩:=hE
  have hsh:Shift G 157 0 [(1,.sl 21 w21 0 3 ps.length none),(6,.ptr 5 wg 0),(12,.ptr 8 w8 0),(15,.ptr 16 wb 0),(16,.ptr kW wW 0),(17,.ptr 20 wp 0),(20,.ptr 23 (t+1) 0)] ⟨t1,kG F.fmt v0 v1 u2 u3 u4 L1++(frA v0 wg wb wu wp w21 Y up ps cells b++frH t (t+1) L1 (nums up ps))⟩ [(1,.sl 21 w21 0 3 ps.length none),(6,.ptr 5 wg 0),(12,.ptr 8 w8 0),(15,.ptr 16 wb 0),(16,.ptr kW wW 0),(17,.ptr 20 wp 0),(20,.ptr 23 (t+1) 0)] ⟨t1,kG F.fmt v0 v1 u2 u3 u4 L1++frX v0 wg wb wu wp t (t+1) Y up L1 (nums up ps) b⟩:=by
   refine Shift.drop ?_ (lR _) (zL _)
   rw [hY,frX_eq hk h24,← aA]
   exact Qpc _
  refine Qax [(1,.sl 21 w21 0 3 ps.length none),(6,.ptr 5 wg 0),(12,.ptr 8 w8 0),(15,.ptr 16 wb 0),(16,.ptr kW wW 0),(17,.ptr 20 wp 0),(20,.ptr 23 (t+1) 0)] hh (Xf hsh ?_)
  rw [hT8,hY]
  have e0:YG L up [] 0 n=YG L1 up (nums up ps) 0 n:=by simp [YG]
  rw [e0,Qaq (L:=L) (up:=up) (H:=[]) (L':=L1) (up':=up) (H':=nums up ps) (k:=1),Qaq (L:=L) (up:=up) (H:=[]) (L':=L1) (up':=up) (H':=nums up ps) (k:=2)]
  exact fr_B hT F (S:=(nums up ps,b)) hk hf hA1 hb (by omega) hn hl hcnt hps h8 hz fun y' L2 t2 w2 w3 w4 q1 q2 q3=>hQ t (t+1) y' L2 t2 w2 w3 w4 (hE.trans q1) (by omega) q3
end
section
attribute [local go_sem] decide_false QoT Qni
def frS (ps:List Pr) (b:Int) (n:Nat):List (Pr × Tm) × Int:=asked (Qp (ties ps)) (nums (Qp (ties ps)) ps,b) (Qgo n ps)
theorem fr_A0 (hT:Qh P tab) (F:Fmt P G) {v0 v1 v2 v3 v4 wg wb wu wp w21 w8 kV kW wV wW ws t n cnt:Nat} {y:Nat→Option Ob} {ps:List Pr} {cells:List V} {b:Int} {L:List Nd} {f g:Nat→Int} {sure:Bool} {z8:List V} {Q:V→Am.H→Prop}
 (hk:kV=17∧kW=18∨kV=18∧kW=17) (hb:0≤b∧b≤1199023254000) (hL:L.length≤20000) (hn:n≤10) (hl:ps.length≤1000) (hcnt:cnt≤100) (hps:∀ x∈ps,QJw cnt x) (hpn:∀ x∈ps,i64 x.n) (h8:y 8=some (.arr w8 49 z8)) (h24:y 24=none) (hz:z8.length=36)
 (hQ:∀ wm wh y' L' t' u2 u3 u4,Ext L L'→L'.length≤L.length+1+n+2 * ps.length→AllH L' (frS ps b n).1→Q (.tup [.agg (woC kV wV n (ZV L' (Qp (ties ps)) (frS ps b n).1 (vE (-1))) (QK L' (Qp (ties ps)) (frS ps b n).1 ps 1 f 32) ws cnt sure),.int .i64 (frS ps b n).2]) ⟨t',kG F.fmt v0 v1 u2 u3 u4 L'++frZ v0 wg wb wu wp wm wh (y3 y' kV kW (some (.arr wV 44 (YG L' (Qp (ties ps)) (frS ps b n).1 n n))) (some (.arr wW 49 (woC kV wV n (ZV L' (Qp (ties ps)) (frS ps b n).1 (vE (-1))) (QK L' (Qp (ties ps)) (frS ps b n).1 ps 1 f 32) ws cnt sure))) (some (.arr ws 44 (QK L' (Qp (ties ps)) (frS ps b n).1 ps 2 g cnt))) (some (.arr w21 64 (fl prC ps++cells)))) (Qp (ties ps)) L' (frS ps b n).1 (frS ps b n).2⟩) :
 W P G 157 0 (XJ 5 relate_Fresh.body) [(1,.sl 21 w21 0 3 ps.length none),(6,.ptr 5 wg 0),(12,.ptr 8 w8 0),(15,.ptr 16 wb 0),(16,.ptr kW wW 0),(17,.ptr 20 wp 0)] ⟨t,kG F.fmt v0 v1 v2 v3 v4 L++frA v0 wg wb wu wp w21 (y3 y kV kW (some (.arr wV 44 (YG L [] [] 0 n))) (some (.arr wW 49 (woC kV wV n 0 (QK L [] [] [] 1 f 32) ws cnt sure))) (some (.arr ws 44 (QK L [] [] [] 2 g cnt))) (some (.arr w21 64 (fl prC ps++cells)))) [] ps cells b⟩ (QiP G Q):=by
 obtain ⟨Y,hY⟩:∃ Y,Y=y3 y kV kW (some (.arr wV 44 (YG L [] [] 0 n))) (some (.arr wW 49 (woC kV wV n 0 (QK L [] [] [] 1 f 32) ws cnt sure))) (some (.arr ws 44 (QK L [] [] [] 2 g cnt))) (some (.arr w21 64 (fl prC ps++cells))):=⟨_,rfl⟩
 rw [← hY]
 show W P G 157 0 (.seq (.seq (.reg QoT []) (.block 0 (.loop wC))) (XJ 6 relate_Fresh.body)) _ _ _
 obtain ⟨T6,hT6⟩:∃ c,c=XJ 6 relate_Fresh.body:=⟨_,rfl⟩
 rw [← hT6]
 refine Ql 40 ?_
 refine ya ?_
 refine XS ps (fun i fr σ=>∃ t',QH fr [(1,.sl 21 w21 0 3 ps.length none),(6,.ptr 5 wg 0),(12,.ptr 8 w8 0),(15,.ptr 16 wb 0),(16,.ptr kW wW 0),(17,.ptr 20 wp 0),(49,.sl 21 w21 0 3 ps.length none),(50,.int .i64 ((ps.length:Nat):Int)),(51,.int .i64 ((i:Nat):Int))]∧σ=⟨t',kG F.fmt v0 v1 v2 v3 v4 L++frA v0 wg wb wu wp w21 Y (Qp (ties (ps.take i))) ps cells b⟩)
  (fun e fr σ=>e=.ex 0∧∃ t',QH fr [(1,.sl 21 w21 0 3 ps.length none),(6,.ptr 5 wg 0),(12,.ptr 8 w8 0),(15,.ptr 16 wb 0),(16,.ptr kW wW 0),(17,.ptr 20 wp 0)]∧σ=⟨t',kG F.fmt v0 v1 v2 v3 v4 L++frA v0 wg wb wu wp w21 Y (Qp (ties ps)) ps cells b⟩)
  ⟨_,?_,rfl⟩ (fun i x hx fr σ hJ=>?_) (fun i hi fr σ hJ=>?_) (fun e fr σ hE=>?_)
 ·simp only [QH]; simp -implicitDefEqProofs (disch:=omega) only [go_sem,↓reduceIte,rq]; try rfl
 ·obtain ⟨t1,hh,rfl⟩:=hJ
  have hS:Qp (ties (ps.take (i+1)))=joinL (Qp (ties (ps.take i))) (vE x.v) (pE x):=by
   rw [Qy hx]
   have:ties (ps.take i++[x])=ties (ps.take i)++[(vE x.v,pE x)]:=by simp [ties]
   rw [this,QiL]
  refine (Xv _ hh (QyB hT (Qre _) hl hx)).conseq fun e fr σ h=>?_
  cases e with
  | nrm =>
    obtain ⟨fr',σ',q1,q2,t2,q6⟩:=h
    exact ⟨fr',σ',q1,t2,q2,by rw [hS]; exact q6⟩
  | ex id=>exact h.elim
  | ret=>exact h.elim
 ·obtain ⟨t1,hh,rfl⟩:=hJ
  rw [hi,List.take_length]
  refine Qe _ hh 12 ?_
  refine yd ?_
  refine ⟨t1,?_,rfl⟩
  simp only [QH]; simp -implicitDefEqProofs (disch:=omega) only [go_sem,↓reduceIte,rq]
 ·obtain ⟨rfl,t1,hh,rfl⟩:=hE
  refine Qax [(1,.sl 21 w21 0 3 ps.length none),(6,.ptr 5 wg 0),(12,.ptr 8 w8 0),(15,.ptr 16 wb 0),(16,.ptr kW wW 0),(17,.ptr 20 wp 0)] hh ?_
  rw [hT6,hY]
  have e0:YG L [] [] 0 n=YG L (Qp (ties ps)) [] 0 n:=by simp [YG]
  rw [e0,Qaq (L:=L) (up:=[]) (H:=[]) (L':=L) (up':=Qp (ties ps)) (H':=[]) (k:=1),Qaq (L:=L) (up:=[]) (H:=[]) (L':=L) (up':=Qp (ties ps)) (H':=[]) (k:=2)]
  exact fr_A1 hT F hk (Qre _) hb hL hn hl hcnt hps hpn h8 h24 hz hQ
end
section
attribute [local go_sem] nF lR zA zL gt_iff_lt Qz QoY QoX QoW QoV QoU
theorem Qd3 {n base:Nat} {Q:AE→Fr→Am.H→Prop} {c:AC} {fr:Fr} {σ:Am.H} (h:W P G n base c fr σ Q):run P G n base Q 0 [.ac c] .nrm fr σ:=h
def yP (w6:Nat) (x7:Option Ob) (w8 w15:Nat) (vars:Nat) (zs st:List V):Nat→Option Ob:=fun i=>if i=6 then some (.arr w6 3 [.int .i64 ((vars:Nat):Int)]) else if i=7 then x7 else if i=8 then some (.arr w8 49 zs) else if i=15 then some (.arr w15 47 st) else none
def Zw (l:List Pr) (vars cnt:Nat):List Pr:=(srt l).filter (QQ ((vars:Nat):Int) cnt)
theorem QlB {l:List Pr} {vars cnt:Nat} {x:Pr} (h:x∈Zw l vars cnt):QJw cnt x:=by
 have h2:=(List.mem_filter.1 h).2
 unfold QQ at h2
 simp only [Bool.and_eq_true,decide_eq_true_eq] at h2
 have h3:=h2.2
 by_cases k1:x.k=1
 ·rw [if_pos k1] at h3
  unfold QkZ at h3
  simp only [decide_eq_true_eq] at h3
  exact .inl ⟨k1,x.n.toNat,by omega,by omega⟩
 ·by_cases k2:x.k=2
  ·rw [if_neg k1,if_pos k2] at h3
   simp only [decide_eq_true_eq] at h3
   exact .inr (.inl ⟨k2,x.n.toNat,by omega,by omega⟩)
  ·rw [if_neg k1,if_neg k2] at h3
   simp only [decide_eq_true_eq] at h3
   exact .inr (.inr h3)
theorem Qxk (L:List Nd) (up:List (Pr × Pr)) (H:List (Pr × Tm)) (n:Nat):(List.replicate n [V.int .i64 0]).flatten=YG L up H 0 n:=by
 have:YG L up H 0 n=(List.range n).map fun _=>V.int .i64 0:=by simp [YG]
 rw [this]
 induction n with
 | zero=>rfl
 | succ n ih=>rw [List.replicate_succ',List.flatten_append,ih (by simp [YG]),List.range_succ,List.map_append]; simp
theorem Qvm (L:List Nd) (b:Int) (cnt:Nat):Y8 L b cnt=QK L [] [] [] 2 (fun i=>Xc L (sy (b+30+((i:Nat):Int)))) cnt:=by simp [Y8,QK]
theorem QHR (L:List Nd) (b:Int) (sl:V) (sure:Bool):stC L b 32 sl sure=QK L [] [] [] 1 (fun r=>Qfd L b r) 32++[sl,.bool sure]:=by
 have h:Qdn L b 32=QK L [] [] [] 1 (fun r=>Qfd L b r) 32:=by
  unfold Qdn QK
  refine List.map_congr_left fun r hr=>?_
  rw [if_pos (List.mem_range.1 hr)]
  simp
 unfold stC
 rw [h]
theorem QBb (hT:Qh P tab) (F:Fmt P G) (hS:Qb0 P G) {v0 v1 v2 v3 v4 t:Nat} {L:List Nd} (l:List Pr) (tg:Bool) (hl:l.length≤1000) (hl64:∀ x∈l,i64 x.n) (vars m:Nat) (hv:vars≤10) (hm:m≤4) (params next:Int) (hn:next≤1099511627776) (hL:L.length≤10000) :
 C P G 0 Qar [.ptr 1 v0 0,.lst 3 (prs l) tg,.int .i64 ((vars:Nat):Int),.agg (fnC m),.int .i64 params,.int .i64 next] ⟨t,kG F.fmt v0 v1 v2 v3 v4 L⟩ fun v σ =>
   ∃ L0 L' t' u2 u3 u4 kV kW wV wW ws w21 wg wb wu wp wm wh y cells,∃ ps,ps=Zw l vars (Zk m params)∧∃ b,b=max 0 next+30+((Zk m params:Nat):Int) ∧
   (kV=17∧kW=18∨kV=18∧kW=17)∧Ext L L0∧AllR L0 (max 0 next) 32∧AllS L0 (max 0 next) (Zk m params)∧Ext L0 L'∧L'.length≤L.length+2500∧AllH L' (frS ps b vars).1 ∧
   v=.tup [.agg (woC kV wV vars (ZV L' (Qp (ties ps)) (frS ps b vars).1 (vE (-1))) (QK L' (Qp (ties ps)) (frS ps b vars).1 ps 1 (fun r=>Qfd L0 (max 0 next) r) 32) ws (Zk m params) (decide (m=0))),.int .i64 (frS ps b vars).2] ∧
   σ=⟨t',kG F.fmt v0 v1 u2 u3 u4 L'++frZ v0 wg wb wu wp wm wh (y3 y kV kW (some (.arr wV 44 (YG L' (Qp (ties ps)) (frS ps b vars).1 vars vars))) (some (.arr wW 49 (woC kV wV vars (ZV L' (Qp (ties ps)) (frS ps b vars).1 (vE (-1))) (QK L' (Qp (ties ps)) (frS ps b vars).1 ps 1 (fun r=>Qfd L0 (max 0 next) r) 32) ws (Zk m params) (decide (m=0))))) (some (.arr ws 44 (QK L' (Qp (ties ps)) (frS ps b vars).1 ps 2 (fun i=>Xc L0 (sy (max 0 next+30+((i:Nat):Int)))) (Zk m params)))) (some (.arr w21 64 (fl prC ps++cells)))) (Qp (ties ps)) L' (frS ps b vars).1 (frS ps b vars).2⟩:=by
 have hmax:(if (0:Int)<((vars:Nat):Int) then ((vars:Nat):Int) else 0)=vars:=by split <;> omega
 have hslt:=QlM l
 refine Q0 hT Zg (by simp [relate_Fresh]) ?_
 show W P G 157 0 (.seq (.reg QoY []) (.seq (.reg QoX [31,32,33,34,35,30,36,37]) (.seq (.reg QoW [38,39,40,41,42]) (.seq (.reg QoV [43,44]) (.seq (.reg QoU [45,46,47,48]) (XJ 5 relate_Fresh.body)))))) _ _ (QiP G _)
 obtain ⟨T5,hT5⟩:∃ c,c=XJ 5 relate_Fresh.body:=⟨_,rfl⟩
 rw [← hT5]
 refine Ql 40 ?_
 have honf:ones (fnC m):=by
  intro c hc
  simp only [fnC,List.mem_cons,List.not_mem_nil,or_false] at hc
  rcases hc with rfl | rfl | rfl | rfl | rfl <;> rfl
 have hlf:(fnC m).length=5:=rfl
 have htf:List.take 5 (fnC m)=fnC m:=rfl
 simp -implicitDefEqProofs (disch:=omega) only [go_sem,↓reduceIte,reduceCtorEq,rA,rq,QcM,Qkg,Qsl,false_implies,true_implies,and_true,lC,lN,cA,nA,aA,lA,List.drop_zero,honf,hlf,htf]
 have hB:=fun (ex:List (Option Ob)) (t:Nat)=>QuS (P:=P) (G:=G) hT F (v0:=v0) (v1:=v1) (v2:=v2) (v3:=v3) (v4:=v4) (t:=t) (L:=L) m hm params next hn hL ex
 refine call hT Qe7 (hB _ _) 12 fun v σ hv=>?_
 obtain ⟨L',t1,u2,u3,u4,ws,h1,h2,h3,h4,rfl,rfl⟩:=hv
 obtain ⟨b,hb⟩:∃ b,b=max 0 next:=⟨_,rfl⟩
 obtain ⟨cnt,hcnt⟩:∃ cnt,cnt=Zk m params:=⟨_,rfl⟩
 have hcb:cnt≤10:=by rw [hcnt]; unfold Zk; omega
 rw [← hb] at h3 h4 ⊢
 rw [← hcnt] at h4 ⊢
 simp only [lC,lN,zA,rA]
 have hsl:=QgN L' b 32 (.sl 14 ws 0 1 cnt none) (decide (m=0))
 have hon:ones (stC L' b 32 (.sl 14 ws 0 1 cnt none) (decide (m=0))):=by
  unfold stC Qdn
  intro c hc
  simp only [List.mem_append,List.mem_map,List.mem_cons,List.not_mem_nil,or_false] at hc
  rcases hc with ⟨r,_,rfl⟩ | rfl | rfl <;> rfl
 have htk:List.take 34 (stC L' b 32 (.sl 14 ws 0 1 cnt none) (decide (m=0)))=stC L' b 32 (.sl 14 ws 0 1 cnt none) (decide (m=0)):=List.take_of_length_le (by omega)
 simp -implicitDefEqProofs (disch:=omega) only [go_sem,↓reduceIte,reduceCtorEq,rA,rq,rT,QcM,Qnh,Qq9,Qmk,Qq8,QjT,true_implies,and_true,lC,lN,cA,nA,aA,lA,tZ,List.drop_succ_cons,List.drop_nil,hsl,hon]
 repeat' (first | with_reducible refine And.intro ?_ ?_ | (refine Qa 6 ?_; simp -implicitDefEqProofs (disch:=omega) only [go_sem,↓reduceIte,reduceCtorEq,rA,rq,rL,Qai,QcM,Qq9,Qnw,QjS,Qnv,QjR,Qq7,Qmj,false_implies,true_and,and_true,lC,lN,cA,nA,aA,lA,tS,tZ,List.drop_succ_cons,List.drop_zero,List.drop_nil,hsl,hon,htk,hmax]))
 all_goals
  refine call hT ZC (QmW hT hS l tg (by omega) (zL _)) 12 fun v σ hv=>?_
  obtain ⟨t2,w21,cells0,ht2,hcn0,rfl,rfl⟩:=hv
  refine ya ?_
  refine call hT QD (QrZ hT hcn0 (zL _) (fun ex=>QsE hT rfl rfl _) (by omega)) 2 fun v σ hv=>?_
  obtain ⟨t3,cells,ht3,hcn,rfl,rfl⟩:=hv
  have hps:((srt l).filter fun p=>!(!QQ ((vars:Nat):Int) cnt p))=Zw l vars cnt:=by
   unfold Zw; exact List.filter_congr fun p _=>by rw [Bool.not_not]
  rw [hps]
  obtain ⟨ps,hpsd⟩:∃ ps,ps=Zw l vars cnt:=⟨_,rfl⟩
  rw [← hpsd]
  have hpl:ps.length≤1000:=by rw [hpsd]; exact Nat.le_trans (List.length_filter_le _ _) (by omega)
  have hpa:∀ x∈ps,QJw cnt x:=fun x hx=>QlB (hpsd▸hx)
  have hpn:∀ x∈ps,i64 x.n:=fun x hx=>hl64 x (Qma.1 (List.mem_filter.1 (hpsd▸hx:x∈Zw l vars cnt)).1)
  simp -implicitDefEqProofs (disch:=omega) only [go_sem,↓reduceIte,reduceCtorEq,rA,rq,lC,lN,cA,nA,aA,lA,QcM]
  rw [hT5,Qxk L' [] [] vars,Qvm,QHR]
  refine Qd3 ?_
  first
   | (refine Xv [(1,.sl 21 w21 0 3 ps.length none),(6,.ptr 5 t 0),(12,.ptr 8 (t+1+1+1) 0),(15,.ptr 16 (t1+1) 0),(16,.ptr 18 (t1+1+1+1) 0),(17,.ptr 20 (t1+1+1+1+1+1) 0)] (by simp only [QH]; simp -implicitDefEqProofs (disch:=omega) only [go_sem,↓reduceIte,reduceCtorEq,rq]; done) ?_
      exact fr_A0 hT F (kV:=17) (kW:=18) (y:=yP (t+1) _ (t+1+1+1) t1 vars _ _) (b:=b+30+((cnt:Nat):Int)) (.inl ⟨rfl,rfl⟩) (by omega) (by omega) hv hpl (by omega) hpa hpn (by rfl) (by rfl) (by rfl) fun wm wh y' L2 t' w2 w3 w4 q1 q2 q3=>⟨L',L2,t',w2,w3,w4,17,18,_,_,ws,w21,_,_,_,_,wm,wh,y',cells,ps,rfl,b+30+((cnt:Nat):Int),rfl,.inl ⟨rfl,rfl⟩,h1,h3,h4,q1,by omega,q3,rfl,rfl⟩)
   | (refine Xv [(1,.sl 21 w21 0 3 ps.length none),(6,.ptr 5 t 0),(12,.ptr 8 (t+1+1+1) 0),(15,.ptr 16 (t1+1) 0),(16,.ptr 17 (t1+1+1) 0),(17,.ptr 20 (t1+1+1+1+1+1) 0)] (by simp only [QH]; simp -implicitDefEqProofs (disch:=omega) only [go_sem,↓reduceIte,reduceCtorEq,rq]; done) ?_
      exact fr_A0 hT F (kV:=18) (kW:=17) (y:=yP (t+1) _ (t+1+1+1) t1 vars _ _) (b:=b+30+((cnt:Nat):Int)) (.inr ⟨rfl,rfl⟩) (by omega) (by omega) hv hpl (by omega) hpa hpn (by rfl) (by rfl) (by rfl) fun wm wh y' L2 t' w2 w3 w4 q1 q2 q3=>⟨L',L2,t',w2,w3,w4,18,17,_,_,ws,w21,_,_,_,_,wm,wh,y',cells,ps,rfl,b+30+((cnt:Nat):Int),rfl,.inr ⟨rfl,rfl⟩,h1,h3,h4,q1,by omega,q3,rfl,rfl⟩)
end
end Go.Proofs.YtfgccihafnjalaaGreatDoor
