/- Fresh: the loop over variables. -/
import Derived.Test.YtfgccihafnjalaaGreatDoorJ10
import Derived.Test.YtfgccihafnjalaaGreatDoorAmD
import Derived.Test.YtfgccihafnjalaaGreatDoorJ7
import Derived.Test.YtfgccihafnjalaaGreatDoorY
open Nat renaming reduceEqDiff → rq, reduceAdd → rA, reduceLeDiff → rL, reduceLT → rT, zero_add → zA, le_refl → lR, zero_le → zL, add_zero → aZ
open List renaming length_cons → lC, length_nil → lN, take_succ_cons → tS, length_append → lA, nil_append → nA, cons_append → cA, append_assoc → aA, take_nil → tN, take_zero → tZ, length_map → lM
open Bool renaming not_false → nF, not_true → nT
namespace Go.Proofs.YtfgccihafnjalaaGreatDoor
open Go Go.Am Go.Re
set_option maxRecDepth 100000
variable {P:Program} {G:Nat→Option V}
set_option maxHeartbeats 2000000
theorem fr_C2 (hT:Qn P tab) (F:Fmt P G) {v0 v1 v2 v3 v4 wg wb wu wp wm wh w21 w8 kV kW wV wW ws t n cnt:Nat} {y:Nat→Option Ob} {ps:List Pr} {cells:List V} {up:List (Pr × Pr)} {S:List (Pr × Tm) × Int} {lk:Int} {L:List Nd} {f g:Nat→Int} {sure:Bool} {z8:List V} {Q:V→Am.H→Prop}
 (hk:kV=17∧kW=18∨kV=18∧kW=17) (hf:Fst up) (hA:AllH L S.1) (hb:0≤S.2∧S.2≤1199023255000) (hL:L.length≤40000) (hn:n≤10) (hl:ps.length≤1000) (hcnt:cnt≤100) (hps:∀ x∈ps,QHl cnt x) (h8:y 8=some (.arr w8 49 z8)) (hz:z8.length=36)
 (hQ : ∀ y' L1 L' t' u2 u3 u4, Ext L L1 → Ext L1 L' → AllH L1 (asked up S (vEs n)).1 → L'.length ≤ L.length + n + ps.length → AllH L' (asked up (asked up S (vEs n)) (plE ps)).1 → Q (.tup [.agg (woC kV wV n lk (QI L' up (asked up (asked up S (vEs n)) (plE ps)).1 ps 1 f 32) ws cnt sure), .int .i64 (asked up (asked up S (vEs n)) (plE ps)).2]) ⟨t', kG F.fmt v0 v1 u2 u3 u4 L' ++ frZ v0 wg wb wu wp wm wh (y3 y' kV kW (some (.arr wV 44 (YC L' up (asked up (asked up S (vEs n)) (plE ps)).1 n n))) (some (.arr wW 49 (woC kV wV n lk (QI L' up (asked up (asked up S (vEs n)) (plE ps)).1 ps 1 f 32) ws cnt sure))) (some (.arr ws 44 (QI L' up (asked up (asked up S (vEs n)) (plE ps)).1 ps 2 g cnt))) (some (.arr w21 64 (fl prC ps ++ cells)))) up L' (asked up (asked up S (vEs n)) (plE ps)).1 (asked up (asked up S (vEs n)) (plE ps)).2⟩) :
 W P G 157 0 (Zd 10 relate_Fresh.body) [(1,.sl 21 w21 0 3 ps.length none),(12,.ptr 8 w8 0),(15,.ptr 16 wb 0),(16,.ptr kW wW 0),(26,ofV wp wh wg wb)] ⟨t,kG F.fmt v0 v1 v2 v3 v4 L++frX v0 wg wb wu wp wm wh (y3 y kV kW (some (.arr wV 44 (YC L up S.1 0 n))) (some (.arr wW 49 (woC kV wV n lk (QI L up S.1 [] 1 f 32) ws cnt sure))) (some (.arr ws 44 (QI L up S.1 [] 2 g cnt))) (some (.arr w21 64 (fl prC ps++cells)))) up L S.1 S.2⟩ (QjH G Q):=by
 have hsome:∀ i,∀ j,j<i→(Re.get (asked up S (vEs i)).1 (Ql up (vE ((j:Nat):Int)))).isSome:=fun i j hj=>QiZ (QFD hj)
 have hpl:=Q7 L up S.1 [] 1 f 32
 have pre:W P G 157 0 (.reg Ze [103,104]) [(1,.sl 21 w21 0 3 ps.length none),(12,.ptr 8 w8 0),(15,.ptr 16 wb 0),(16,.ptr kW wW 0),(26,ofV wp wh wg wb)] ⟨t,kG F.fmt v0 v1 v2 v3 v4 L++frX v0 wg wb wu wp wm wh (y3 y kV kW (some (.arr wV 44 (YC L up S.1 0 n))) (some (.arr wW 49 (woC kV wV n lk (QI L up S.1 [] 1 f 32) ws cnt sure))) (some (.arr ws 44 (QI L up S.1 [] 2 g cnt))) (some (.arr w21 64 (fl prC ps++cells)))) up L S.1 S.2⟩
  (fun e fr σ=>e=.nrm∧QF fr [(1,.sl 21 w21 0 3 ps.length none),(12,.ptr 8 w8 0),(15,.ptr 16 wb 0),(16,.ptr kW wW 0),(26,ofV wp wh wg wb),(105,.int .i64 ((n:Nat):Int)),(106,.int .i64 0)]∧σ=⟨t,kG F.fmt v0 v1 v2 v3 v4 L++frX v0 wg wb wu wp wm wh (y3 y kV kW (some (.arr wV 44 (YC L up S.1 0 n))) (some (.arr wW 49 (woC kV wV n lk (QI L up S.1 [] 1 f 32) ws cnt sure))) (some (.arr ws 44 (QI L up S.1 [] 2 g cnt))) (some (.arr w21 64 (fl prC ps++cells)))) up L S.1 S.2⟩):=by
  rcases hk with ⟨rfl,rfl⟩ | ⟨rfl,rfl⟩ <;>
  ·simp only [frX,y3,woC,rq,if_true,if_false]
   refine Qq 12 ?_
   simp -implicitDefEqProofs (disch:=omega) only [go_sem,↓reduceIte,rA,rq,rL,zA,aZ,Ze,Qbw,Qbv,true_implies,true_and,and_true,lC,lN,lA,hpl]
   try (simp only [QF]; simp -implicitDefEqProofs (disch:=omega) only [go_sem,↓reduceIte,rq])
 show W P G 157 0 (.seq (.seq (.reg Ze [103,104]) (.block 4 (.loop (AC.seq (AC.reg Yw [])   (AC.seq (AC.cond (Arg.t 107)   AC.skip   (AC.exit 4))   (AC.seq (AC.block 5 (AC.seq (AC.reg YF [108])   (AC.reg YE [109,110,111,112,113,114,115,116])))   (AC.reg YD [117]))))))) (Zd 11 relate_Fresh.body)) _ _ _
 refine Qq 2 ?_
 show W P G 157 0 (.reg Ze [103,104]) _ _ (fun e fr σ=>sem P G 157 0 (QjH G Q) [.ac (.block 4 (.loop (AC.seq (AC.reg Yw [])   (AC.seq (AC.cond (Arg.t 107)   AC.skip   (AC.exit 4))   (AC.seq (AC.block 5 (AC.seq (AC.reg YF [108])   (AC.reg YE [109,110,111,112,113,114,115,116])))   (AC.reg YD [117])))))),.ac (Zd 11 relate_Fresh.body)] e fr σ)
 refine pre.conseq fun e fr σ h=>?_
 obtain ⟨rfl,hh0,rfl⟩:=h
 refine Qa 1 ?_
 show sem P G 157 0 (QjH G Q) [.ac (.loop (AC.seq (AC.reg Yw [])   (AC.seq (AC.cond (Arg.t 107)   AC.skip   (AC.exit 4))   (AC.seq (AC.block 5 (AC.seq (AC.reg YF [108])   (AC.reg YE [109,110,111,112,113,114,115,116])))   (AC.reg YD [117]))))),.blk 4,.ac (Zd 11 relate_Fresh.body)] .nrm fr _
 refine XU (List.range n) (fun i fr σ => ∃ L' t' u2 u3 u4, Ext L L' ∧ L'.length ≤ L.length + i ∧ AllH L' (asked up S (vEs i)).1 ∧ QF fr [(1, .sl 21 w21 0 3 ps.length none), (12, .ptr 8 w8 0), (15, .ptr 16 wb 0), (16, .ptr kW wW 0), (26, ofV wp wh wg wb), (105, .int .i64 ((n : Nat) : Int)), (106, .int .i64 ((i : Nat) : Int))] ∧ σ = ⟨t', kG F.fmt v0 v1 u2 u3 u4 L' ++ frX v0 wg wb wu wp wm wh (y3 y kV kW (some (.arr wV 44 (YC L' up (asked up S (vEs i)).1 i n))) (some (.arr wW 49 (woC kV wV n lk (QI L up S.1 [] 1 f 32) ws cnt sure))) (some (.arr ws 44 (QI L up S.1 [] 2 g cnt))) (some (.arr w21 64 (fl prC ps ++ cells)))) up L' (asked up S (vEs i)).1 (asked up S (vEs i)).2⟩)
  (fun e fr σ => e = .ex 4 ∧ ∃ L' t' u2 u3 u4, Ext L L' ∧ L'.length ≤ L.length + n ∧ AllH L' (asked up S (vEs n)).1 ∧ QF fr [(1, .sl 21 w21 0 3 ps.length none), (12, .ptr 8 w8 0), (15, .ptr 16 wb 0), (16, .ptr kW wW 0), (26, ofV wp wh wg wb)] ∧ σ = ⟨t', kG F.fmt v0 v1 u2 u3 u4 L' ++ frX v0 wg wb wu wp wm wh (y3 y kV kW (some (.arr wV 44 (YC L' up (asked up S (vEs n)).1 n n))) (some (.arr wW 49 (woC kV wV n lk (QI L up S.1 [] 1 f 32) ws cnt sure))) (some (.arr ws 44 (QI L up S.1 [] 2 g cnt))) (some (.arr w21 64 (fl prC ps ++ cells)))) up L' (asked up S (vEs n)).1 (asked up S (vEs n)).2⟩)
  ⟨L,t,v2,v3,v4,Ext.refl L,by omega,hA,hh0,rfl⟩ (fun i x hx fr σ hJ=>?_) (fun i hi fr σ hJ=>?_) (fun e fr σ hE=>?_)
 ·obtain ⟨L1,t1,u2,u3,u4,hE,hLl,hA1,hh,rfl⟩:=hJ
  have hi:i<n:=by have:=(List.getElem?_eq_some_iff.1 hx).1; simpa using this
  have hle:=QlS up (vEs i) S
  have hvl:(vEs i).length=i:=by simp [vEs]
  have hS:asked up S (vEs (i+1))=ofT up (asked up S (vEs i)) (vE ((i:Nat):Int)):=by rw [Qyu,Qj8]
  refine (XX _ hh (Qw2 hT F (b:=(asked up S (vEs i)).2) (y:=fun k=>if k=14 then some (.arr ws 44 (QI L up S.1 [] 2 g cnt)) else if k=21 then some (.arr w21 64 (fl prC ps++cells)) else y k) (rest:=.int .i64 lk::(QI L up S.1 [] 1 f 32++[.sl 14 ws 0 1 cnt none,.bool sure])) hk hf hA1 (by omega) (by omega) hi hn (by simp [hpl]) (hsome i))).conseq fun e fr σ h=>?_
  cases e with
  | nrm =>
    obtain ⟨fr', σ', q1, q2, L2, t2, w2, w3, w4, q3, q4, q5, q6⟩ := h
    exact ⟨fr', σ', q1, L2, t2, w2, w3, w4, hE.trans q3, by omega, by rw [hS]; exact q5, q2, by rw [hS]; exact q6⟩
  | ex id=>exact h.elim
  | ret=>exact h.elim
 ·obtain ⟨L1,t1,u2,u3,u4,hE,hLl,hA1,hh,rfl⟩:=hJ
  have hin:i=n:=by simpa using hi
  subst hin
  refine Qj _ hh 12 ?_
  simp -implicitDefEqProofs (disch:=omega) only [go_sem,↓reduceIte,rq,decide_false,Yw,Nat.lt_irrefl]
  refine ⟨L1,t1,u2,u3,u4,hE,by omega,hA1,?_,rfl,rfl⟩
  simp only [QF]; simp -implicitDefEqProofs (disch:=omega) only [go_sem,↓reduceIte,rq]
 ·obtain ⟨rfl,L1,t1,u2,u3,u4,hE,hLl,hA1,hh,rfl⟩:=hE
  have hle:=QlS up (vEs n) S
  have hvl:(vEs n).length=n:=by simp [vEs]
  refine Qfu [(1,.sl 21 w21 0 3 ps.length none),(12,.ptr 8 w8 0),(15,.ptr 16 wb 0),(16,.ptr kW wW 0),(26,ofV wp wh wg wb)] hh (X6 (Shift.drop (o':=_) (Y8 (kG F.fmt v0 v1 u2 u3 u4 L1++frZ v0 wg wb wu wp wm wh (y3 y kV kW (some (.arr wV 44 (YC L1 up (asked up S (vEs n)).1 n n))) (some (.arr wW 49 (woC kV wV n lk (QI L up S.1 [] 1 f 32) ws cnt sure))) (some (.arr ws 44 (QI L up S.1 [] 2 g cnt))) (some (.arr w21 64 (fl prC ps++cells)))) up L1 (asked up S (vEs n)).1 (asked up S (vEs n)).2) [_]) (lR _) (zL _)) ?_)
  rw [QaO (L:=L) (up:=up) (H:=S.1) (L':=L1) (up':=up) (H':=(asked up S (vEs n)).1) (k:=1),QaO (L:=L) (up:=up) (H:=S.1) (L':=L1) (up':=up) (H':=(asked up S (vEs n)).1) (k:=2)]
  refine fr_C3 hT F hk hf hA1 (by omega) (by omega) hl hcnt hps h8 hz fun y' L2 t2 w2 w3 w4 q1 q2 q3=>?_
  rw [Qt8 hA1 q1 (hsome n) (plE ps)]
  exact hQ y' L1 L2 t2 w2 w3 w4 hE q1 hA1 (by omega) q3
def Qh8 (n:Nat) (ps:List Pr):List Pr:=vE (-1)::(vEs n++plE ps)
theorem Qno (up:List (Pr × Pr)) (S:List (Pr × Tm) × Int) (a b:List Pr):asked up S (a++b)=asked up (asked up S a) b:=by simp [asked,List.foldl_append]
theorem QdY (up:List (Pr × Pr)) (S:List (Pr × Tm) × Int) (n:Nat) (ps:List Pr):asked up S (Qh8 n ps)=asked up (asked up (ofT up S (vE (-1))) (vEs n)) (plE ps):=by
 rw [Qh8,← Qno]; rfl
theorem fr_B (hT:Qn P tab) (F:Fmt P G) {v0 v1 v2 v3 v4 wg wb wu wp wm wh w21 w8 kV kW wV wW ws t n cnt:Nat} {y:Nat→Option Ob} {ps:List Pr} {cells:List V} {up:List (Pr × Pr)} {S:List (Pr × Tm) × Int} {L:List Nd} {f g:Nat→Int} {sure:Bool} {z8:List V} {Q:V→Am.H→Prop}
 (hk:kV=17∧kW=18∨kV=18∧kW=17) (hf:Fst up) (hA:AllH L S.1) (hb:0≤S.2∧S.2≤1199023254000) (hL:L.length≤30000) (hn:n≤10) (hl:ps.length≤1000) (hcnt:cnt≤100) (hps:∀ x∈ps,QHl cnt x) (h8:y 8=some (.arr w8 49 z8)) (hz:z8.length=36)
 (hQ : ∀ y' L' t' u2 u3 u4, Ext L L' → L'.length ≤ L.length + 1 + n + ps.length → AllH L' (asked up S (Qh8 n ps)).1 → Q (.tup [.agg (woC kV wV n (Z9 L' up (asked up S (Qh8 n ps)).1 (vE (-1))) (QI L' up (asked up S (Qh8 n ps)).1 ps 1 f 32) ws cnt sure), .int .i64 (asked up S (Qh8 n ps)).2]) ⟨t', kG F.fmt v0 v1 u2 u3 u4 L' ++ frZ v0 wg wb wu wp wm wh (y3 y' kV kW (some (.arr wV 44 (YC L' up (asked up S (Qh8 n ps)).1 n n))) (some (.arr wW 49 (woC kV wV n (Z9 L' up (asked up S (Qh8 n ps)).1 (vE (-1))) (QI L' up (asked up S (Qh8 n ps)).1 ps 1 f 32) ws cnt sure))) (some (.arr ws 44 (QI L' up (asked up S (Qh8 n ps)).1 ps 2 g cnt))) (some (.arr w21 64 (fl prC ps ++ cells)))) up L' (asked up S (Qh8 n ps)).1 (asked up S (Qh8 n ps)).2⟩) :
 W P G 157 0 (Zd 8 relate_Fresh.body) [(1,.sl 21 w21 0 3 ps.length none),(6,.ptr 5 wg 0),(12,.ptr 8 w8 0),(15,.ptr 16 wb 0),(16,.ptr kW wW 0),(17,.ptr 20 wp 0),(20,.ptr 23 wh 0)] ⟨t,kG F.fmt v0 v1 v2 v3 v4 L++frX v0 wg wb wu wp wm wh (y3 y kV kW (some (.arr wV 44 (YC L up S.1 0 n))) (some (.arr wW 49 (woC kV wV n 0 (QI L up S.1 [] 1 f 32) ws cnt sure))) (some (.arr ws 44 (QI L up S.1 [] 2 g cnt))) (some (.arr w21 64 (fl prC ps++cells)))) up L S.1 S.2⟩ (QjH G Q):=by
 have hpl:=Q7 L up S.1 [] 1 f 32
 have hof:=Qxq (P:=P) (G:=G) hT F (v0:=v0) (v1:=v1) (v2:=v2) (v3:=v3) (v4:=v4) (wg:=wg) (wb:=wb) (wu:=wu) (wp:=wp) (wm:=wm) (wh:=wh) (t:=t) (y:=y3 y kV kW (some (.arr wV 44 (YC L up S.1 0 n))) (some (.arr wW 49 (woC kV wV n 0 (QI L up S.1 [] 1 f 32) ws cnt sure))) (some (.arr ws 44 (QI L up S.1 [] 2 g cnt))) (some (.arr w21 64 (fl prC ps++cells)))) (b:=S.2) hf hA (by omega) (by omega) (vE (-1))
 show W P G 157 0 (.seq (.reg Zz [98]) (.seq (.reg Zy [99,100,101,102]) (Zd 10 relate_Fresh.body))) _ _ _
 obtain ⟨T10,hT10⟩:∃ c,c=Zd 10 relate_Fresh.body:=⟨_,rfl⟩
 rw [← hT10]
 rcases hk with ⟨rfl,rfl⟩ | ⟨rfl,rfl⟩
 ·simp only [frX,y3,woC,rq,if_true,if_false,prV,prC] at hof ⊢
  refine Qq 12 ?_
  refine yC ?_
  refine CV.use 3 (CV.of hT QN hof) fun v σ hv=>?_
  obtain ⟨tm,L2,t2,w2,w3,w4,x1,x2,x3,x4,x5,x6,rfl,rfl⟩:=hv
  simp -implicitDefEqProofs (disch:=omega) only [go_sem,↓reduceIte,rA,rq,rL,zA,nF,zL,Qbv,Qap,and_true,nF,lC,lN,cA,nA,lA,tS,tZ,List.drop_succ_cons,List.drop_zero,hpl]
  rw [hT10]
  have hle:=Qwx up S (vE (-1))
  have hlk:XR L2 (tmN tm)=Z9 L2 up (ofT up S (vE (-1))).1 (vE (-1)):=(XW x1).symm
  have e0:YC L up S.1 0 n=YC L2 up (ofT up S (vE (-1))).1 0 n:=by simp [YC]
  refine XX [(1,.sl 21 w21 0 3 ps.length none),(12,.ptr 8 w8 0),(15,.ptr 16 wb 0),(16,.ptr 18 wW 0),(26,ofV wp wh wg wb)] (by simp only [QF]; simp -implicitDefEqProofs (disch:=omega) only [go_sem,↓reduceIte,rq]) ?_
  rw [hlk,e0,QaO (L:=L) (up:=up) (H:=S.1) (L':=L2) (up':=up) (H':=(ofT up S (vE (-1))).1) (k:=1),QaO (L:=L) (up:=up) (H:=S.1) (L':=L2) (up':=up) (H':=(ofT up S (vE (-1))).1) (k:=2)]
  refine fr_C2 hT F (kV:=17) (kW:=18) (y:=y) (S:=ofT up S (vE (-1))) (by simp) hf x4 (by omega) (by omega) hn hl hcnt hps h8 hz fun y' L3 L4 t4 u2 u3 u4 q1 q2 q3 q4 q5=>?_
  have hs1:(Re.get (ofT up S (vE (-1))).1 (Ql up (vE (-1)))).isSome:=by rw [x1]; rfl
  have hkeep:Z9 L4 up (asked up S (Qh8 n ps)).1 (vE (-1))=Z9 L2 up (ofT up S (vE (-1))).1 (vE (-1)):=by
   rw [QdY,← Qno]; exact QjF x4 (q1.trans q2) hs1 _
  have:=hQ y' L4 t4 u2 u3 u4 (x2.trans (q1.trans q2)) (by omega) (by rw [QdY]; exact q5)
  rw [hkeep,QdY] at this
  exact this
 ·simp only [frX,y3,woC,rq,if_true,if_false,prV,prC] at hof ⊢
  refine Qq 12 ?_
  refine yC ?_
  refine CV.use 3 (CV.of hT QN hof) fun v σ hv=>?_
  obtain ⟨tm,L2,t2,w2,w3,w4,x1,x2,x3,x4,x5,x6,rfl,rfl⟩:=hv
  simp -implicitDefEqProofs (disch:=omega) only [go_sem,↓reduceIte,rA,rq,rL,zA,nF,zL,Qbw,Qaq,and_true,nF,lC,lN,cA,nA,lA,tS,tZ,List.drop_succ_cons,List.drop_zero,hpl]
  rw [hT10]
  have hle:=Qwx up S (vE (-1))
  have hlk:XR L2 (tmN tm)=Z9 L2 up (ofT up S (vE (-1))).1 (vE (-1)):=(XW x1).symm
  have e0:YC L up S.1 0 n=YC L2 up (ofT up S (vE (-1))).1 0 n:=by simp [YC]
  refine XX [(1,.sl 21 w21 0 3 ps.length none),(12,.ptr 8 w8 0),(15,.ptr 16 wb 0),(16,.ptr 17 wW 0),(26,ofV wp wh wg wb)] (by simp only [QF]; simp -implicitDefEqProofs (disch:=omega) only [go_sem,↓reduceIte,rq]) ?_
  rw [hlk,e0,QaO (L:=L) (up:=up) (H:=S.1) (L':=L2) (up':=up) (H':=(ofT up S (vE (-1))).1) (k:=1),QaO (L:=L) (up:=up) (H:=S.1) (L':=L2) (up':=up) (H':=(ofT up S (vE (-1))).1) (k:=2)]
  refine fr_C2 hT F (kV:=18) (kW:=17) (y:=y) (S:=ofT up S (vE (-1))) (by simp) hf x4 (by omega) (by omega) hn hl hcnt hps h8 hz fun y' L3 L4 t4 u2 u3 u4 q1 q2 q3 q4 q5=>?_
  have hs1:(Re.get (ofT up S (vE (-1))).1 (Ql up (vE (-1)))).isSome:=by rw [x1]; rfl
  have hkeep:Z9 L4 up (asked up S (Qh8 n ps)).1 (vE (-1))=Z9 L2 up (ofT up S (vE (-1))).1 (vE (-1)):=by
   rw [QdY,← Qno]; exact QjF x4 (q1.trans q2) hs1 _
  have:=hQ y' L4 t4 u2 u3 u4 (x2.trans (q1.trans q2)) (by omega) (by rw [QdY]; exact q5)
  rw [hkeep,QdY] at this
  exact this
theorem Qo0:∀ o:List (Option Ob),Xx (o++[none]) o
 | []=>by simp [Xx]
 | none::o=>by have:=Qo0 o; simpa [Xx] using this
 | some x::o=>by have:=Qo0 o; simpa [Xx] using this
theorem frX_eq {v0 wg wb wu wp wm wh w21 kV kW:Nat} {y:Nat→Option Ob} {vr wo sr:Option Ob} {up:List (Pr × Pr)} {L:List Nd} {H:List (Pr × Tm)} {b:Int} {ps:List Pr} {cells:List V} (hk:kV=17∧kW=18∨kV=18∧kW=17) (h24:y 24=none) :
 frX v0 wg wb wu wp wm wh (y3 y kV kW vr wo sr (some (.arr w21 64 (fl prC ps++cells)))) up L H b=(frA v0 wg wb wu wp w21 (y3 y kV kW vr wo sr (some (.arr w21 64 (fl prC ps++cells)))) up ps cells b++frH wm wh L H)++[none]:=by
 rcases hk with ⟨rfl,rfl⟩ | ⟨rfl,rfl⟩ <;> simp [frX,frA,frH,y3,h24]
theorem fr_A1 (hT:Qn P tab) (F:Fmt P G) {v0 v1 v2 v3 v4 wg wb wu wp w21 w8 kV kW wV wW ws t n cnt:Nat} {y:Nat→Option Ob} {ps:List Pr} {cells:List V} {up:List (Pr × Pr)} {b:Int} {L:List Nd} {f g:Nat→Int} {sure:Bool} {z8:List V} {Q:V→Am.H→Prop}
 (hk:kV=17∧kW=18∨kV=18∧kW=17) (hf:Fst up) (hb:0≤b∧b≤1199023254000) (hL:L.length≤20000) (hn:n≤10) (hl:ps.length≤1000) (hcnt:cnt≤100) (hps:∀ x∈ps,QHl cnt x) (hpn:∀ x∈ps,i64 x.n) (h8:y 8=some (.arr w8 49 z8)) (h24:y 24=none) (hz:z8.length=36)
 (hQ : ∀ wm wh y' L' t' u2 u3 u4, Ext L L' → L'.length ≤ L.length + 1 + n + 2 * ps.length → AllH L' (asked up (nums up ps, b) (Qh8 n ps)).1 → Q (.tup [.agg (woC kV wV n (Z9 L' up (asked up (nums up ps, b) (Qh8 n ps)).1 (vE (-1))) (QI L' up (asked up (nums up ps, b) (Qh8 n ps)).1 ps 1 f 32) ws cnt sure), .int .i64 (asked up (nums up ps, b) (Qh8 n ps)).2]) ⟨t', kG F.fmt v0 v1 u2 u3 u4 L' ++ frZ v0 wg wb wu wp wm wh (y3 y' kV kW (some (.arr wV 44 (YC L' up (asked up (nums up ps, b) (Qh8 n ps)).1 n n))) (some (.arr wW 49 (woC kV wV n (Z9 L' up (asked up (nums up ps, b) (Qh8 n ps)).1 (vE (-1))) (QI L' up (asked up (nums up ps, b) (Qh8 n ps)).1 ps 1 f 32) ws cnt sure))) (some (.arr ws 44 (QI L' up (asked up (nums up ps, b) (Qh8 n ps)).1 ps 2 g cnt))) (some (.arr w21 64 (fl prC ps ++ cells)))) up L' (asked up (nums up ps, b) (Qh8 n ps)).1 (asked up (nums up ps, b) (Qh8 n ps)).2⟩) :
 W P G 157 0 (Zd 6 relate_Fresh.body) [(1,.sl 21 w21 0 3 ps.length none),(6,.ptr 5 wg 0),(12,.ptr 8 w8 0),(15,.ptr 16 wb 0),(16,.ptr kW wW 0),(17,.ptr 20 wp 0)] ⟨t,kG F.fmt v0 v1 v2 v3 v4 L++frA v0 wg wb wu wp w21 (y3 y kV kW (some (.arr wV 44 (YC L up [] 0 n))) (some (.arr wW 49 (woC kV wV n 0 (QI L up [] [] 1 f 32) ws cnt sure))) (some (.arr ws 44 (QI L up [] [] 2 g cnt))) (some (.arr w21 64 (fl prC ps++cells)))) up ps cells b⟩ (QjH G Q):=by
 obtain ⟨Y,hY⟩:∃ Y,Y=y3 y kV kW (some (.arr wV 44 (YC L up [] 0 n))) (some (.arr wW 49 (woC kV wV n 0 (QI L up [] [] 1 f 32) ws cnt sure))) (some (.arr ws 44 (QI L up [] [] 2 g cnt))) (some (.arr w21 64 (fl prC ps++cells))):=⟨_,rfl⟩
 rw [← hY]
 show W P G 157 0 (.seq (.reg ZN [64]) (.seq (.seq (.reg ZM []) (.block 2 (.loop (AC.seq (AC.reg Zf [])   (AC.seq (AC.cond (Arg.t 68)   AC.skip   (AC.exit 2))   (AC.seq (AC.block 3 (AC.seq (AC.reg ZF [69,70])   (AC.seq (AC.reg ZE [71,72,73,74,75])   (AC.seq (AC.reg ZD [77,78,79,76,80,81,24])   (AC.seq (AC.reg ZC [82,83,84,85,86,87,88])   (AC.cond (Arg.t 89)   (AC.reg ZB [90,91,92,93,94,95,96])   AC.skip))))))   (AC.reg ZA [97]))))))) (Zd 8 relate_Fresh.body))) _ _ _
 obtain ⟨T8,hT8⟩:∃ c,c=Zd 8 relate_Fresh.body:=⟨_,rfl⟩
 rw [← hT8]
 refine Qq 40 ?_
 simp only [frA]
 simp -implicitDefEqProofs (disch:=omega) only [go_sem,↓reduceIte,rA,rq,zA,nF,lR,zL,and_true,nF,lC,lN,cA,nA,aA,lA,tZ,List.drop_succ_cons,List.drop_nil,Ym,ZN,ZM,Qcq,Qdb,Qcl]
 refine XU ps (fun i fr σ => ∃ L' t' u2 u3 u4, Ext L L' ∧ L'.length ≤ L.length + i ∧ AllH L' (nums up (ps.take i)) ∧ QF fr [(1, .sl 21 w21 0 3 ps.length none), (6, .ptr 5 wg 0), (12, .ptr 8 w8 0), (15, .ptr 16 wb 0), (16, .ptr kW wW 0), (17, .ptr 20 wp 0), (20, .ptr 23 (t + 1) 0), (65, .sl 21 w21 0 3 ps.length none), (66, .int .i64 ((ps.length : Nat) : Int)), (67, .int .i64 ((i : Nat) : Int))] ∧ σ = ⟨t', kG F.fmt v0 v1 u2 u3 u4 L' ++ (frA v0 wg wb wu wp w21 Y up ps cells b ++ frH t (t + 1) L' (nums up (ps.take i)))⟩)
  (fun e fr σ => e = .ex 2 ∧ ∃ L' t' u2 u3 u4, Ext L L' ∧ L'.length ≤ L.length + ps.length ∧ AllH L' (nums up ps) ∧ QF fr [(1, .sl 21 w21 0 3 ps.length none), (6, .ptr 5 wg 0), (12, .ptr 8 w8 0), (15, .ptr 16 wb 0), (16, .ptr kW wW 0), (17, .ptr 20 wp 0), (20, .ptr 23 (t + 1) 0)] ∧ σ = ⟨t', kG F.fmt v0 v1 u2 u3 u4 L' ++ (frA v0 wg wb wu wp w21 Y up ps cells b ++ frH t (t + 1) L' (nums up ps))⟩)
  ⟨L,_,v2,v3,v4,Ext.refl L,by omega,fun p hp=>absurd hp (by simp [nums]),?_,rfl⟩ (fun i x hx fr σ hJ=>?_) (fun i hi fr σ hJ=>?_) (fun e fr σ hE=>?_)
 ·simp only [QF]; simp -implicitDefEqProofs (disch:=omega) only [go_sem,↓reduceIte,rq]; try rfl
 ·obtain ⟨L1,t1,u2,u3,u4,hE,hLl,hA1,hh,rfl⟩:=hJ
  have hi:=(List.getElem?_eq_some_iff.1 hx).1
  have hxm:=List.mem_of_getElem? hx
  have hS:nums up (ps.take (i+1))=Qbq up (nums up (ps.take i)) x:=by rw [Qz hx,Qqu]
  refine (XX _ hh (Qw3 hT F hf hl hx (by omega) hA1 (hpn x hxm))).conseq fun e fr σ h=>?_
  cases e with
  | nrm =>
    obtain ⟨fr', σ', q1, q2, L2, t2, w2, w3, w4, q3, q4, q5, q6⟩ := h
    exact ⟨fr', σ', q1, L2, t2, w2, w3, w4, hE.trans q3, by omega, by rw [hS]; exact q5, q2, by rw [hS]; exact q6⟩
  | ex id=>exact h.elim
  | ret=>exact h.elim
 ·obtain ⟨L1,t1,u2,u3,u4,hE,hLl,hA1,hh,rfl⟩:=hJ
  rw [hi,List.take_length] at hA1 ⊢
  refine Qj _ hh 12 ?_
  simp -implicitDefEqProofs (disch:=omega) only [go_sem,↓reduceIte,rq,decide_false,Zf,hi,Nat.lt_irrefl]
  refine ⟨L1,t1,u2,u3,u4,hE,by omega,hA1,?_,rfl,rfl⟩
  simp only [QF]; simp -implicitDefEqProofs (disch:=omega) only [go_sem,↓reduceIte,rq]
 ·obtain ⟨rfl,L1,t1,u2,u3,u4,hE,hLl,hA1,hh,rfl⟩:=hE
  have hsh:Shift G 157 0 [(1,.sl 21 w21 0 3 ps.length none),(6,.ptr 5 wg 0),(12,.ptr 8 w8 0),(15,.ptr 16 wb 0),(16,.ptr kW wW 0),(17,.ptr 20 wp 0),(20,.ptr 23 (t+1) 0)] ⟨t1,kG F.fmt v0 v1 u2 u3 u4 L1++(frA v0 wg wb wu wp w21 Y up ps cells b++frH t (t+1) L1 (nums up ps))⟩ [(1,.sl 21 w21 0 3 ps.length none),(6,.ptr 5 wg 0),(12,.ptr 8 w8 0),(15,.ptr 16 wb 0),(16,.ptr kW wW 0),(17,.ptr 20 wp 0),(20,.ptr 23 (t+1) 0)] ⟨t1,kG F.fmt v0 v1 u2 u3 u4 L1++frX v0 wg wb wu wp t (t+1) Y up L1 (nums up ps) b⟩:=by
   refine Shift.drop ?_ (lR _) (zL _)
   rw [hY,frX_eq hk h24,← aA]
   exact Qo0 _
  refine Qfu [(1,.sl 21 w21 0 3 ps.length none),(6,.ptr 5 wg 0),(12,.ptr 8 w8 0),(15,.ptr 16 wb 0),(16,.ptr kW wW 0),(17,.ptr 20 wp 0),(20,.ptr 23 (t+1) 0)] hh (X6 hsh ?_)
  rw [hT8,hY]
  have e0:YC L up [] 0 n=YC L1 up (nums up ps) 0 n:=by simp [YC]
  rw [e0,QaO (L:=L) (up:=up) (H:=[]) (L':=L1) (up':=up) (H':=nums up ps) (k:=1),QaO (L:=L) (up:=up) (H:=[]) (L':=L1) (up':=up) (H':=nums up ps) (k:=2)]
  exact fr_B hT F (S:=(nums up ps,b)) hk hf hA1 hb (by omega) hn hl hcnt hps h8 hz fun y' L2 t2 w2 w3 w4 q1 q2 q3=>hQ t (t+1) y' L2 t2 w2 w3 w4 (hE.trans q1) (by omega) q3
def frS (ps:List Pr) (b:Int) (n:Nat):List (Pr × Tm) × Int:=asked (Qr (ties ps)) (nums (Qr (ties ps)) ps,b) (Qh8 n ps)
theorem fr_A0 (hT:Qn P tab) (F:Fmt P G) {v0 v1 v2 v3 v4 wg wb wu wp w21 w8 kV kW wV wW ws t n cnt:Nat} {y:Nat→Option Ob} {ps:List Pr} {cells:List V} {b:Int} {L:List Nd} {f g:Nat→Int} {sure:Bool} {z8:List V} {Q:V→Am.H→Prop}
 (hk:kV=17∧kW=18∨kV=18∧kW=17) (hb:0≤b∧b≤1199023254000) (hL:L.length≤20000) (hn:n≤10) (hl:ps.length≤1000) (hcnt:cnt≤100) (hps:∀ x∈ps,QHl cnt x) (hpn:∀ x∈ps,i64 x.n) (h8:y 8=some (.arr w8 49 z8)) (h24:y 24=none) (hz:z8.length=36)
 (hQ : ∀ wm wh y' L' t' u2 u3 u4, Ext L L' → L'.length ≤ L.length + 1 + n + 2 * ps.length → AllH L' (frS ps b n).1 → Q (.tup [.agg (woC kV wV n (Z9 L' (Qr (ties ps)) (frS ps b n).1 (vE (-1))) (QI L' (Qr (ties ps)) (frS ps b n).1 ps 1 f 32) ws cnt sure), .int .i64 (frS ps b n).2]) ⟨t', kG F.fmt v0 v1 u2 u3 u4 L' ++ frZ v0 wg wb wu wp wm wh (y3 y' kV kW (some (.arr wV 44 (YC L' (Qr (ties ps)) (frS ps b n).1 n n))) (some (.arr wW 49 (woC kV wV n (Z9 L' (Qr (ties ps)) (frS ps b n).1 (vE (-1))) (QI L' (Qr (ties ps)) (frS ps b n).1 ps 1 f 32) ws cnt sure))) (some (.arr ws 44 (QI L' (Qr (ties ps)) (frS ps b n).1 ps 2 g cnt))) (some (.arr w21 64 (fl prC ps ++ cells)))) (Qr (ties ps)) L' (frS ps b n).1 (frS ps b n).2⟩) :
 W P G 157 0 (Zd 5 relate_Fresh.body) [(1,.sl 21 w21 0 3 ps.length none),(6,.ptr 5 wg 0),(12,.ptr 8 w8 0),(15,.ptr 16 wb 0),(16,.ptr kW wW 0),(17,.ptr 20 wp 0)] ⟨t,kG F.fmt v0 v1 v2 v3 v4 L++frA v0 wg wb wu wp w21 (y3 y kV kW (some (.arr wV 44 (YC L [] [] 0 n))) (some (.arr wW 49 (woC kV wV n 0 (QI L [] [] [] 1 f 32) ws cnt sure))) (some (.arr ws 44 (QI L [] [] [] 2 g cnt))) (some (.arr w21 64 (fl prC ps++cells)))) [] ps cells b⟩ (QjH G Q):=by
 obtain ⟨Y,hY⟩:∃ Y,Y=y3 y kV kW (some (.arr wV 44 (YC L [] [] 0 n))) (some (.arr wW 49 (woC kV wV n 0 (QI L [] [] [] 1 f 32) ws cnt sure))) (some (.arr ws 44 (QI L [] [] [] 2 g cnt))) (some (.arr w21 64 (fl prC ps++cells))):=⟨_,rfl⟩
 rw [← hY]
 show W P G 157 0 (.seq (.seq (.reg QdZ []) (.block 0 (.loop (AC.seq (AC.reg Qc3 [])   (AC.seq (AC.cond (Arg.t 52)   AC.skip   (AC.exit 0))   (AC.seq (AC.block 1 (AC.seq (AC.reg Qdu [53,54])   (AC.reg Qdt [55,56,57,58,59,60,61,62])))   (AC.reg Qds [63]))))))) (Zd 6 relate_Fresh.body)) _ _ _
 obtain ⟨T6,hT6⟩:∃ c,c=Zd 6 relate_Fresh.body:=⟨_,rfl⟩
 rw [← hT6]
 refine Qq 40 ?_
 simp -implicitDefEqProofs (disch:=omega) only [go_sem,↓reduceIte,rq,QdZ]
 refine XU ps (fun i fr σ => ∃ t', QF fr [(1, .sl 21 w21 0 3 ps.length none), (6, .ptr 5 wg 0), (12, .ptr 8 w8 0), (15, .ptr 16 wb 0), (16, .ptr kW wW 0), (17, .ptr 20 wp 0), (49, .sl 21 w21 0 3 ps.length none), (50, .int .i64 ((ps.length : Nat) : Int)), (51, .int .i64 ((i : Nat) : Int))] ∧ σ = ⟨t', kG F.fmt v0 v1 v2 v3 v4 L ++ frA v0 wg wb wu wp w21 Y (Qr (ties (ps.take i))) ps cells b⟩)
  (fun e fr σ => e = .ex 0 ∧ ∃ t', QF fr [(1, .sl 21 w21 0 3 ps.length none), (6, .ptr 5 wg 0), (12, .ptr 8 w8 0), (15, .ptr 16 wb 0), (16, .ptr kW wW 0), (17, .ptr 20 wp 0)] ∧ σ = ⟨t', kG F.fmt v0 v1 v2 v3 v4 L ++ frA v0 wg wb wu wp w21 Y (Qr (ties ps)) ps cells b⟩)
  ⟨_,?_,rfl⟩ (fun i x hx fr σ hJ=>?_) (fun i hi fr σ hJ=>?_) (fun e fr σ hE=>?_)
 ·simp only [QF]; simp -implicitDefEqProofs (disch:=omega) only [go_sem,↓reduceIte,rq]; try rfl
 ·obtain ⟨t1,hh,rfl⟩:=hJ
  have hS:Qr (ties (ps.take (i+1)))=joinL (Qr (ties (ps.take i))) (vE x.v) (pE x):=by
   rw [Qz hx]
   have:ties (ps.take i++[x])=ties (ps.take i)++[(vE x.v,pE x)]:=by simp [ties]
   rw [this,QjE]
  refine (XX _ hh (Qw4 hT (QqH _) hl hx)).conseq fun e fr σ h=>?_
  cases e with
  | nrm =>
    obtain ⟨fr', σ', q1, q2, t2, q6⟩ := h
    exact ⟨fr', σ', q1, t2, q2, by rw [hS]; exact q6⟩
  | ex id=>exact h.elim
  | ret=>exact h.elim
 ·obtain ⟨t1,hh,rfl⟩:=hJ
  rw [hi,List.take_length]
  refine Qj _ hh 12 ?_
  simp -implicitDefEqProofs (disch:=omega) only [go_sem,↓reduceIte,rq,decide_false,Qc3,hi,Nat.lt_irrefl]
  refine ⟨t1,?_,rfl⟩
  simp only [QF]; simp -implicitDefEqProofs (disch:=omega) only [go_sem,↓reduceIte,rq]
 ·obtain ⟨rfl,t1,hh,rfl⟩:=hE
  refine Qfu [(1,.sl 21 w21 0 3 ps.length none),(6,.ptr 5 wg 0),(12,.ptr 8 w8 0),(15,.ptr 16 wb 0),(16,.ptr kW wW 0),(17,.ptr 20 wp 0)] hh ?_
  rw [hT6,hY]
  have e0:YC L [] [] 0 n=YC L (Qr (ties ps)) [] 0 n:=by simp [YC]
  rw [e0,QaO (L:=L) (up:=[]) (H:=[]) (L':=L) (up':=Qr (ties ps)) (H':=[]) (k:=1),QaO (L:=L) (up:=[]) (H:=[]) (L':=L) (up':=Qr (ties ps)) (H':=[]) (k:=2)]
  exact fr_A1 hT F hk (QqH _) hb hL hn hl hcnt hps hpn h8 h24 hz hQ
theorem Qml {n base:Nat} {Q:AE→Fr→Am.H→Prop} {c:AC} {fr:Fr} {σ:Am.H} (h:W P G n base c fr σ Q):run P G n base Q 0 [.ac c] .nrm fr σ:=h
def yP (w6:Nat) (x7:Option Ob) (w8 w15:Nat) (vars:Nat) (zs st:List V):Nat→Option Ob:=fun i=>if i=6 then some (.arr w6 3 [.int .i64 ((vars:Nat):Int)]) else if i=7 then x7 else if i=8 then some (.arr w8 49 zs) else if i=15 then some (.arr w15 47 st) else none
def Qaj (l:List Pr) (vars cnt:Nat):List Pr:=(srt l).filter (Q8 ((vars:Nat):Int) cnt)
theorem Ql3 {l:List Pr} {vars cnt:Nat} {x:Pr} (h:x∈Qaj l vars cnt):QHl cnt x:=by
 have h2:=(List.mem_filter.1 h).2
 unfold Q8 at h2
 simp only [Bool.and_eq_true,decide_eq_true_eq] at h2
 have h3:=h2.2
 by_cases k1:x.k=1
 ·rw [if_pos k1] at h3
  unfold QpZ at h3
  simp only [decide_eq_true_eq] at h3
  exact .inl ⟨k1,x.n.toNat,by omega,by omega⟩
 ·by_cases k2:x.k=2
  ·rw [if_neg k1,if_pos k2] at h3
   simp only [decide_eq_true_eq] at h3
   exact .inr (.inl ⟨k2,x.n.toNat,by omega,by omega⟩)
  ·rw [if_neg k1,if_neg k2] at h3
   simp only [decide_eq_true_eq] at h3
   exact .inr (.inr h3)
theorem QvX (L:List Nd) (up:List (Pr × Pr)) (H:List (Pr × Tm)) (n:Nat):(List.replicate n [V.int .i64 0]).flatten=YC L up H 0 n:=by
 have:YC L up H 0 n=(List.range n).map fun _=>V.int .i64 0:=by simp [YC]
 rw [this]
 induction n with
 | zero=>rfl
 | succ n ih => rw [List.replicate_succ', List.flatten_append, ih (by simp [YC]), List.range_succ, List.map_append]; simp
theorem Qui (L:List Nd) (b:Int) (cnt:Nat):ZH L b cnt=QI L [] [] [] 2 (fun i=>XR L (sy (b+30+((i:Nat):Int)))) cnt:=by simp [ZH,QI]
theorem QFL (L:List Nd) (b:Int) (sl:V) (sure:Bool):stC L b 32 sl sure=QI L [] [] [] 1 (fun r=>QkM L b r) 32++[sl,.bool sure]:=by
 have h:Qfz L b 32=QI L [] [] [] 1 (fun r=>QkM L b r) 32:=by
  unfold Qfz QI
  refine List.map_congr_left fun r hr=>?_
  rw [if_pos (List.mem_range.1 hr)]
  simp
 unfold stC
 rw [h]
theorem QzH (hT:Qn P tab) (F:Fmt P G) (hS:QkF P G) {v0 v1 v2 v3 v4 t:Nat} {L:List Nd} (l:List Pr) (tg:Bool) (hl:l.length≤1000) (hl64:∀ x∈l,i64 x.n) (vars m:Nat) (hv:vars≤10) (hm:m≤4) (params next:Int) (hn:next≤1099511627776) (hL:L.length≤10000) :
 C P G 0 QaP [.ptr 1 v0 0,.lst 3 (prs l) tg,.int .i64 ((vars:Nat):Int),.agg (fnC m),.int .i64 params,.int .i64 next] ⟨t,kG F.fmt v0 v1 v2 v3 v4 L⟩ fun v σ =>
   ∃ L0 L' t' u2 u3 u4 kV kW wV wW ws w21 wg wb wu wp wm wh y cells,∃ ps,ps=Qaj l vars (QaR m params)∧∃ b,b=max 0 next+30+((QaR m params:Nat):Int) ∧
   (kV=17∧kW=18∨kV=18∧kW=17)∧Ext L L0∧AllR L0 (max 0 next) 32∧AllS L0 (max 0 next) (QaR m params)∧Ext L0 L'∧L'.length≤L.length+2500∧AllH L' (frS ps b vars).1 ∧
   v=.tup [.agg (woC kV wV vars (Z9 L' (Qr (ties ps)) (frS ps b vars).1 (vE (-1))) (QI L' (Qr (ties ps)) (frS ps b vars).1 ps 1 (fun r=>QkM L0 (max 0 next) r) 32) ws (QaR m params) (decide (m=0))),.int .i64 (frS ps b vars).2] ∧
   σ = ⟨t', kG F.fmt v0 v1 u2 u3 u4 L' ++ frZ v0 wg wb wu wp wm wh (y3 y kV kW (some (.arr wV 44 (YC L' (Qr (ties ps)) (frS ps b vars).1 vars vars))) (some (.arr wW 49 (woC kV wV vars (Z9 L' (Qr (ties ps)) (frS ps b vars).1 (vE (-1))) (QI L' (Qr (ties ps)) (frS ps b vars).1 ps 1 (fun r => QkM L0 (max 0 next) r) 32) ws (QaR m params) (decide (m = 0))))) (some (.arr ws 44 (QI L' (Qr (ties ps)) (frS ps b vars).1 ps 2 (fun i => XR L0 (sy (max 0 next + 30 + ((i : Nat) : Int)))) (QaR m params)))) (some (.arr w21 64 (fl prC ps ++ cells)))) (Qr (ties ps)) L' (frS ps b vars).1 (frS ps b vars).2⟩ := by
 have hmax:(if (0:Int)<((vars:Nat):Int) then ((vars:Nat):Int) else 0)=vars:=by split <;> omega
 have hslt:=Qo2 l
 refine Q6 hT QaM (by simp [relate_Fresh]) ?_
 show W P G 157 0 (.seq (.reg Qd4 []) (.seq (.reg Qd3 [31,32,33,34,35,30,36,37]) (.seq (.reg Qd2 [38,39,40,41,42]) (.seq (.reg Qd1 [43,44]) (.seq (.reg Qd0 [45,46,47,48]) (Zd 5 relate_Fresh.body)))))) _ _ (QjH G _)
 obtain ⟨T5,hT5⟩:∃ c,c=Zd 5 relate_Fresh.body:=⟨_,rfl⟩
 rw [← hT5]
 refine Qq 40 ?_
 have honf:ones (fnC m):=by
  intro c hc
  simp only [fnC,List.mem_cons,List.not_mem_nil,or_false] at hc
  rcases hc with rfl | rfl | rfl | rfl | rfl <;> rfl
 have hlf:(fnC m).length=5:=rfl
 have htf:List.take 5 (fnC m)=fnC m:=rfl
 simp -implicitDefEqProofs (disch:=omega) only [go_sem,↓reduceIte,reduceCtorEq,rA,rq,zA,lR,Qd4,Qd3,Qd2,Qd1,Qd0,Qcq,QjD,QnK,false_implies,true_implies,and_true,lC,lN,cA,nA,aA,lA,List.drop_zero,honf,hlf,htf]
 have hB:=fun (ex:List (Option Ob)) (t:Nat)=>QzL (P:=P) (G:=G) hT F (v0:=v0) (v1:=v1) (v2:=v2) (v3:=v3) (v4:=v4) (t:=t) (L:=L) m hm params next hn hL ex
 refine call hT Qkn (hB _ _) 12 fun v σ hv=>?_
 obtain ⟨L', t1, u2, u3, u4, ws, h1, h2, h3, h4, rfl, rfl⟩ := hv
 obtain ⟨b,hb⟩:∃ b,b=max 0 next:=⟨_,rfl⟩
 obtain ⟨cnt,hcnt⟩:∃ cnt,cnt=QaR m params:=⟨_,rfl⟩
 have hcb:cnt≤10:=by rw [hcnt]; unfold QaR; omega
 rw [← hb] at h3 h4 ⊢
 rw [← hcnt] at h4 ⊢
 simp only [lC,lN,zA,rA]
 have hsl:=Qhw L' b 32 (.sl 14 ws 0 1 cnt none) (decide (m=0))
 have hon:ones (stC L' b 32 (.sl 14 ws 0 1 cnt none) (decide (m=0))):=by
  unfold stC Qfz
  intro c hc
  simp only [List.mem_append,List.mem_map,List.mem_cons,List.not_mem_nil,or_false] at hc
  rcases hc with ⟨r,_,rfl⟩ | rfl | rfl <;> rfl
 have htk:List.take 34 (stC L' b 32 (.sl 14 ws 0 1 cnt none) (decide (m=0)))=stC L' b 32 (.sl 14 ws 0 1 cnt none) (decide (m=0)):=List.take_of_length_le (by omega)
 simp -implicitDefEqProofs (disch:=omega) only [go_sem,↓reduceIte,reduceCtorEq,rA,rq,rT,zA,nF,lR,zL,gt_iff_lt,Qcq,Qi1,QgE,Qco,Qeh,QbH,true_implies,and_true,nF,lC,lN,cA,nA,aA,lA,tZ,List.drop_succ_cons,List.drop_nil,hsl,hon]
 repeat' (first | with_reducible refine And.intro ?_ ?_ | (refine Qa 6 ?_; simp -implicitDefEqProofs (disch:=omega) only [go_sem,Qd,↓reduceIte,reduceCtorEq,rA,rq,rL,zA,nF,lR,zL,Ym,Qcq,QgE,Qbw,Qaq,Qbv,Qap,QeY,Qcm,false_implies,true_and,and_true,nF,lC,lN,cA,nA,aA,lA,tS,tZ,List.drop_succ_cons,List.drop_zero,List.drop_nil,hsl,hon,htk,hmax]))
 all_goals
  refine call hT Qb3 (Qro hT hS l tg (by omega) (zL _)) 12 fun v σ hv=>?_
  obtain ⟨t2,w21,cells0,ht2,hcn0,rfl,rfl⟩:=hv
  refine ya ?_
  refine call hT QC (Qrp hT hcn0 (zL _) (fun ex=>QrS hT rfl rfl _) (by omega)) 2 fun v σ hv=>?_
  obtain ⟨t3,cells,ht3,hcn,rfl,rfl⟩:=hv
  have hps:((srt l).filter fun p=>!(!Q8 ((vars:Nat):Int) cnt p))=Qaj l vars cnt:=by
   unfold Qaj; exact List.filter_congr fun p _=>by rw [Bool.not_not]
  rw [hps]
  obtain ⟨ps,hpsd⟩:∃ ps,ps=Qaj l vars cnt:=⟨_,rfl⟩
  rw [← hpsd]
  have hpl:ps.length≤1000:=by rw [hpsd]; exact Nat.le_trans (List.length_filter_le _ _) (by omega)
  have hpa:∀ x∈ps,QHl cnt x:=fun x hx=>Ql3 (hpsd▸hx)
  have hpn:∀ x∈ps,i64 x.n:=fun x hx=>hl64 x (Qsh.1 (List.mem_filter.1 (hpsd▸hx:x∈Qaj l vars cnt)).1)
  simp -implicitDefEqProofs (disch:=omega) only [go_sem,↓reduceIte,reduceCtorEq,rA,rq,zA,lC,lN,cA,nA,aA,lA,Qcq]
  rw [hT5,QvX L' [] [] vars,Qui,QFL]
  refine Qml ?_
  first
   | (refine XX [(1,.sl 21 w21 0 3 ps.length none),(6,.ptr 5 t 0),(12,.ptr 8 (t+1+1+1) 0),(15,.ptr 16 (t1+1) 0),(16,.ptr 18 (t1+1+1+1) 0),(17,.ptr 20 (t1+1+1+1+1+1) 0)] (by simp only [QF]; simp -implicitDefEqProofs (disch:=omega) only [go_sem,↓reduceIte,reduceCtorEq,rq]; done) ?_
      exact fr_A0 hT F (kV := 17) (kW := 18) (y := yP (t + 1) _ (t + 1 + 1 + 1) t1 vars _ _) (b := b + 30 + ((cnt : Nat) : Int)) (.inl ⟨rfl, rfl⟩) (by omega) (by omega) hv hpl (by omega) hpa hpn (by rfl) (by rfl) (by rfl) fun wm wh y' L2 t' w2 w3 w4 q1 q2 q3 => ⟨L', L2, t', w2, w3, w4, 17, 18, _, _, ws, w21, _, _, _, _, wm, wh, y', cells, ps, rfl, b + 30 + ((cnt : Nat) : Int), rfl, .inl ⟨rfl, rfl⟩, h1, h3, h4, q1, by omega, q3, rfl, rfl⟩)
   | (refine XX [(1,.sl 21 w21 0 3 ps.length none),(6,.ptr 5 t 0),(12,.ptr 8 (t+1+1+1) 0),(15,.ptr 16 (t1+1) 0),(16,.ptr 17 (t1+1+1) 0),(17,.ptr 20 (t1+1+1+1+1+1) 0)] (by simp only [QF]; simp -implicitDefEqProofs (disch:=omega) only [go_sem,↓reduceIte,reduceCtorEq,rq]; done) ?_
      exact fr_A0 hT F (kV := 18) (kW := 17) (y := yP (t + 1) _ (t + 1 + 1 + 1) t1 vars _ _) (b := b + 30 + ((cnt : Nat) : Int)) (.inr ⟨rfl, rfl⟩) (by omega) (by omega) hv hpl (by omega) hpa hpn (by rfl) (by rfl) (by rfl) fun wm wh y' L2 t' w2 w3 w4 q1 q2 q3 => ⟨L', L2, t', w2, w3, w4, 18, 17, _, _, ws, w21, _, _, _, _, wm, wh, y', cells, ps, rfl, b + 30 + ((cnt : Nat) : Int), rfl, .inr ⟨rfl, rfl⟩, h1, h3, h4, q1, by omega, q3, rfl, rfl⟩)
theorem QGt (k w:Nat) (cs:List V) (L:List Nd):(ndC L).map (Z3 k w cs)=ndC L:=by
 induction L with
 | nil=>rfl
 | cons d L ih =>
   have e:ndC (d::L)=d.cells++ndC L:=by simp [ndC]
   rw [e,List.map_append,ih]; rfl
theorem QtB (k w:Nat) (cs:List V):∀ (j:Nat) (L:List Nd),(QgH j L).map (fun p=>(p.1,Z3 k w cs p.2))=QgH j L
 | _,[]=>rfl
 | j,d::l=>by simp only [QgH,List.map_cons,QtB k w cs (j+1) l]; rfl
theorem Qpt (k w:Nat) (cs:List V) (L:List Nd) (up:List (Pr × Pr)) (H:List (Pr × Tm)) (l:List Pr) (j:Int) (f:Nat→Int) (n:Nat):(QI L up H l j f n).map (Z3 k w cs)=QI L up H l j f n:=by
 unfold QI; rw [List.map_map]; rfl
theorem Qup (L:List Nd) (up:List (Pr × Pr)) (H:List (Pr × Tm)) (l:List Pr) (j:Int) (f:Nat→Int) (n:Nat):∀ u∈QI L up H l j f n,u.cells=[u]:=fun u hu=>by
 unfold QI at hu; obtain ⟨r,_,rfl⟩:=List.mem_map.1 hu; rfl
theorem Qr8 (L:List Nd) (up:List (Pr × Pr)) (H:List (Pr × Tm)) (l:List Pr) (j:Int) (f:Nat→Int) (n:Nat):Qc (QI L up H l j f n)=true:=by
 unfold QI
 induction List.range n with
 | nil=>rfl
 | cons r l ih=>simpa [Qc,Qe] using ih
theorem Qt9 (L:List Nd) (up:List (Pr × Pr)) (H:List (Pr × Tm)) (i n:Nat):∀ u∈YC L up H i n,u.cells=[u]:=fun u hu=>by
 unfold YC at hu; obtain ⟨r,_,rfl⟩:=List.mem_map.1 hu; rfl
theorem QvY (L:List Nd) (up:List (Pr × Pr)) (H:List (Pr × Tm)) (i n:Nat):Qc (YC L up H i n)=true:=by
 unfold YC
 induction List.range n with
 | nil=>rfl
 | cons r l ih=>simpa [Qc,Qe] using ih
theorem QtA (k w:Nat) (cs:List V) (L:List Nd) (up:List (Pr × Pr)) (H:List (Pr × Tm)) (i n:Nat):(YC L up H i n).map (Z3 k w cs)=YC L up H i n:=by
 unfold YC; rw [List.map_map]; rfl
theorem QkA {fmt:Int→List UInt8} {v0 v1 v2 v3 v4 k w:Nat} {L:List Nd} {cs:List V} {ex:List (Option Ob)} (hk:5≤k):QP (Z3 k w cs) 0 (kG fmt v0 v1 v2 v3 v4 L++ex)=kG fmt v0 v1 v2 v3 v4 L++QP (Z3 k w cs) 0 ex:=by
 have n2:¬ 2=k:=by omega
 have n3:¬ 3=k:=by omega
 have n4:¬ 4=k:=by omega
 simp [kG,QP,Ob.mapV,QGt,QtB,Z3,n2,n3,n4]
def woF (vr:List V) (lk:Int) (rg sr:List V) (sure:Bool):List V:=.lst 1 vr false::.int .i64 lk::(rg++[.lst 1 sr false,.bool sure])
theorem QGZ (hT:Qn P tab) (F:Fmt P G) (hS:QkF P G) {v0 v1 v2 v3 v4 t:Nat} {L:List Nd} (l:List Pr) (tg:Bool) (hl:l.length≤1000) (hl64:∀ x∈l,i64 x.n) (vars m:Nat) (hv:vars≤10) (hm:m≤4) (params next:Int) (hn:next≤1099511627776) (hL:L.length≤10000) :
 C P G 0 QaP [.ptr 1 v0 0,.lst 3 (prs l) tg,.int .i64 ((vars:Nat):Int),.agg (fnC m),.int .i64 params,.int .i64 next] ⟨t,kG F.fmt v0 v1 v2 v3 v4 L⟩ fun v σ =>
   ∃ L0 L' t' u2 u3 u4,∃ ps,ps=Qaj l vars (QaR m params)∧∃ b,b=max 0 next+30+((QaR m params:Nat):Int) ∧
   Ext L L0∧AllR L0 (max 0 next) 32∧AllS L0 (max 0 next) (QaR m params)∧Ext L0 L'∧L'.length≤L.length+2500∧AllH L' (frS ps b vars).1 ∧
   v=.tup [.agg (woF (YC L' (Qr (ties ps)) (frS ps b vars).1 vars vars) (Z9 L' (Qr (ties ps)) (frS ps b vars).1 (vE (-1))) (QI L' (Qr (ties ps)) (frS ps b vars).1 ps 1 (fun r=>QkM L0 (max 0 next) r) 32) (QI L' (Qr (ties ps)) (frS ps b vars).1 ps 2 (fun i=>XR L0 (sy (max 0 next+30+((i:Nat):Int)))) (QaR m params)) (decide (m=0))),.int .i64 (frS ps b vars).2] ∧
   σ = ⟨t', kG F.fmt v0 v1 u2 u3 u4 L'⟩ := by
 refine QrJ (Q:=fun v σ=>∃ L0 L' t' u2 u3 u4,∃ ex:List (Option Ob),∃ ps,ps=Qaj l vars (QaR m params)∧∃ b,b=max 0 next+30+((QaR m params:Nat):Int) ∧
  Ext L L0∧AllR L0 (max 0 next) 32∧AllS L0 (max 0 next) (QaR m params)∧Ext L0 L'∧L'.length≤L.length+2500∧AllH L' (frS ps b vars).1 ∧
  v=.tup [.agg (woF (YC L' (Qr (ties ps)) (frS ps b vars).1 vars vars) (Z9 L' (Qr (ties ps)) (frS ps b vars).1 (vE (-1))) (QI L' (Qr (ties ps)) (frS ps b vars).1 ps 1 (fun r=>QkM L0 (max 0 next) r) 32) (QI L' (Qr (ties ps)) (frS ps b vars).1 ps 2 (fun i=>XR L0 (sy (max 0 next+30+((i:Nat):Int)))) (QaR m params)) (decide (m=0))),.int .i64 (frS ps b vars).2] ∧
  σ = ⟨t', kG F.fmt v0 v1 u2 u3 u4 L' ++ ex⟩) ?_ fun v σ' hq => ?_
 ·refine Qge (Q:=fun v σ=>∃ L0 L' t' u2 u3 u4 kV wV,∃ e1 e2:List (Option Ob),∃ ps,ps=Qaj l vars (QaR m params)∧∃ b,b=max 0 next+30+((QaR m params:Nat):Int) ∧
   kV=5+e1.length∧Ext L L0∧AllR L0 (max 0 next) 32∧AllS L0 (max 0 next) (QaR m params)∧Ext L0 L'∧L'.length≤L.length+2500∧AllH L' (frS ps b vars).1 ∧
   v=.tup [.agg (.sl kV wV 0 1 vars none::.int .i64 (Z9 L' (Qr (ties ps)) (frS ps b vars).1 (vE (-1)))::(QI L' (Qr (ties ps)) (frS ps b vars).1 ps 1 (fun r=>QkM L0 (max 0 next) r) 32++[.lst 1 (QI L' (Qr (ties ps)) (frS ps b vars).1 ps 2 (fun i=>XR L0 (sy (max 0 next+30+((i:Nat):Int)))) (QaR m params)) false,.bool (decide (m=0))])),.int .i64 (frS ps b vars).2] ∧
   σ = ⟨t', kG F.fmt v0 v1 u2 u3 u4 L' ++ (e1 ++ some (.arr wV 44 (YC L' (Qr (ties ps)) (frS ps b vars).1 vars vars)) :: e2)⟩) ?_ fun v σ' hq => ?_
  ·refine Qge (Q:=fun v σ=>∃ L0 L' t' u2 u3 u4 kV wV ws,∃ x17 x18:Option Ob,∃ ps,ps=Qaj l vars (QaR m params)∧∃ b,b=max 0 next+30+((QaR m params:Nat):Int) ∧
   (kV=17∧x17=some (.arr wV 44 (YC L' (Qr (ties ps)) (frS ps b vars).1 vars vars))∧x18=none∨kV=18∧x18=some (.arr wV 44 (YC L' (Qr (ties ps)) (frS ps b vars).1 vars vars))∧x17=none)∧Ext L L0∧AllR L0 (max 0 next) 32∧AllS L0 (max 0 next) (QaR m params)∧Ext L0 L'∧L'.length≤L.length+2500∧AllH L' (frS ps b vars).1 ∧
   v=.tup [.agg (.sl kV wV 0 1 vars none::.int .i64 (Z9 L' (Qr (ties ps)) (frS ps b vars).1 (vE (-1)))::(QI L' (Qr (ties ps)) (frS ps b vars).1 ps 1 (fun r=>QkM L0 (max 0 next) r) 32++[.sl 14 ws 0 1 (QaR m params) none,.bool (decide (m=0))])),.int .i64 (frS ps b vars).2] ∧
   σ = ⟨t', kG F.fmt v0 v1 u2 u3 u4 L' ++ [none, none, none, none, none, none, none, none, none, some (.arr ws 44 (QI L' (Qr (ties ps)) (frS ps b vars).1 ps 2 (fun i => XR L0 (sy (max 0 next + 30 + ((i : Nat) : Int)))) (QaR m params))), none, none, x17, x18]⟩) ?_ fun v σ' hq => ?_
   ·refine QrJ (QzH hT F hS l tg hl hl64 vars m hv hm params next hn hL) fun v σ' hq=>?_
    obtain ⟨L0, L', t', u2, u3, u4, kV, kW, wV, wW, ws, w21, wg, wb, wu, wp, wm, wh, y, cells, ps, hps, b, hb, hk, h1, h2, h3, h4, h5, h6, rfl, rfl⟩ := hq
    rcases hk with ⟨rfl,rfl⟩ | ⟨rfl,rfl⟩
    ·refine ⟨kG F.fmt v0 v1 u2 u3 u4 L' ++ [none, none, none, none, none, none, none, none, none, some (.arr ws 44 (QI L' (Qr (ties ps)) (frS ps b vars).1 ps 2 (fun i => XR L0 (sy (max 0 next + 30 + ((i : Nat) : Int)))) (QaR m params))), none, none, some (.arr wV 44 (YC L' (Qr (ties ps)) (frS ps b vars).1 vars vars)), none], t', ?_, lR _, zL _, L0, L', t', u2, u3, u4, 17, wV, ws, _, _, ps, hps, b, hb, .inl ⟨rfl, rfl, rfl⟩, h1, h2, h3, h4, h5, h6, rfl, rfl⟩
     simp [kG,frZ,y3,Xx]
    ·refine ⟨kG F.fmt v0 v1 u2 u3 u4 L' ++ [none, none, none, none, none, none, none, none, none, some (.arr ws 44 (QI L' (Qr (ties ps)) (frS ps b vars).1 ps 2 (fun i => XR L0 (sy (max 0 next + 30 + ((i : Nat) : Int)))) (QaR m params))), none, none, none, some (.arr wV 44 (YC L' (Qr (ties ps)) (frS ps b vars).1 vars vars))], t', ?_, lR _, zL _, L0, L', t', u2, u3, u4, 18, wV, ws, _, _, ps, hps, b, hb, .inr ⟨rfl, rfl, rfl⟩, h1, h2, h3, h4, h5, h6, rfl, rfl⟩
     simp [kG,frZ,y3,Xx]
   ·obtain ⟨L0, L', t', u2, u3, u4, kV, wV, ws, x17, x18, ps, hps, b, hb, hk, h1, h2, h3, h4, h5, h6, rfl, rfl⟩ := hq
    refine .inr ⟨14,ws,44,_,zL _,rfl,Qr8 _ _ _ _ _ _ _,?_⟩
    have hz:=QwX (_sz:=1) (k:=14) (w:=ws) (Qup L' (Qr (ties ps)) (frS ps b vars).1 ps 2 (fun i=>XR L0 (sy (max 0 next+30+((i:Nat):Int)))) (QaR m params))
    rw [Q7] at hz
    obtain ⟨sr,hsr⟩:∃ sr,sr=QI L' (Qr (ties ps)) (frS ps b vars).1 ps 2 (fun i=>XR L0 (sy (max 0 next+30+((i:Nat):Int)))) (QaR m params):=⟨_,rfl⟩
    rw [← hsr] at hz ⊢
    rcases hk with ⟨rfl,rfl,rfl⟩ | ⟨rfl,rfl,rfl⟩
    ·refine ⟨L0, L', t', u2, u3, u4, 17, wV, [none, none, none, none, none, none, none, none, none, none, none, none], [none], ps, hps, b, hb, rfl, h1, h2, h3, h4, h5, h6, ?_, ?_⟩
     ·rw [← hsr]
      simp only [Z3,Quz,QbO,List.map_append,Qpt,List.map_cons,List.map_nil] at hz ⊢
      simpa using hz
     ·have e:∀ (X:Option Ob) (ex:List (Option Ob)),(kG F.fmt v0 v1 u2 u3 u4 L'++ex).set 14 none=kG F.fmt v0 v1 u2 u3 u4 L'++ex.set 9 none:=fun X ex=>rfl
      rw [e none,QkA (by decide)]
      simp [QP,Ob.mapV,QtA]
    ·refine ⟨L0, L', t', u2, u3, u4, 18, wV, [none, none, none, none, none, none, none, none, none, none, none, none, none], [], ps, hps, b, hb, rfl, h1, h2, h3, h4, h5, h6, ?_, ?_⟩
     ·rw [← hsr]
      simp only [Z3,Quz,QbO,List.map_append,Qpt,List.map_cons,List.map_nil] at hz ⊢
      simpa using hz
     ·have e:∀ (X:Option Ob) (ex:List (Option Ob)),(kG F.fmt v0 v1 u2 u3 u4 L'++ex).set 14 none=kG F.fmt v0 v1 u2 u3 u4 L'++ex.set 9 none:=fun X ex=>rfl
      rw [e none,QkA (by decide)]
      simp [QP,Ob.mapV,QtA]
  ·obtain ⟨L0, L', t', u2, u3, u4, kV, wV, e1, e2, ps, hps, b, hb, hk, h1, h2, h3, h4, h5, h6, rfl, rfl⟩ := hq
   subst hk
   have hat:(kG F.fmt v0 v1 u2 u3 u4 L'++(e1++some (.arr wV 44 (YC L' (Qr (ties ps)) (frS ps b vars).1 vars vars))::e2))[5+e1.length]?=some (some (.arr wV 44 (YC L' (Qr (ties ps)) (frS ps b vars).1 vars vars))):=by
    rw [show 5+e1.length=(kG F.fmt v0 v1 u2 u3 u4 L').length+e1.length from rfl,List.getElem?_append_right (by omega),Nat.add_sub_cancel_left,List.getElem?_append_right (lR _),Nat.sub_self]; rfl
   refine .inr ⟨5+e1.length,wV,44,_,zL _,hat,QvY _ _ _ _ _,?_⟩
   have hz:=QwX (_sz:=1) (k:=5+e1.length) (w:=wV) (Qt9 L' (Qr (ties ps)) (frS ps b vars).1 vars vars)
   rw [Qlx] at hz
   obtain ⟨vr,hvr⟩:∃ vr,vr=YC L' (Qr (ties ps)) (frS ps b vars).1 vars vars:=⟨_,rfl⟩
   rw [← hvr] at hz ⊢
   refine ⟨L0, L', t', u2, u3, u4, QP (Z3 (5 + e1.length) wV vr) 0 ((e1 ++ some (.arr wV 44 vr) :: e2).set e1.length none), ps, hps, b, hb, h1, h2, h3, h4, h5, h6, ?_, ?_⟩
   ·rw [← hvr]
    simp only [Z3,Quz,QbO,List.map_append,Qpt,List.map_cons,List.map_nil,woF] at hz ⊢
    simpa using hz
   ·have e:(kG F.fmt v0 v1 u2 u3 u4 L'++(e1++some (.arr wV 44 vr)::e2)).set (5+e1.length) none=kG F.fmt v0 v1 u2 u3 u4 L'++(e1++some (.arr wV 44 vr)::e2).set e1.length none:=by
     rw [List.set_append_right _ _ (by show 5≤_; omega),show 5+e1.length - (kG F.fmt v0 v1 u2 u3 u4 L').length=e1.length from Nat.add_sub_cancel_left 5 e1.length]
    rw [e,QkA (by omega)]
 ·obtain ⟨L0, L', t', u2, u3, u4, ex, ps, hps, b, hb, h1, h2, h3, h4, h5, h6, rfl, rfl⟩ := hq
  exact ⟨kG F.fmt v0 v1 u2 u3 u4 L', t', Y8 _ _, lR _, zL _, L0, L', t', u2, u3, u4, ps, hps, b, hb, h1, h2, h3, h4, h5, h6, rfl, rfl⟩
theorem woF_nl {vr sr rg:List V} {lk:Int} {sure:Bool} (_h1:Qc vr=true) (_h2:Qc sr=true) (h3:Qc rg=true):Qc (woF vr lk rg sr sure)=true:=by
 simp [woF,Qc,Qe,Qkr,h3]
def frV (L0 L':List Nd) (nx:Int) (ps:List Pr) (b:Int) (vars cnt m:Nat):List V:=woF (YC L' (Qr (ties ps)) (frS ps b vars).1 vars vars) (Z9 L' (Qr (ties ps)) (frS ps b vars).1 (vE (-1))) (QI L' (Qr (ties ps)) (frS ps b vars).1 ps 1 (fun r=>QkM L0 nx r) 32) (QI L' (Qr (ties ps)) (frS ps b vars).1 ps 2 (fun i=>XR L0 (sy (nx+30+((i:Nat):Int)))) cnt) (decide (m=0))
theorem QwZ (L0 L':List Nd) (nx:Int) (ps:List Pr) (b:Int) (vars cnt m:Nat):Qc (frV L0 L' nx ps b vars cnt m)=true:=woF_nl (QvY _ _ _ _ _) (Qr8 _ _ _ _ _ _ _) (Qr8 _ _ _ _ _ _ _)
theorem QtO (hT:Qn P tab) (F:Fmt P G) (hS:QkF P G) {v0 v1 v2 v3 v4 t:Nat} {L:List Nd} (l:List Pr) (tg:Bool) (hl:l.length≤1000) (hl64:∀ x∈l,i64 x.n) (vars m:Nat) (hv:vars≤10) (hm:m≤4) (params next:Int) (hn:next≤1099511627776) (hL:L.length≤10000) (ex:List (Option Ob)) :
 C P G 0 QaP [.ptr 1 v0 0,.lst 3 (prs l) tg,.int .i64 ((vars:Nat):Int),.agg (fnC m),.int .i64 params,.int .i64 next] ⟨t,kG F.fmt v0 v1 v2 v3 v4 L++ex⟩ fun v σ =>
   ∃ L0 L' t' u2 u3 u4,∃ ps,ps=Qaj l vars (QaR m params)∧∃ b,b=max 0 next+30+((QaR m params:Nat):Int) ∧
   Ext L L0∧AllR L0 (max 0 next) 32∧AllS L0 (max 0 next) (QaR m params)∧Ext L0 L'∧L'.length≤L.length+2500∧AllH L' (frS ps b vars).1 ∧
   v = .tup [.agg (frV L0 L' (max 0 next) ps b vars (QaR m params) m), .int .i64 (frS ps b vars).2] ∧ σ = ⟨t', kG F.fmt v0 v1 u2 u3 u4 L' ++ ex⟩ := by
 refine QpU [0,1,2,3,4] (QGZ hT F hS (v0:=v0) (v1:=v1) (v2:=v2) (v3:=v3) (v4:=v4) (L:=L) l tg hl hl64 vars m hv hm params next hn hL) rfl (by decide) ?_ ?_ ?_ (zL _) ?_ ?_ fun v σ hv=>?_
 ·simp [QqB,kG]
 ·simp [Qpo,kG,Ob.under,XB,V.under,Ob.ren,QcR,V.ren,rOf,Z2,QcV,Qa7,Qgm,Qeg,-List.all_eq_true,QbY]
 ·simp [QDl]
 ·simp [XB,V.under,QC4,kG]
 ·simp only [QcR,V.ren,QC5]
  simp [rOf]
 ·obtain ⟨L0, L', t', u2, u3, u4, ps, hps, b, hb, h1, h2, h3, h4, h5, h6, rfl, rfl⟩ := hv
  refine ⟨by simp [kG], L0, L', t', u2, u3, u4, ps, hps, b, hb, h1, h2, h3, h4, h5, h6, ?_, ?_⟩
  ·have hnl:=QwZ L0 L' (max 0 next) ps b vars (QaR m params) m
   show V.ren _ (.tup [.agg (frV L0 L' (max 0 next) ps b vars (QaR m params) m),.int .i64 (frS ps b vars).2])=_
   rw [V.ren_nameless _ (by simp [Qe,Qc,hnl])]
  ·simp [QdL,QcP,kG,Ob.ren,QcR,V.ren,rOf,Z2,QcV,Qa7]
theorem QzM (hT:Qn P tab) (a b:Pr):Am.Pure P G ZZ [prV a,prV b] fun u=>u=.bool (decide (lt a b)):=by
 refine fun t=>Xt 0 (zL _) (Q6 hT X1 (by simp [QM]) ?_)
 simp only [prV,prC]
 by_cases h1:a.v=b.v
 ·have h1':(a.v != b.v)=false:=by simp [h1]
  by_cases h2:a.k=b.k
  ·have h2':(a.k != b.k)=false:=by simp [h2]
   have hL:decide (lt a b)=decide (a.n<b.n):=decide_eq_decide.2 (by unfold lt; omega)
   rw [hL]
   refine Qq 1000 ?_
   refine yr ?_
   try simp [h1]
  ·have h2':(a.k != b.k)=true:=by simpa using h2
   have hL:decide (lt a b)=decide (a.k<b.k):=decide_eq_decide.2 (by unfold lt; omega)
   rw [hL]
   refine Qq 1000 ?_
   refine yr ?_
   try simp [h1]
 ·have h1':(a.v != b.v)=true:=by simpa using h1
  have hL:decide (lt a b)=decide (a.v<b.v):=decide_eq_decide.2 (by unfold lt; omega)
  rw [hL]
  refine Qq 1000 ?_
  simp -implicitDefEqProofs (disch:=omega) only [go_sem,↓reduceIte,reduceCtorEq,rA,rq,rL,zA,aZ,zL,QM,Qya,Qx9,Qx8,Qx7,Qx6,Qx5,true_implies,and_true,cA,nA,lC,lN,List.getElem?_cons_zero,List.getElem?_cons_succ,h1']
  try simp
theorem c_Has (hT:Qn P tab) (l:List Pr) (tg:Bool) (p:Pr) (hl:l.length≤1000000):Am.Pure P G QbF [.lst 3 (prs l) tg,prV p] fun u=>u=.bool (decide (p∈l)):=by
 refine fun t=>Xt 0 (zL _) (Q6 hT Y7 (by simp [XE]) (Qq 5 ?_))
 simp only [prV,prC]
 simp -implicitDefEqProofs (disch:=omega) only [go_sem,↓reduceIte,reduceCtorEq,rq,zA,XE,zq7_0,zq7_1,zq7_2,zq7_3,zq7_4,zq7_5,zq7_6,and_true,nA,lN]
 refine X6 (Shift.freeze (k:=0) (v:=t) (T:=28) (cs:=[.int .i64 p.v,.int .u8 p.k,.int .i64 p.n]) (zL _) rfl rfl) ?_
 simp only [Ye,Zm,Quz,Z3,QP,List.set_cons_zero,Option.map_none]
 refine Qa 40 ?_
 simp -implicitDefEqProofs (disch:=omega) only [go_sem,↓reduceIte,reduceCtorEq,rq,and_true]
 refine XU l (fun i fr σ=>p ∉ l.take i∧Qh fr 0=.lst 3 (prs l) tg∧Qh fr 3=.ref (.agg [.int .i64 p.v,.int .u8 p.k,.int .i64 p.n]) 0∧Qh fr 5=.int .i64 ((i:Nat):Int)∧σ=⟨t+1,[none]⟩) (fun e fr σ=>(e=.ret∧p∈l∧Qh fr 4=.bool true)∨(e=.ex 0∧p ∉ l)) ⟨by simp,?_⟩ (fun i x hx fr σ hJ=>?_) (fun i hi fr σ hJ=>?_) (fun e fr σ hE=>?_)
 ·refine ye ?_
  try simp
 ·obtain ⟨hno,f0,f3,f5,rfl⟩:=hJ
  have hlt:=(List.getElem?_eq_some_iff.1 hx).1
  have hD:=Qc7 hx
  have e2:=Zg hlt (by omega)
  simp only [prV,prC] at hD
  by_cases he:x=p
  ·have hE:(x.v==p.v&&(x.k==p.k&&x.n==p.n))=true:=by rw [Qpz]; exact decide_eq_true he
   have hm:p∈l:=he▸List.mem_of_getElem? hx
   refine Qj [(0,.lst 3 (prs l) tg),(3,.ref (.agg [.int .i64 p.v,.int .u8 p.k,.int .i64 p.n]) 0),(5,.int .i64 ((i:Nat):Int))] ⟨f0,f3,f5,trivial⟩  1000 ?_
   simp -implicitDefEqProofs (disch:=omega) only [go_sem,Qd,↓reduceIte,reduceCtorEq,rA,rq,zA,decide_true,lR,Qf,false_implies,true_and,and_true,lC,lN,hlt,hD,hE]
   try exact hm
  ·have hE:(x.v==p.v&&(x.k==p.k&&x.n==p.n))=false:=by rw [Qpz]; exact decide_eq_false he
   refine Qj [(0,.lst 3 (prs l) tg),(3,.ref (.agg [.int .i64 p.v,.int .u8 p.k,.int .i64 p.n]) 0),(5,.int .i64 ((i:Nat):Int))] ⟨f0,f3,f5,trivial⟩  1000 ?_
   simp -implicitDefEqProofs (disch:=omega) only [go_sem,Qd,↓reduceIte,reduceCtorEq,rA,rq,zA,decide_true,lR,Qf,false_implies,and_true,lC,lN,hlt,hD,hE,e2]
   refine ⟨_,_,Shift.refl _ _ _ _,fun hm=>?_,?_⟩
   ·rw [Qz hx,List.mem_append,List.mem_singleton] at hm
    rcases hm with hm | hm
    ·exact hno hm
    ·exact he hm.symm
   ·exact yb
 ·obtain ⟨hno,f0,f3,f5,rfl⟩:=hJ
  refine Qj [(0,.lst 3 (prs l) tg),(3,.ref (.agg [.int .i64 p.v,.int .u8 p.k,.int .i64 p.n]) 0),(5,.int .i64 ((i:Nat):Int))] ⟨f0,f3,f5,trivial⟩  12 ?_
  refine yn ?_
  rw [hi,List.take_length] at hno
  try exact hno
 ·rcases hE with ⟨rfl,hm,f4⟩ | ⟨rfl,hm⟩
  ·refine Qa 12 ?_
   simp -implicitDefEqProofs (disch:=omega) only [go_sem,zL,true_and,f4]
   try simp [hm]
  ·refine Qa 12 ?_
   refine yf ?_
   try simp [hm]
theorem QyM {o:List (Option Ob)} {k w T n:Nat} {lim:Option Nat} {l:List Pr} {ds:List V} (h:o[k]?=some (some (.arr w T (fl prC l++ds)))) (hn:n=l.length):Seen o (.sl k w 0 3 n lim) (.lst 3 (prs l) false):=by
 subst hn
 have:=Seen.row (o:=o) k w 0 3 lim T (fl prC l++ds) (prs l) h (fun j u hj=>by
  simp only [prs,List.getElem?_map,Option.map_eq_some_iff] at hj
  obtain ⟨p,hp,rfl⟩:=hj
  refine ⟨rfl,fun i d hd=>?_⟩
  have hpt:=ZW hp ds
  have hi:i<3:=by have:=(List.getElem?_eq_some_iff.1 hd).1; simpa [prV,V.cells,prC] using this
  have h2:=congrArg (fun l=>l[i]?) hpt
  simp only [List.getElem?_take,if_pos hi,List.getElem?_drop] at h2
  rw [zA]
  refine ⟨by rw [h2]; exact hd,?_⟩
  have:i=0∨i=1∨i=2:=by omega
  rcases this with rfl | rfl | rfl <;> (simp [prV,V.cells,prC] at hd; subst hd; rfl)) (fun _=>rfl)
 rwa [Qf] at this
end Go.Proofs.YtfgccihafnjalaaGreatDoor
