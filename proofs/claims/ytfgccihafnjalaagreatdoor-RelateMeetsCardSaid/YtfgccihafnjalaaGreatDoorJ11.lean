/- Fresh: the loop over variables. -/
import Derived.Test.YtfgccihafnjalaaGreatDoorJ10
import Derived.Test.YtfgccihafnjalaaGreatDoorAmD
import Derived.Test.YtfgccihafnjalaaGreatDoorJ7
import Derived.Test.YtfgccihafnjalaaGreatDoorY
open Nat renaming reduceEqDiff → rq, reduceAdd → rA, reduceLeDiff → rL, reduceLT → rT, zero_add → zA, le_refl → lR, zero_le → zL, add_zero → aZ
open List renaming length_cons → lC, length_nil → lN, take_succ_cons → tS, length_append → lA, nil_append → nA, cons_append → cA, append_assoc → aA, take_nil → tN, take_zero → tZ, length_map → lM
open Bool renaming not_false → nF, not_true → nT
namespace Go.Proofs.YtfgccihafnjalaaGreatDoor
open Go Go.Am Go.Re
set_option maxRecDepth 100000
variable {P:Program} {G:Nat→Option V}
set_option maxHeartbeats 2000000
theorem fr_C2 (hT:Qw P tab) (F:Fmt P G) {v0 v1 v2 v3 v4 wg wb wu wp wm wh w21 w8 kV kW wV wW ws t n cnt:Nat} {y:Nat→Option Ob} {ps:List Pr} {cells:List V} {up:List (Pr × Pr)} {S:List (Pr × Tm) × Int} {lk:Int} {L:List Nd} {f g:Nat→Int} {sure:Bool} {z8:List V} {Q:V→Am.H→Prop}
 (hk:kV=17∧kW=18∨kV=18∧kW=17) (hf:Fst up) (hA:AllH L S.1) (hb:0≤S.2∧S.2≤1199023255000) (hL:L.length≤40000) (hn:n≤10) (hl:ps.length≤1000) (hcnt:cnt≤100) (hps:∀ x∈ps,QDc cnt x) (h8:y 8=some (.arr w8 49 z8)) (hz:z8.length=36)
 (hQ : ∀ y' L1 L' t' u2 u3 u4, Ext L L1 → Ext L1 L' → AllH L1 (asked up S (vEs n)).1 → L'.length ≤ L.length + n + ps.length → AllH L' (asked up (asked up S (vEs n)) (plE ps)).1 → Q (.tup [.agg (woC kV wV n lk (QH L' up (asked up (asked up S (vEs n)) (plE ps)).1 ps 1 f 32) ws cnt sure), .int .i64 (asked up (asked up S (vEs n)) (plE ps)).2]) ⟨t', kG F.fmt v0 v1 u2 u3 u4 L' ++ frZ v0 wg wb wu wp wm wh (y3 y' kV kW (some (.arr wV 44 (Yy L' up (asked up (asked up S (vEs n)) (plE ps)).1 n n))) (some (.arr wW 49 (woC kV wV n lk (QH L' up (asked up (asked up S (vEs n)) (plE ps)).1 ps 1 f 32) ws cnt sure))) (some (.arr ws 44 (QH L' up (asked up (asked up S (vEs n)) (plE ps)).1 ps 2 g cnt))) (some (.arr w21 64 (fl prC ps ++ cells)))) up L' (asked up (asked up S (vEs n)) (plE ps)).1 (asked up (asked up S (vEs n)) (plE ps)).2⟩) :
 W P G 157 0 (Qdz 10 relate_Fresh.body) [(1,.sl 21 w21 0 3 ps.length none),(12,.ptr 8 w8 0),(15,.ptr 16 wb 0),(16,.ptr kW wW 0),(26,ofV wp wh wg wb)] ⟨t,kG F.fmt v0 v1 v2 v3 v4 L++frX v0 wg wb wu wp wm wh (y3 y kV kW (some (.arr wV 44 (Yy L up S.1 0 n))) (some (.arr wW 49 (woC kV wV n lk (QH L up S.1 [] 1 f 32) ws cnt sure))) (some (.arr ws 44 (QH L up S.1 [] 2 g cnt))) (some (.arr w21 64 (fl prC ps++cells)))) up L S.1 S.2⟩ (QhU G Q):=by
 have hsome:∀ i,∀ j,j<i→(Re.get (asked up S (vEs i)).1 (Qj up (vE ((j:Nat):Int)))).isSome:=fun i j hj=>Qhq (QBQ hj)
 have hpl:=Xa L up S.1 [] 1 f 32
 have pre:W P G 157 0 (.reg YT [103,104]) [(1,.sl 21 w21 0 3 ps.length none),(12,.ptr 8 w8 0),(15,.ptr 16 wb 0),(16,.ptr kW wW 0),(26,ofV wp wh wg wb)] ⟨t,kG F.fmt v0 v1 v2 v3 v4 L++frX v0 wg wb wu wp wm wh (y3 y kV kW (some (.arr wV 44 (Yy L up S.1 0 n))) (some (.arr wW 49 (woC kV wV n lk (QH L up S.1 [] 1 f 32) ws cnt sure))) (some (.arr ws 44 (QH L up S.1 [] 2 g cnt))) (some (.arr w21 64 (fl prC ps++cells)))) up L S.1 S.2⟩
  (fun e fr σ=>e=.nrm∧QF fr [(1,.sl 21 w21 0 3 ps.length none),(12,.ptr 8 w8 0),(15,.ptr 16 wb 0),(16,.ptr kW wW 0),(26,ofV wp wh wg wb),(105,.int .i64 ((n:Nat):Int)),(106,.int .i64 0)]∧σ=⟨t,kG F.fmt v0 v1 v2 v3 v4 L++frX v0 wg wb wu wp wm wh (y3 y kV kW (some (.arr wV 44 (Yy L up S.1 0 n))) (some (.arr wW 49 (woC kV wV n lk (QH L up S.1 [] 1 f 32) ws cnt sure))) (some (.arr ws 44 (QH L up S.1 [] 2 g cnt))) (some (.arr w21 64 (fl prC ps++cells)))) up L S.1 S.2⟩):=by
  rcases hk with ⟨rfl,rfl⟩ | ⟨rfl,rfl⟩ <;>
  ·simp only [frX,y3,woC,rq,if_true,if_false]
   refine Qu 12 ?_
   simp -implicitDefEqProofs (disch:=omega) only [go_sem,↓reduceIte,rA,rq,rL,zA,aZ,YT,QaJ,QaI,true_implies,true_and,and_true,lC,lN,lA,hpl]
   try (simp only [QF]; simp -implicitDefEqProofs (disch:=omega) only [go_sem,↓reduceIte,rq])
 show W P G 157 0 (.seq (.seq (.reg YT [103,104]) (.block 4 (.loop (AC.seq (AC.reg Yj [])   (AC.seq (AC.cond (Arg.t 107)   AC.skip   (AC.exit 4))   (AC.seq (AC.block 5 (AC.seq (AC.reg Ys [108])   (AC.reg Yr [109,110,111,112,113,114,115,116])))   (AC.reg Yq [117]))))))) (Qdz 11 relate_Fresh.body)) _ _ _
 refine Qu 2 ?_
 show W P G 157 0 (.reg YT [103,104]) _ _ (fun e fr σ=>sem P G 157 0 (QhU G Q) [.ac (.block 4 (.loop (AC.seq (AC.reg Yj [])   (AC.seq (AC.cond (Arg.t 107)   AC.skip   (AC.exit 4))   (AC.seq (AC.block 5 (AC.seq (AC.reg Ys [108])   (AC.reg Yr [109,110,111,112,113,114,115,116])))   (AC.reg Yq [117])))))),.ac (Qdz 11 relate_Fresh.body)] e fr σ)
 refine pre.conseq fun e fr σ h=>?_
 obtain ⟨rfl,hh0,rfl⟩:=h
 refine Qb 1 ?_
 show sem P G 157 0 (QhU G Q) [.ac (.loop (AC.seq (AC.reg Yj [])   (AC.seq (AC.cond (Arg.t 107)   AC.skip   (AC.exit 4))   (AC.seq (AC.block 5 (AC.seq (AC.reg Ys [108])   (AC.reg Yr [109,110,111,112,113,114,115,116])))   (AC.reg Yq [117]))))),.blk 4,.ac (Qdz 11 relate_Fresh.body)] .nrm fr _
 refine Qcd (List.range n) (fun i fr σ => ∃ L' t' u2 u3 u4, Ext L L' ∧ L'.length ≤ L.length + i ∧ AllH L' (asked up S (vEs i)).1 ∧ QF fr [(1, .sl 21 w21 0 3 ps.length none), (12, .ptr 8 w8 0), (15, .ptr 16 wb 0), (16, .ptr kW wW 0), (26, ofV wp wh wg wb), (105, .int .i64 ((n : Nat) : Int)), (106, .int .i64 ((i : Nat) : Int))] ∧ σ = ⟨t', kG F.fmt v0 v1 u2 u3 u4 L' ++ frX v0 wg wb wu wp wm wh (y3 y kV kW (some (.arr wV 44 (Yy L' up (asked up S (vEs i)).1 i n))) (some (.arr wW 49 (woC kV wV n lk (QH L up S.1 [] 1 f 32) ws cnt sure))) (some (.arr ws 44 (QH L up S.1 [] 2 g cnt))) (some (.arr w21 64 (fl prC ps ++ cells)))) up L' (asked up S (vEs i)).1 (asked up S (vEs i)).2⟩)
  (fun e fr σ => e = .ex 4 ∧ ∃ L' t' u2 u3 u4, Ext L L' ∧ L'.length ≤ L.length + n ∧ AllH L' (asked up S (vEs n)).1 ∧ QF fr [(1, .sl 21 w21 0 3 ps.length none), (12, .ptr 8 w8 0), (15, .ptr 16 wb 0), (16, .ptr kW wW 0), (26, ofV wp wh wg wb)] ∧ σ = ⟨t', kG F.fmt v0 v1 u2 u3 u4 L' ++ frX v0 wg wb wu wp wm wh (y3 y kV kW (some (.arr wV 44 (Yy L' up (asked up S (vEs n)).1 n n))) (some (.arr wW 49 (woC kV wV n lk (QH L up S.1 [] 1 f 32) ws cnt sure))) (some (.arr ws 44 (QH L up S.1 [] 2 g cnt))) (some (.arr w21 64 (fl prC ps ++ cells)))) up L' (asked up S (vEs n)).1 (asked up S (vEs n)).2⟩)
  ⟨L,t,v2,v3,v4,Ext.refl L,by omega,hA,hh0,rfl⟩ (fun i x hx fr σ hJ=>?_) (fun i hi fr σ hJ=>?_) (fun e fr σ hE=>?_)
 ·obtain ⟨L1,t1,u2,u3,u4,hE,hLl,hA1,hh,rfl⟩:=hJ
  have hi:i<n:=by have:=(List.getElem?_eq_some_iff.1 hx).1; simpa using this
  have hle:=QjP up (vEs i) S
  have hvl:(vEs i).length=i:=by simp [vEs]
  have hS:asked up S (vEs (i+1))=ofT up (asked up S (vEs i)) (vE ((i:Nat):Int)):=by rw [QvM,Qij]
  refine (Y9 _ hh (Quz hT F (b:=(asked up S (vEs i)).2) (y:=fun k=>if k=14 then some (.arr ws 44 (QH L up S.1 [] 2 g cnt)) else if k=21 then some (.arr w21 64 (fl prC ps++cells)) else y k) (rest:=.int .i64 lk::(QH L up S.1 [] 1 f 32++[.sl 14 ws 0 1 cnt none,.bool sure])) hk hf hA1 (by omega) (by omega) hi hn (by simp [hpl]) (hsome i))).conseq fun e fr σ h=>?_
  cases e with
  | nrm =>
    obtain ⟨fr', σ', q1, q2, L2, t2, w2, w3, w4, q3, q4, q5, q6⟩ := h
    exact ⟨fr', σ', q1, L2, t2, w2, w3, w4, hE.trans q3, by omega, by rw [hS]; exact q5, q2, by rw [hS]; exact q6⟩
  | ex id=>exact h.elim
  | ret=>exact h.elim
 ·obtain ⟨L1,t1,u2,u3,u4,hE,hLl,hA1,hh,rfl⟩:=hJ
  have hin:i=n:=by simpa using hi
  subst hin
  refine QU _ hh 12 ?_
  simp -implicitDefEqProofs (disch:=omega) only [go_sem,↓reduceIte,rq,decide_false,Yj,Nat.lt_irrefl]
  refine ⟨L1,t1,u2,u3,u4,hE,by omega,hA1,?_,rfl,rfl⟩
  simp only [QF]; simp -implicitDefEqProofs (disch:=omega) only [go_sem,↓reduceIte,rq]
 ·obtain ⟨rfl,L1,t1,u2,u3,u4,hE,hLl,hA1,hh,rfl⟩:=hE
  have hle:=QjP up (vEs n) S
  have hvl:(vEs n).length=n:=by simp [vEs]
  refine QgR [(1,.sl 21 w21 0 3 ps.length none),(12,.ptr 8 w8 0),(15,.ptr 16 wb 0),(16,.ptr kW wW 0),(26,ofV wp wh wg wb)] hh (QgQ (Shift.drop (o':=_) (ZP (kG F.fmt v0 v1 u2 u3 u4 L1++frZ v0 wg wb wu wp wm wh (y3 y kV kW (some (.arr wV 44 (Yy L1 up (asked up S (vEs n)).1 n n))) (some (.arr wW 49 (woC kV wV n lk (QH L up S.1 [] 1 f 32) ws cnt sure))) (some (.arr ws 44 (QH L up S.1 [] 2 g cnt))) (some (.arr w21 64 (fl prC ps++cells)))) up L1 (asked up S (vEs n)).1 (asked up S (vEs n)).2) [_]) (lR _) (zL _)) ?_)
  rw [Qab (L:=L) (up:=up) (H:=S.1) (L':=L1) (up':=up) (H':=(asked up S (vEs n)).1) (k:=1),Qab (L:=L) (up:=up) (H:=S.1) (L':=L1) (up':=up) (H':=(asked up S (vEs n)).1) (k:=2)]
  refine fr_C3 hT F hk hf hA1 (by omega) (by omega) hl hcnt hps h8 hz fun y' L2 t2 w2 w3 w4 q1 q2 q3=>?_
  rw [QrC hA1 q1 (hsome n) (plE ps)]
  exact hQ y' L1 L2 t2 w2 w3 w4 hE q1 hA1 (by omega) q3
def Qjt (n:Nat) (ps:List Pr):List Pr:=vE (-1)::(vEs n++plE ps)
theorem Qll (up:List (Pr × Pr)) (S:List (Pr × Tm) × Int) (a b:List Pr):asked up S (a++b)=asked up (asked up S a) b:=by simp [asked,List.foldl_append]
theorem Qc9 (up:List (Pr × Pr)) (S:List (Pr × Tm) × Int) (n:Nat) (ps:List Pr):asked up S (Qjt n ps)=asked up (asked up (ofT up S (vE (-1))) (vEs n)) (plE ps):=by
 rw [Qjt,← Qll]; rfl
theorem fr_B (hT:Qw P tab) (F:Fmt P G) {v0 v1 v2 v3 v4 wg wb wu wp wm wh w21 w8 kV kW wV wW ws t n cnt:Nat} {y:Nat→Option Ob} {ps:List Pr} {cells:List V} {up:List (Pr × Pr)} {S:List (Pr × Tm) × Int} {L:List Nd} {f g:Nat→Int} {sure:Bool} {z8:List V} {Q:V→Am.H→Prop}
 (hk:kV=17∧kW=18∨kV=18∧kW=17) (hf:Fst up) (hA:AllH L S.1) (hb:0≤S.2∧S.2≤1199023254000) (hL:L.length≤30000) (hn:n≤10) (hl:ps.length≤1000) (hcnt:cnt≤100) (hps:∀ x∈ps,QDc cnt x) (h8:y 8=some (.arr w8 49 z8)) (hz:z8.length=36)
 (hQ : ∀ y' L' t' u2 u3 u4, Ext L L' → L'.length ≤ L.length + 1 + n + ps.length → AllH L' (asked up S (Qjt n ps)).1 → Q (.tup [.agg (woC kV wV n (Qax L' up (asked up S (Qjt n ps)).1 (vE (-1))) (QH L' up (asked up S (Qjt n ps)).1 ps 1 f 32) ws cnt sure), .int .i64 (asked up S (Qjt n ps)).2]) ⟨t', kG F.fmt v0 v1 u2 u3 u4 L' ++ frZ v0 wg wb wu wp wm wh (y3 y' kV kW (some (.arr wV 44 (Yy L' up (asked up S (Qjt n ps)).1 n n))) (some (.arr wW 49 (woC kV wV n (Qax L' up (asked up S (Qjt n ps)).1 (vE (-1))) (QH L' up (asked up S (Qjt n ps)).1 ps 1 f 32) ws cnt sure))) (some (.arr ws 44 (QH L' up (asked up S (Qjt n ps)).1 ps 2 g cnt))) (some (.arr w21 64 (fl prC ps ++ cells)))) up L' (asked up S (Qjt n ps)).1 (asked up S (Qjt n ps)).2⟩) :
 W P G 157 0 (Qdz 8 relate_Fresh.body) [(1,.sl 21 w21 0 3 ps.length none),(6,.ptr 5 wg 0),(12,.ptr 8 w8 0),(15,.ptr 16 wb 0),(16,.ptr kW wW 0),(17,.ptr 20 wp 0),(20,.ptr 23 wh 0)] ⟨t,kG F.fmt v0 v1 v2 v3 v4 L++frX v0 wg wb wu wp wm wh (y3 y kV kW (some (.arr wV 44 (Yy L up S.1 0 n))) (some (.arr wW 49 (woC kV wV n 0 (QH L up S.1 [] 1 f 32) ws cnt sure))) (some (.arr ws 44 (QH L up S.1 [] 2 g cnt))) (some (.arr w21 64 (fl prC ps++cells)))) up L S.1 S.2⟩ (QhU G Q):=by
 have hpl:=Xa L up S.1 [] 1 f 32
 have hof:=QuV (P:=P) (G:=G) hT F (v0:=v0) (v1:=v1) (v2:=v2) (v3:=v3) (v4:=v4) (wg:=wg) (wb:=wb) (wu:=wu) (wp:=wp) (wm:=wm) (wh:=wh) (t:=t) (y:=y3 y kV kW (some (.arr wV 44 (Yy L up S.1 0 n))) (some (.arr wW 49 (woC kV wV n 0 (QH L up S.1 [] 1 f 32) ws cnt sure))) (some (.arr ws 44 (QH L up S.1 [] 2 g cnt))) (some (.arr w21 64 (fl prC ps++cells)))) (b:=S.2) hf hA (by omega) (by omega) (vE (-1))
 show W P G 157 0 (.seq (.reg Zb [98]) (.seq (.reg Za [99,100,101,102]) (Qdz 10 relate_Fresh.body))) _ _ _
 obtain ⟨T10,hT10⟩:∃ c,c=Qdz 10 relate_Fresh.body:=⟨_,rfl⟩
 rw [← hT10]
 rcases hk with ⟨rfl,rfl⟩ | ⟨rfl,rfl⟩
 ·simp only [frX,y3,woC,rq,if_true,if_false,prV,prC] at hof ⊢
  refine Qu 12 ?_
  refine yo ?_
  refine CV.use 3 (CV.of hT QO hof) fun v σ hv=>?_
  obtain ⟨tm,L2,t2,w2,w3,w4,x1,x2,x3,x4,x5,x6,rfl,rfl⟩:=hv
  simp -implicitDefEqProofs (disch:=omega) only [go_sem,↓reduceIte,rA,rq,rL,zA,nF,zL,QaI,ZL,and_true,nF,lC,lN,cA,nA,lA,tS,tZ,List.drop_succ_cons,List.drop_zero,hpl]
  rw [hT10]
  have hle:=Qt8 up S (vE (-1))
  have hlk:Z3 L2 (tmN tm)=Qax L2 up (ofT up S (vE (-1))).1 (vE (-1)):=(XW x1).symm
  have e0:Yy L up S.1 0 n=Yy L2 up (ofT up S (vE (-1))).1 0 n:=by simp [Yy]
  refine Y9 [(1,.sl 21 w21 0 3 ps.length none),(12,.ptr 8 w8 0),(15,.ptr 16 wb 0),(16,.ptr 18 wW 0),(26,ofV wp wh wg wb)] (by simp only [QF]; simp -implicitDefEqProofs (disch:=omega) only [go_sem,↓reduceIte,rq]) ?_
  rw [hlk,e0,Qab (L:=L) (up:=up) (H:=S.1) (L':=L2) (up':=up) (H':=(ofT up S (vE (-1))).1) (k:=1),Qab (L:=L) (up:=up) (H:=S.1) (L':=L2) (up':=up) (H':=(ofT up S (vE (-1))).1) (k:=2)]
  refine fr_C2 hT F (kV:=17) (kW:=18) (y:=y) (S:=ofT up S (vE (-1))) (by simp) hf x4 (by omega) (by omega) hn hl hcnt hps h8 hz fun y' L3 L4 t4 u2 u3 u4 q1 q2 q3 q4 q5=>?_
  have hs1:(Re.get (ofT up S (vE (-1))).1 (Qj up (vE (-1)))).isSome:=by rw [x1]; rfl
  have hkeep:Qax L4 up (asked up S (Qjt n ps)).1 (vE (-1))=Qax L2 up (ofT up S (vE (-1))).1 (vE (-1)):=by
   rw [Qc9,← Qll]; exact QhT x4 (q1.trans q2) hs1 _
  have:=hQ y' L4 t4 u2 u3 u4 (x2.trans (q1.trans q2)) (by omega) (by rw [Qc9]; exact q5)
  rw [hkeep,Qc9] at this
  exact this
 ·simp only [frX,y3,woC,rq,if_true,if_false,prV,prC] at hof ⊢
  refine Qu 12 ?_
  refine yo ?_
  refine CV.use 3 (CV.of hT QO hof) fun v σ hv=>?_
  obtain ⟨tm,L2,t2,w2,w3,w4,x1,x2,x3,x4,x5,x6,rfl,rfl⟩:=hv
  simp -implicitDefEqProofs (disch:=omega) only [go_sem,↓reduceIte,rA,rq,rL,zA,nF,zL,QaJ,ZM,and_true,nF,lC,lN,cA,nA,lA,tS,tZ,List.drop_succ_cons,List.drop_zero,hpl]
  rw [hT10]
  have hle:=Qt8 up S (vE (-1))
  have hlk:Z3 L2 (tmN tm)=Qax L2 up (ofT up S (vE (-1))).1 (vE (-1)):=(XW x1).symm
  have e0:Yy L up S.1 0 n=Yy L2 up (ofT up S (vE (-1))).1 0 n:=by simp [Yy]
  refine Y9 [(1,.sl 21 w21 0 3 ps.length none),(12,.ptr 8 w8 0),(15,.ptr 16 wb 0),(16,.ptr 17 wW 0),(26,ofV wp wh wg wb)] (by simp only [QF]; simp -implicitDefEqProofs (disch:=omega) only [go_sem,↓reduceIte,rq]) ?_
  rw [hlk,e0,Qab (L:=L) (up:=up) (H:=S.1) (L':=L2) (up':=up) (H':=(ofT up S (vE (-1))).1) (k:=1),Qab (L:=L) (up:=up) (H:=S.1) (L':=L2) (up':=up) (H':=(ofT up S (vE (-1))).1) (k:=2)]
  refine fr_C2 hT F (kV:=18) (kW:=17) (y:=y) (S:=ofT up S (vE (-1))) (by simp) hf x4 (by omega) (by omega) hn hl hcnt hps h8 hz fun y' L3 L4 t4 u2 u3 u4 q1 q2 q3 q4 q5=>?_
  have hs1:(Re.get (ofT up S (vE (-1))).1 (Qj up (vE (-1)))).isSome:=by rw [x1]; rfl
  have hkeep:Qax L4 up (asked up S (Qjt n ps)).1 (vE (-1))=Qax L2 up (ofT up S (vE (-1))).1 (vE (-1)):=by
   rw [Qc9,← Qll]; exact QhT x4 (q1.trans q2) hs1 _
  have:=hQ y' L4 t4 u2 u3 u4 (x2.trans (q1.trans q2)) (by omega) (by rw [Qc9]; exact q5)
  rw [hkeep,Qc9] at this
  exact this
theorem QmL:∀ o:List (Option Ob),Xr (o++[none]) o
 | []=>by simp [Xr]
 | none::o=>by have:=QmL o; simpa [Xr] using this
 | some x::o=>by have:=QmL o; simpa [Xr] using this
theorem frX_eq {v0 wg wb wu wp wm wh w21 kV kW:Nat} {y:Nat→Option Ob} {vr wo sr:Option Ob} {up:List (Pr × Pr)} {L:List Nd} {H:List (Pr × Tm)} {b:Int} {ps:List Pr} {cells:List V} (hk:kV=17∧kW=18∨kV=18∧kW=17) (h24:y 24=none) :
 frX v0 wg wb wu wp wm wh (y3 y kV kW vr wo sr (some (.arr w21 64 (fl prC ps++cells)))) up L H b=(frA v0 wg wb wu wp w21 (y3 y kV kW vr wo sr (some (.arr w21 64 (fl prC ps++cells)))) up ps cells b++frH wm wh L H)++[none]:=by
 rcases hk with ⟨rfl,rfl⟩ | ⟨rfl,rfl⟩ <;> simp [frX,frA,frH,y3,h24]
theorem fr_A1 (hT:Qw P tab) (F:Fmt P G) {v0 v1 v2 v3 v4 wg wb wu wp w21 w8 kV kW wV wW ws t n cnt:Nat} {y:Nat→Option Ob} {ps:List Pr} {cells:List V} {up:List (Pr × Pr)} {b:Int} {L:List Nd} {f g:Nat→Int} {sure:Bool} {z8:List V} {Q:V→Am.H→Prop}
 (hk:kV=17∧kW=18∨kV=18∧kW=17) (hf:Fst up) (hb:0≤b∧b≤1199023254000) (hL:L.length≤20000) (hn:n≤10) (hl:ps.length≤1000) (hcnt:cnt≤100) (hps:∀ x∈ps,QDc cnt x) (hpn:∀ x∈ps,i64 x.n) (h8:y 8=some (.arr w8 49 z8)) (h24:y 24=none) (hz:z8.length=36)
 (hQ : ∀ wm wh y' L' t' u2 u3 u4, Ext L L' → L'.length ≤ L.length + 1 + n + 2 * ps.length → AllH L' (asked up (nums up ps, b) (Qjt n ps)).1 → Q (.tup [.agg (woC kV wV n (Qax L' up (asked up (nums up ps, b) (Qjt n ps)).1 (vE (-1))) (QH L' up (asked up (nums up ps, b) (Qjt n ps)).1 ps 1 f 32) ws cnt sure), .int .i64 (asked up (nums up ps, b) (Qjt n ps)).2]) ⟨t', kG F.fmt v0 v1 u2 u3 u4 L' ++ frZ v0 wg wb wu wp wm wh (y3 y' kV kW (some (.arr wV 44 (Yy L' up (asked up (nums up ps, b) (Qjt n ps)).1 n n))) (some (.arr wW 49 (woC kV wV n (Qax L' up (asked up (nums up ps, b) (Qjt n ps)).1 (vE (-1))) (QH L' up (asked up (nums up ps, b) (Qjt n ps)).1 ps 1 f 32) ws cnt sure))) (some (.arr ws 44 (QH L' up (asked up (nums up ps, b) (Qjt n ps)).1 ps 2 g cnt))) (some (.arr w21 64 (fl prC ps ++ cells)))) up L' (asked up (nums up ps, b) (Qjt n ps)).1 (asked up (nums up ps, b) (Qjt n ps)).2⟩) :
 W P G 157 0 (Qdz 6 relate_Fresh.body) [(1,.sl 21 w21 0 3 ps.length none),(6,.ptr 5 wg 0),(12,.ptr 8 w8 0),(15,.ptr 16 wb 0),(16,.ptr kW wW 0),(17,.ptr 20 wp 0)] ⟨t,kG F.fmt v0 v1 v2 v3 v4 L++frA v0 wg wb wu wp w21 (y3 y kV kW (some (.arr wV 44 (Yy L up [] 0 n))) (some (.arr wW 49 (woC kV wV n 0 (QH L up [] [] 1 f 32) ws cnt sure))) (some (.arr ws 44 (QH L up [] [] 2 g cnt))) (some (.arr w21 64 (fl prC ps++cells)))) up ps cells b⟩ (QhU G Q):=by
 obtain ⟨Y,hY⟩:∃ Y,Y=y3 y kV kW (some (.arr wV 44 (Yy L up [] 0 n))) (some (.arr wW 49 (woC kV wV n 0 (QH L up [] [] 1 f 32) ws cnt sure))) (some (.arr ws 44 (QH L up [] [] 2 g cnt))) (some (.arr w21 64 (fl prC ps++cells))):=⟨_,rfl⟩
 rw [← hY]
 show W P G 157 0 (.seq (.reg Zp [64]) (.seq (.seq (.reg Zo []) (.block 2 (.loop (AC.seq (AC.reg YU [])   (AC.seq (AC.cond (Arg.t 68)   AC.skip   (AC.exit 2))   (AC.seq (AC.block 3 (AC.seq (AC.reg Zh [69,70])   (AC.seq (AC.reg Zg [71,72,73,74,75])   (AC.seq (AC.reg Zf [77,78,79,76,80,81,24])   (AC.seq (AC.reg Ze [82,83,84,85,86,87,88])   (AC.cond (Arg.t 89)   (AC.reg Zd [90,91,92,93,94,95,96])   AC.skip))))))   (AC.reg Zc [97]))))))) (Qdz 8 relate_Fresh.body))) _ _ _
 obtain ⟨T8,hT8⟩:∃ c,c=Qdz 8 relate_Fresh.body:=⟨_,rfl⟩
 rw [← hT8]
 refine Qu 40 ?_
 simp only [frA]
 simp -implicitDefEqProofs (disch:=omega) only [go_sem,↓reduceIte,rA,rq,zA,nF,lR,zL,and_true,nF,lC,lN,cA,nA,aA,lA,tZ,List.drop_succ_cons,List.drop_nil,X9,Zp,Zo,Qel,Qci,Qbr]
 refine Qcd ps (fun i fr σ => ∃ L' t' u2 u3 u4, Ext L L' ∧ L'.length ≤ L.length + i ∧ AllH L' (nums up (ps.take i)) ∧ QF fr [(1, .sl 21 w21 0 3 ps.length none), (6, .ptr 5 wg 0), (12, .ptr 8 w8 0), (15, .ptr 16 wb 0), (16, .ptr kW wW 0), (17, .ptr 20 wp 0), (20, .ptr 23 (t + 1) 0), (65, .sl 21 w21 0 3 ps.length none), (66, .int .i64 ((ps.length : Nat) : Int)), (67, .int .i64 ((i : Nat) : Int))] ∧ σ = ⟨t', kG F.fmt v0 v1 u2 u3 u4 L' ++ (frA v0 wg wb wu wp w21 Y up ps cells b ++ frH t (t + 1) L' (nums up (ps.take i)))⟩)
  (fun e fr σ => e = .ex 2 ∧ ∃ L' t' u2 u3 u4, Ext L L' ∧ L'.length ≤ L.length + ps.length ∧ AllH L' (nums up ps) ∧ QF fr [(1, .sl 21 w21 0 3 ps.length none), (6, .ptr 5 wg 0), (12, .ptr 8 w8 0), (15, .ptr 16 wb 0), (16, .ptr kW wW 0), (17, .ptr 20 wp 0), (20, .ptr 23 (t + 1) 0)] ∧ σ = ⟨t', kG F.fmt v0 v1 u2 u3 u4 L' ++ (frA v0 wg wb wu wp w21 Y up ps cells b ++ frH t (t + 1) L' (nums up ps))⟩)
  ⟨L,_,v2,v3,v4,Ext.refl L,by omega,fun p hp=>absurd hp (by simp [nums]),?_,rfl⟩ (fun i x hx fr σ hJ=>?_) (fun i hi fr σ hJ=>?_) (fun e fr σ hE=>?_)
 ·simp only [QF]; simp -implicitDefEqProofs (disch:=omega) only [go_sem,↓reduceIte,rq]; try rfl
 ·obtain ⟨L1,t1,u2,u3,u4,hE,hLl,hA1,hh,rfl⟩:=hJ
  have hi:=(List.getElem?_eq_some_iff.1 hx).1
  have hxm:=List.mem_of_getElem? hx
  have hS:nums up (ps.take (i+1))=QaD up (nums up (ps.take i)) x:=by rw [QJ hx,Qn3]
  refine (Y9 _ hh (QuA hT F hf hl hx (by omega) hA1 (hpn x hxm))).conseq fun e fr σ h=>?_
  cases e with
  | nrm =>
    obtain ⟨fr', σ', q1, q2, L2, t2, w2, w3, w4, q3, q4, q5, q6⟩ := h
    exact ⟨fr', σ', q1, L2, t2, w2, w3, w4, hE.trans q3, by omega, by rw [hS]; exact q5, q2, by rw [hS]; exact q6⟩
  | ex id=>exact h.elim
  | ret=>exact h.elim
 ·obtain ⟨L1,t1,u2,u3,u4,hE,hLl,hA1,hh,rfl⟩:=hJ
  rw [hi,List.take_length] at hA1 ⊢
  refine QU _ hh 12 ?_
  simp -implicitDefEqProofs (disch:=omega) only [go_sem,↓reduceIte,rq,decide_false,YU,hi,Nat.lt_irrefl]
  refine ⟨L1,t1,u2,u3,u4,hE,by omega,hA1,?_,rfl,rfl⟩
  simp only [QF]; simp -implicitDefEqProofs (disch:=omega) only [go_sem,↓reduceIte,rq]
 ·obtain ⟨rfl,L1,t1,u2,u3,u4,hE,hLl,hA1,hh,rfl⟩:=hE
  have hsh:Shift G 157 0 [(1,.sl 21 w21 0 3 ps.length none),(6,.ptr 5 wg 0),(12,.ptr 8 w8 0),(15,.ptr 16 wb 0),(16,.ptr kW wW 0),(17,.ptr 20 wp 0),(20,.ptr 23 (t+1) 0)] ⟨t1,kG F.fmt v0 v1 u2 u3 u4 L1++(frA v0 wg wb wu wp w21 Y up ps cells b++frH t (t+1) L1 (nums up ps))⟩ [(1,.sl 21 w21 0 3 ps.length none),(6,.ptr 5 wg 0),(12,.ptr 8 w8 0),(15,.ptr 16 wb 0),(16,.ptr kW wW 0),(17,.ptr 20 wp 0),(20,.ptr 23 (t+1) 0)] ⟨t1,kG F.fmt v0 v1 u2 u3 u4 L1++frX v0 wg wb wu wp t (t+1) Y up L1 (nums up ps) b⟩:=by
   refine Shift.drop ?_ (lR _) (zL _)
   rw [hY,frX_eq hk h24,← aA]
   exact QmL _
  refine QgR [(1,.sl 21 w21 0 3 ps.length none),(6,.ptr 5 wg 0),(12,.ptr 8 w8 0),(15,.ptr 16 wb 0),(16,.ptr kW wW 0),(17,.ptr 20 wp 0),(20,.ptr 23 (t+1) 0)] hh (QgQ hsh ?_)
  rw [hT8,hY]
  have e0:Yy L up [] 0 n=Yy L1 up (nums up ps) 0 n:=by simp [Yy]
  rw [e0,Qab (L:=L) (up:=up) (H:=[]) (L':=L1) (up':=up) (H':=nums up ps) (k:=1),Qab (L:=L) (up:=up) (H:=[]) (L':=L1) (up':=up) (H':=nums up ps) (k:=2)]
  exact fr_B hT F (S:=(nums up ps,b)) hk hf hA1 hb (by omega) hn hl hcnt hps h8 hz fun y' L2 t2 w2 w3 w4 q1 q2 q3=>hQ t (t+1) y' L2 t2 w2 w3 w4 (hE.trans q1) (by omega) q3
def frS (ps:List Pr) (b:Int) (n:Nat):List (Pr × Tm) × Int:=asked (Qr (ties ps)) (nums (Qr (ties ps)) ps,b) (Qjt n ps)
theorem fr_A0 (hT:Qw P tab) (F:Fmt P G) {v0 v1 v2 v3 v4 wg wb wu wp w21 w8 kV kW wV wW ws t n cnt:Nat} {y:Nat→Option Ob} {ps:List Pr} {cells:List V} {b:Int} {L:List Nd} {f g:Nat→Int} {sure:Bool} {z8:List V} {Q:V→Am.H→Prop}
 (hk:kV=17∧kW=18∨kV=18∧kW=17) (hb:0≤b∧b≤1199023254000) (hL:L.length≤20000) (hn:n≤10) (hl:ps.length≤1000) (hcnt:cnt≤100) (hps:∀ x∈ps,QDc cnt x) (hpn:∀ x∈ps,i64 x.n) (h8:y 8=some (.arr w8 49 z8)) (h24:y 24=none) (hz:z8.length=36)
 (hQ : ∀ wm wh y' L' t' u2 u3 u4, Ext L L' → L'.length ≤ L.length + 1 + n + 2 * ps.length → AllH L' (frS ps b n).1 → Q (.tup [.agg (woC kV wV n (Qax L' (Qr (ties ps)) (frS ps b n).1 (vE (-1))) (QH L' (Qr (ties ps)) (frS ps b n).1 ps 1 f 32) ws cnt sure), .int .i64 (frS ps b n).2]) ⟨t', kG F.fmt v0 v1 u2 u3 u4 L' ++ frZ v0 wg wb wu wp wm wh (y3 y' kV kW (some (.arr wV 44 (Yy L' (Qr (ties ps)) (frS ps b n).1 n n))) (some (.arr wW 49 (woC kV wV n (Qax L' (Qr (ties ps)) (frS ps b n).1 (vE (-1))) (QH L' (Qr (ties ps)) (frS ps b n).1 ps 1 f 32) ws cnt sure))) (some (.arr ws 44 (QH L' (Qr (ties ps)) (frS ps b n).1 ps 2 g cnt))) (some (.arr w21 64 (fl prC ps ++ cells)))) (Qr (ties ps)) L' (frS ps b n).1 (frS ps b n).2⟩) :
 W P G 157 0 (Qdz 5 relate_Fresh.body) [(1,.sl 21 w21 0 3 ps.length none),(6,.ptr 5 wg 0),(12,.ptr 8 w8 0),(15,.ptr 16 wb 0),(16,.ptr kW wW 0),(17,.ptr 20 wp 0)] ⟨t,kG F.fmt v0 v1 v2 v3 v4 L++frA v0 wg wb wu wp w21 (y3 y kV kW (some (.arr wV 44 (Yy L [] [] 0 n))) (some (.arr wW 49 (woC kV wV n 0 (QH L [] [] [] 1 f 32) ws cnt sure))) (some (.arr ws 44 (QH L [] [] [] 2 g cnt))) (some (.arr w21 64 (fl prC ps++cells)))) [] ps cells b⟩ (QhU G Q):=by
 obtain ⟨Y,hY⟩:∃ Y,Y=y3 y kV kW (some (.arr wV 44 (Yy L [] [] 0 n))) (some (.arr wW 49 (woC kV wV n 0 (QH L [] [] [] 1 f 32) ws cnt sure))) (some (.arr ws 44 (QH L [] [] [] 2 g cnt))) (some (.arr w21 64 (fl prC ps++cells))):=⟨_,rfl⟩
 rw [← hY]
 show W P G 157 0 (.seq (.seq (.reg Qda []) (.block 0 (.loop (AC.seq (AC.reg Qb8 [])   (AC.seq (AC.cond (Arg.t 52)   AC.skip   (AC.exit 0))   (AC.seq (AC.block 1 (AC.seq (AC.reg Qcz [53,54])   (AC.reg Qcy [55,56,57,58,59,60,61,62])))   (AC.reg Qcx [63]))))))) (Qdz 6 relate_Fresh.body)) _ _ _
 obtain ⟨T6,hT6⟩:∃ c,c=Qdz 6 relate_Fresh.body:=⟨_,rfl⟩
 rw [← hT6]
 refine Qu 40 ?_
 simp -implicitDefEqProofs (disch:=omega) only [go_sem,↓reduceIte,rq,Qda]
 refine Qcd ps (fun i fr σ => ∃ t', QF fr [(1, .sl 21 w21 0 3 ps.length none), (6, .ptr 5 wg 0), (12, .ptr 8 w8 0), (15, .ptr 16 wb 0), (16, .ptr kW wW 0), (17, .ptr 20 wp 0), (49, .sl 21 w21 0 3 ps.length none), (50, .int .i64 ((ps.length : Nat) : Int)), (51, .int .i64 ((i : Nat) : Int))] ∧ σ = ⟨t', kG F.fmt v0 v1 v2 v3 v4 L ++ frA v0 wg wb wu wp w21 Y (Qr (ties (ps.take i))) ps cells b⟩)
  (fun e fr σ => e = .ex 0 ∧ ∃ t', QF fr [(1, .sl 21 w21 0 3 ps.length none), (6, .ptr 5 wg 0), (12, .ptr 8 w8 0), (15, .ptr 16 wb 0), (16, .ptr kW wW 0), (17, .ptr 20 wp 0)] ∧ σ = ⟨t', kG F.fmt v0 v1 v2 v3 v4 L ++ frA v0 wg wb wu wp w21 Y (Qr (ties ps)) ps cells b⟩)
  ⟨_,?_,rfl⟩ (fun i x hx fr σ hJ=>?_) (fun i hi fr σ hJ=>?_) (fun e fr σ hE=>?_)
 ·simp only [QF]; simp -implicitDefEqProofs (disch:=omega) only [go_sem,↓reduceIte,rq]; try rfl
 ·obtain ⟨t1,hh,rfl⟩:=hJ
  have hS:Qr (ties (ps.take (i+1)))=joinL (Qr (ties (ps.take i))) (vE x.v) (pE x):=by
   rw [QJ hx]
   have:ties (ps.take i++[x])=ties (ps.take i)++[(vE x.v,pE x)]:=by simp [ties]
   rw [this,QhS]
  refine (Y9 _ hh (QuB hT (Qoh _) hl hx)).conseq fun e fr σ h=>?_
  cases e with
  | nrm =>
    obtain ⟨fr', σ', q1, q2, t2, q6⟩ := h
    exact ⟨fr', σ', q1, t2, q2, by rw [hS]; exact q6⟩
  | ex id=>exact h.elim
  | ret=>exact h.elim
 ·obtain ⟨t1,hh,rfl⟩:=hJ
  rw [hi,List.take_length]
  refine QU _ hh 12 ?_
  simp -implicitDefEqProofs (disch:=omega) only [go_sem,↓reduceIte,rq,decide_false,Qb8,hi,Nat.lt_irrefl]
  refine ⟨t1,?_,rfl⟩
  simp only [QF]; simp -implicitDefEqProofs (disch:=omega) only [go_sem,↓reduceIte,rq]
 ·obtain ⟨rfl,t1,hh,rfl⟩:=hE
  refine QgR [(1,.sl 21 w21 0 3 ps.length none),(6,.ptr 5 wg 0),(12,.ptr 8 w8 0),(15,.ptr 16 wb 0),(16,.ptr kW wW 0),(17,.ptr 20 wp 0)] hh ?_
  rw [hT6,hY]
  have e0:Yy L [] [] 0 n=Yy L (Qr (ties ps)) [] 0 n:=by simp [Yy]
  rw [e0,Qab (L:=L) (up:=[]) (H:=[]) (L':=L) (up':=Qr (ties ps)) (H':=[]) (k:=1),Qab (L:=L) (up:=[]) (H:=[]) (L':=L) (up':=Qr (ties ps)) (H':=[]) (k:=2)]
  exact fr_A1 hT F hk (Qoh _) hb hL hn hl hcnt hps hpn h8 h24 hz hQ
theorem QtW {n base:Nat} {Q:AE→Fr→Am.H→Prop} {c:AC} {fr:Fr} {σ:Am.H} (h:W P G n base c fr σ Q):run P G n base Q 0 [.ac c] .nrm fr σ:=h
def yP (w6:Nat) (x7:Option Ob) (w8 w15:Nat) (vars:Nat) (zs st:List V):Nat→Option Ob:=fun i=>if i=6 then some (.arr w6 3 [.int .i64 ((vars:Nat):Int)]) else if i=7 then x7 else if i=8 then some (.arr w8 49 zs) else if i=15 then some (.arr w15 47 st) else none
def QdG (l:List Pr) (vars cnt:Nat):List Pr:=(srt l).filter (Zq ((vars:Nat):Int) cnt)
theorem QtF {l:List Pr} {vars cnt:Nat} {x:Pr} (h:x∈QdG l vars cnt):QDc cnt x:=by
 have h2:=(List.mem_filter.1 h).2
 unfold Zq at h2
 simp only [Bool.and_eq_true,decide_eq_true_eq] at h2
 have h3:=h2.2
 by_cases k1:x.k=1
 ·rw [if_pos k1] at h3
  unfold QsF at h3
  simp only [decide_eq_true_eq] at h3
  exact .inl ⟨k1,x.n.toNat,by omega,by omega⟩
 ·by_cases k2:x.k=2
  ·rw [if_neg k1,if_pos k2] at h3
   simp only [decide_eq_true_eq] at h3
   exact .inr (.inl ⟨k2,x.n.toNat,by omega,by omega⟩)
  ·rw [if_neg k1,if_neg k2] at h3
   simp only [decide_eq_true_eq] at h3
   exact .inr (.inr h3)
theorem Qtz (L:List Nd) (up:List (Pr × Pr)) (H:List (Pr × Tm)) (n:Nat):(List.replicate n [V.int .i64 0]).flatten=Yy L up H 0 n:=by
 have:Yy L up H 0 n=(List.range n).map fun _=>V.int .i64 0:=by simp [Yy]
 rw [this]
 induction n with
 | zero=>rfl
 | succ n ih => rw [List.replicate_succ', List.flatten_append, ih (by simp [Yy]), List.range_succ, List.map_append]; simp
theorem QrN (L:List Nd) (b:Int) (cnt:Nat):Zi L b cnt=QH L [] [] [] 2 (fun i=>Z3 L (sy (b+30+((i:Nat):Int)))) cnt:=by simp [Zi,QH]
theorem QBW (L:List Nd) (b:Int) (sl:V) (sure:Bool):stC L b 32 sl sure=QH L [] [] [] 1 (fun r=>Qml L b r) 32++[sl,.bool sure]:=by
 have h:Qew L b 32=QH L [] [] [] 1 (fun r=>Qml L b r) 32:=by
  unfold Qew QH
  refine List.map_congr_left fun r hr=>?_
  rw [if_pos (List.mem_range.1 hr)]
  simp
 unfold stC
 rw [h]
theorem QwH (hT:Qw P tab) (F:Fmt P G) (hS:Qhr P G) {v0 v1 v2 v3 v4 t:Nat} {L:List Nd} (l:List Pr) (tg:Bool) (hl:l.length≤1000) (hl64:∀ x∈l,i64 x.n) (vars m:Nat) (hv:vars≤10) (hm:m≤4) (params next:Int) (hn:next≤1099511627776) (hL:L.length≤10000) :
 C P G 0 Qac [.ptr 1 v0 0,.lst 3 (prs l) tg,.int .i64 ((vars:Nat):Int),.agg (fnC m),.int .i64 params,.int .i64 next] ⟨t,kG F.fmt v0 v1 v2 v3 v4 L⟩ fun v σ =>
   ∃ L0 L' t' u2 u3 u4 kV kW wV wW ws w21 wg wb wu wp wm wh y cells,∃ ps,ps=QdG l vars (QbB m params)∧∃ b,b=max 0 next+30+((QbB m params:Nat):Int) ∧
   (kV=17∧kW=18∨kV=18∧kW=17)∧Ext L L0∧AllR L0 (max 0 next) 32∧AllS L0 (max 0 next) (QbB m params)∧Ext L0 L'∧L'.length≤L.length+2500∧AllH L' (frS ps b vars).1 ∧
   v=.tup [.agg (woC kV wV vars (Qax L' (Qr (ties ps)) (frS ps b vars).1 (vE (-1))) (QH L' (Qr (ties ps)) (frS ps b vars).1 ps 1 (fun r=>Qml L0 (max 0 next) r) 32) ws (QbB m params) (decide (m=0))),.int .i64 (frS ps b vars).2] ∧
   σ = ⟨t', kG F.fmt v0 v1 u2 u3 u4 L' ++ frZ v0 wg wb wu wp wm wh (y3 y kV kW (some (.arr wV 44 (Yy L' (Qr (ties ps)) (frS ps b vars).1 vars vars))) (some (.arr wW 49 (woC kV wV vars (Qax L' (Qr (ties ps)) (frS ps b vars).1 (vE (-1))) (QH L' (Qr (ties ps)) (frS ps b vars).1 ps 1 (fun r => Qml L0 (max 0 next) r) 32) ws (QbB m params) (decide (m = 0))))) (some (.arr ws 44 (QH L' (Qr (ties ps)) (frS ps b vars).1 ps 2 (fun i => Z3 L0 (sy (max 0 next + 30 + ((i : Nat) : Int)))) (QbB m params)))) (some (.arr w21 64 (fl prC ps ++ cells)))) (Qr (ties ps)) L' (frS ps b vars).1 (frS ps b vars).2⟩ := by
 have hmax:(if (0:Int)<((vars:Nat):Int) then ((vars:Nat):Int) else 0)=vars:=by split <;> omega
 have hslt:=Qj9 l
 refine Xk hT Qca (by simp [relate_Fresh]) ?_
 show W P G 157 0 (.seq (.reg Qdf []) (.seq (.reg Qde [31,32,33,34,35,30,36,37]) (.seq (.reg Qdd [38,39,40,41,42]) (.seq (.reg Qdc [43,44]) (.seq (.reg Qdb [45,46,47,48]) (Qdz 5 relate_Fresh.body)))))) _ _ (QhU G _)
 obtain ⟨T5,hT5⟩:∃ c,c=Qdz 5 relate_Fresh.body:=⟨_,rfl⟩
 rw [← hT5]
 refine Qu 40 ?_
 have honf:ones (fnC m):=by
  intro c hc
  simp only [fnC,List.mem_cons,List.not_mem_nil,or_false] at hc
  rcases hc with rfl | rfl | rfl | rfl | rfl <;> rfl
 have hlf:(fnC m).length=5:=rfl
 have htf:List.take 5 (fnC m)=fnC m:=rfl
 simp -implicitDefEqProofs (disch:=omega) only [go_sem,↓reduceIte,reduceCtorEq,rA,rq,zA,lR,Qdf,Qde,Qdd,Qdc,Qdb,Qel,QlH,QnJ,false_implies,true_implies,and_true,lC,lN,cA,nA,aA,lA,List.drop_zero,honf,hlf,htf]
 have hB:=fun (ex:List (Option Ob)) (t:Nat)=>QwL (P:=P) (G:=G) hT F (v0:=v0) (v1:=v1) (v2:=v2) (v3:=v3) (v4:=v4) (t:=t) (L:=L) m hm params next hn hL ex
 refine call hT Qio (hB _ _) 12 fun v σ hv=>?_
 obtain ⟨L', t1, u2, u3, u4, ws, h1, h2, h3, h4, rfl, rfl⟩ := hv
 obtain ⟨b,hb⟩:∃ b,b=max 0 next:=⟨_,rfl⟩
 obtain ⟨cnt,hcnt⟩:∃ cnt,cnt=QbB m params:=⟨_,rfl⟩
 have hcb:cnt≤10:=by rw [hcnt]; unfold QbB; omega
 rw [← hb] at h3 h4 ⊢
 rw [← hcnt] at h4 ⊢
 simp only [lC,lN,zA,rA]
 have hsl:=Qf2 L' b 32 (.sl 14 ws 0 1 cnt none) (decide (m=0))
 have hon:ones (stC L' b 32 (.sl 14 ws 0 1 cnt none) (decide (m=0))):=by
  unfold stC Qew
  intro c hc
  simp only [List.mem_append,List.mem_map,List.mem_cons,List.not_mem_nil,or_false] at hc
  rcases hc with ⟨r,_,rfl⟩ | rfl | rfl <;> rfl
 have htk:List.take 34 (stC L' b 32 (.sl 14 ws 0 1 cnt none) (decide (m=0)))=stC L' b 32 (.sl 14 ws 0 1 cnt none) (decide (m=0)):=List.take_of_length_le (by omega)
 simp -implicitDefEqProofs (disch:=omega) only [go_sem,↓reduceIte,reduceCtorEq,rA,rq,rT,zA,nF,lR,zL,gt_iff_lt,Qel,Qog,Qft,Qbu,Qdq,QaT,true_implies,and_true,nF,lC,lN,cA,nA,aA,lA,tZ,List.drop_succ_cons,List.drop_nil,hsl,hon]
 repeat' (first | with_reducible refine And.intro ?_ ?_ | (refine Qb 6 ?_; simp -implicitDefEqProofs (disch:=omega) only [go_sem,Qf,↓reduceIte,reduceCtorEq,rA,rq,rL,zA,nF,lR,zL,X9,Qel,Qft,QaJ,ZM,QaI,ZL,Qd0,Qbs,false_implies,true_and,and_true,nF,lC,lN,cA,nA,aA,lA,tS,tZ,List.drop_succ_cons,List.drop_zero,List.drop_nil,hsl,hon,htk,hmax]))
 all_goals
  refine call hT Xc (Qla hT hS l tg (by omega) (zL _)) 12 fun v σ hv=>?_
  obtain ⟨t2,w21,cells0,ht2,hcn0,rfl,rfl⟩:=hv
  refine ya ?_
  refine call hT Qz (QoY hT hcn0 (zL _) (fun ex=>Qpp hT rfl rfl _) (by omega)) 2 fun v σ hv=>?_
  obtain ⟨t3,cells,ht3,hcn,rfl,rfl⟩:=hv
  have hps:((srt l).filter fun p=>!(!Zq ((vars:Nat):Int) cnt p))=QdG l vars cnt:=by
   unfold QdG; exact List.filter_congr fun p _=>by rw [Bool.not_not]
  rw [hps]
  obtain ⟨ps,hpsd⟩:∃ ps,ps=QdG l vars cnt:=⟨_,rfl⟩
  rw [← hpsd]
  have hpl:ps.length≤1000:=by rw [hpsd]; exact Nat.le_trans (List.length_filter_le _ _) (by omega)
  have hpa:∀ x∈ps,QDc cnt x:=fun x hx=>QtF (hpsd▸hx)
  have hpn:∀ x∈ps,i64 x.n:=fun x hx=>hl64 x (Qkw.1 (List.mem_filter.1 (hpsd▸hx:x∈QdG l vars cnt)).1)
  simp -implicitDefEqProofs (disch:=omega) only [go_sem,↓reduceIte,reduceCtorEq,rA,rq,zA,lC,lN,cA,nA,aA,lA,Qel]
  rw [hT5,Qtz L' [] [] vars,QrN,QBW]
  refine QtW ?_
  first
   | (refine Y9 [(1,.sl 21 w21 0 3 ps.length none),(6,.ptr 5 t 0),(12,.ptr 8 (t+1+1+1) 0),(15,.ptr 16 (t1+1) 0),(16,.ptr 18 (t1+1+1+1) 0),(17,.ptr 20 (t1+1+1+1+1+1) 0)] (by simp only [QF]; simp -implicitDefEqProofs (disch:=omega) only [go_sem,↓reduceIte,reduceCtorEq,rq]; done) ?_
      exact fr_A0 hT F (kV := 17) (kW := 18) (y := yP (t + 1) _ (t + 1 + 1 + 1) t1 vars _ _) (b := b + 30 + ((cnt : Nat) : Int)) (.inl ⟨rfl, rfl⟩) (by omega) (by omega) hv hpl (by omega) hpa hpn (by rfl) (by rfl) (by rfl) fun wm wh y' L2 t' w2 w3 w4 q1 q2 q3 => ⟨L', L2, t', w2, w3, w4, 17, 18, _, _, ws, w21, _, _, _, _, wm, wh, y', cells, ps, rfl, b + 30 + ((cnt : Nat) : Int), rfl, .inl ⟨rfl, rfl⟩, h1, h3, h4, q1, by omega, q3, rfl, rfl⟩)
   | (refine Y9 [(1,.sl 21 w21 0 3 ps.length none),(6,.ptr 5 t 0),(12,.ptr 8 (t+1+1+1) 0),(15,.ptr 16 (t1+1) 0),(16,.ptr 17 (t1+1+1) 0),(17,.ptr 20 (t1+1+1+1+1+1) 0)] (by simp only [QF]; simp -implicitDefEqProofs (disch:=omega) only [go_sem,↓reduceIte,reduceCtorEq,rq]; done) ?_
      exact fr_A0 hT F (kV := 18) (kW := 17) (y := yP (t + 1) _ (t + 1 + 1 + 1) t1 vars _ _) (b := b + 30 + ((cnt : Nat) : Int)) (.inr ⟨rfl, rfl⟩) (by omega) (by omega) hv hpl (by omega) hpa hpn (by rfl) (by rfl) (by rfl) fun wm wh y' L2 t' w2 w3 w4 q1 q2 q3 => ⟨L', L2, t', w2, w3, w4, 18, 17, _, _, ws, w21, _, _, _, _, wm, wh, y', cells, ps, rfl, b + 30 + ((cnt : Nat) : Int), rfl, .inr ⟨rfl, rfl⟩, h1, h3, h4, q1, by omega, q3, rfl, rfl⟩)
theorem QCp (k w:Nat) (cs:List V) (L:List Nd):(ndC L).map (Qan k w cs)=ndC L:=by
 induction L with
 | nil=>rfl
 | cons d L ih =>
   have e:ndC (d::L)=d.cells++ndC L:=by simp [ndC]
   rw [e,List.map_append,ih]; rfl
theorem Qq9 (k w:Nat) (cs:List V):∀ (j:Nat) (L:List Nd),(QfU j L).map (fun p=>(p.1,Qan k w cs p.2))=QfU j L
 | _,[]=>rfl
 | j,d::l=>by simp only [QfU,List.map_cons,Qq9 k w cs (j+1) l]; rfl
theorem Qnd (k w:Nat) (cs:List V) (L:List Nd) (up:List (Pr × Pr)) (H:List (Pr × Tm)) (l:List Pr) (j:Int) (f:Nat→Int) (n:Nat):(QH L up H l j f n).map (Qan k w cs)=QH L up H l j f n:=by
 unfold QH; rw [List.map_map]; rfl
theorem QrS (L:List Nd) (up:List (Pr × Pr)) (H:List (Pr × Tm)) (l:List Pr) (j:Int) (f:Nat→Int) (n:Nat):∀ u∈QH L up H l j f n,u.cells=[u]:=fun u hu=>by
 unfold QH at hu; obtain ⟨r,_,rfl⟩:=List.mem_map.1 hu; rfl
theorem QpG (L:List Nd) (up:List (Pr × Pr)) (H:List (Pr × Tm)) (l:List Pr) (j:Int) (f:Nat→Int) (n:Nat):Qc (QH L up H l j f n)=true:=by
 unfold QH
 induction List.range n with
 | nil=>rfl
 | cons r l ih=>simpa [Qc,Qe] using ih
theorem QrD (L:List Nd) (up:List (Pr × Pr)) (H:List (Pr × Tm)) (i n:Nat):∀ u∈Yy L up H i n,u.cells=[u]:=fun u hu=>by
 unfold Yy at hu; obtain ⟨r,_,rfl⟩:=List.mem_map.1 hu; rfl
theorem QtA (L:List Nd) (up:List (Pr × Pr)) (H:List (Pr × Tm)) (i n:Nat):Qc (Yy L up H i n)=true:=by
 unfold Yy
 induction List.range n with
 | nil=>rfl
 | cons r l ih=>simpa [Qc,Qe] using ih
theorem Qq7 (k w:Nat) (cs:List V) (L:List Nd) (up:List (Pr × Pr)) (H:List (Pr × Tm)) (i n:Nat):(Yy L up H i n).map (Qan k w cs)=Yy L up H i n:=by
 unfold Yy; rw [List.map_map]; rfl
theorem Qq1 {fmt:Int→List UInt8} {v0 v1 v2 v3 v4 k w:Nat} {L:List Nd} {cs:List V} {ex:List (Option Ob)} (hk:5≤k):Q5 (Qan k w cs) 0 (kG fmt v0 v1 v2 v3 v4 L++ex)=kG fmt v0 v1 v2 v3 v4 L++Q5 (Qan k w cs) 0 ex:=by
 have n2:¬ 2=k:=by omega
 have n3:¬ 3=k:=by omega
 have n4:¬ 4=k:=by omega
 simp [kG,Q5,Ob.mapV,QCp,Qq9,Qan,n2,n3,n4]
def woF (vr:List V) (lk:Int) (rg sr:List V) (sure:Bool):List V:=.lst 1 vr false::.int .i64 lk::(rg++[.lst 1 sr false,.bool sure])
theorem QCU (hT:Qw P tab) (F:Fmt P G) (hS:Qhr P G) {v0 v1 v2 v3 v4 t:Nat} {L:List Nd} (l:List Pr) (tg:Bool) (hl:l.length≤1000) (hl64:∀ x∈l,i64 x.n) (vars m:Nat) (hv:vars≤10) (hm:m≤4) (params next:Int) (hn:next≤1099511627776) (hL:L.length≤10000) :
 C P G 0 Qac [.ptr 1 v0 0,.lst 3 (prs l) tg,.int .i64 ((vars:Nat):Int),.agg (fnC m),.int .i64 params,.int .i64 next] ⟨t,kG F.fmt v0 v1 v2 v3 v4 L⟩ fun v σ =>
   ∃ L0 L' t' u2 u3 u4,∃ ps,ps=QdG l vars (QbB m params)∧∃ b,b=max 0 next+30+((QbB m params:Nat):Int) ∧
   Ext L L0∧AllR L0 (max 0 next) 32∧AllS L0 (max 0 next) (QbB m params)∧Ext L0 L'∧L'.length≤L.length+2500∧AllH L' (frS ps b vars).1 ∧
   v=.tup [.agg (woF (Yy L' (Qr (ties ps)) (frS ps b vars).1 vars vars) (Qax L' (Qr (ties ps)) (frS ps b vars).1 (vE (-1))) (QH L' (Qr (ties ps)) (frS ps b vars).1 ps 1 (fun r=>Qml L0 (max 0 next) r) 32) (QH L' (Qr (ties ps)) (frS ps b vars).1 ps 2 (fun i=>Z3 L0 (sy (max 0 next+30+((i:Nat):Int)))) (QbB m params)) (decide (m=0))),.int .i64 (frS ps b vars).2] ∧
   σ = ⟨t', kG F.fmt v0 v1 u2 u3 u4 L'⟩ := by
 refine Qrp (Q:=fun v σ=>∃ L0 L' t' u2 u3 u4,∃ ex:List (Option Ob),∃ ps,ps=QdG l vars (QbB m params)∧∃ b,b=max 0 next+30+((QbB m params:Nat):Int) ∧
  Ext L L0∧AllR L0 (max 0 next) 32∧AllS L0 (max 0 next) (QbB m params)∧Ext L0 L'∧L'.length≤L.length+2500∧AllH L' (frS ps b vars).1 ∧
  v=.tup [.agg (woF (Yy L' (Qr (ties ps)) (frS ps b vars).1 vars vars) (Qax L' (Qr (ties ps)) (frS ps b vars).1 (vE (-1))) (QH L' (Qr (ties ps)) (frS ps b vars).1 ps 1 (fun r=>Qml L0 (max 0 next) r) 32) (QH L' (Qr (ties ps)) (frS ps b vars).1 ps 2 (fun i=>Z3 L0 (sy (max 0 next+30+((i:Nat):Int)))) (QbB m params)) (decide (m=0))),.int .i64 (frS ps b vars).2] ∧
  σ = ⟨t', kG F.fmt v0 v1 u2 u3 u4 L' ++ ex⟩) ?_ fun v σ' hq => ?_
 ·refine Qhs (Q:=fun v σ=>∃ L0 L' t' u2 u3 u4 kV wV,∃ e1 e2:List (Option Ob),∃ ps,ps=QdG l vars (QbB m params)∧∃ b,b=max 0 next+30+((QbB m params:Nat):Int) ∧
   kV=5+e1.length∧Ext L L0∧AllR L0 (max 0 next) 32∧AllS L0 (max 0 next) (QbB m params)∧Ext L0 L'∧L'.length≤L.length+2500∧AllH L' (frS ps b vars).1 ∧
   v=.tup [.agg (.sl kV wV 0 1 vars none::.int .i64 (Qax L' (Qr (ties ps)) (frS ps b vars).1 (vE (-1)))::(QH L' (Qr (ties ps)) (frS ps b vars).1 ps 1 (fun r=>Qml L0 (max 0 next) r) 32++[.lst 1 (QH L' (Qr (ties ps)) (frS ps b vars).1 ps 2 (fun i=>Z3 L0 (sy (max 0 next+30+((i:Nat):Int)))) (QbB m params)) false,.bool (decide (m=0))])),.int .i64 (frS ps b vars).2] ∧
   σ = ⟨t', kG F.fmt v0 v1 u2 u3 u4 L' ++ (e1 ++ some (.arr wV 44 (Yy L' (Qr (ties ps)) (frS ps b vars).1 vars vars)) :: e2)⟩) ?_ fun v σ' hq => ?_
  ·refine Qhs (Q:=fun v σ=>∃ L0 L' t' u2 u3 u4 kV wV ws,∃ x17 x18:Option Ob,∃ ps,ps=QdG l vars (QbB m params)∧∃ b,b=max 0 next+30+((QbB m params:Nat):Int) ∧
   (kV=17∧x17=some (.arr wV 44 (Yy L' (Qr (ties ps)) (frS ps b vars).1 vars vars))∧x18=none∨kV=18∧x18=some (.arr wV 44 (Yy L' (Qr (ties ps)) (frS ps b vars).1 vars vars))∧x17=none)∧Ext L L0∧AllR L0 (max 0 next) 32∧AllS L0 (max 0 next) (QbB m params)∧Ext L0 L'∧L'.length≤L.length+2500∧AllH L' (frS ps b vars).1 ∧
   v=.tup [.agg (.sl kV wV 0 1 vars none::.int .i64 (Qax L' (Qr (ties ps)) (frS ps b vars).1 (vE (-1)))::(QH L' (Qr (ties ps)) (frS ps b vars).1 ps 1 (fun r=>Qml L0 (max 0 next) r) 32++[.sl 14 ws 0 1 (QbB m params) none,.bool (decide (m=0))])),.int .i64 (frS ps b vars).2] ∧
   σ = ⟨t', kG F.fmt v0 v1 u2 u3 u4 L' ++ [none, none, none, none, none, none, none, none, none, some (.arr ws 44 (QH L' (Qr (ties ps)) (frS ps b vars).1 ps 2 (fun i => Z3 L0 (sy (max 0 next + 30 + ((i : Nat) : Int)))) (QbB m params))), none, none, x17, x18]⟩) ?_ fun v σ' hq => ?_
   ·refine Qrp (QwH hT F hS l tg hl hl64 vars m hv hm params next hn hL) fun v σ' hq=>?_
    obtain ⟨L0, L', t', u2, u3, u4, kV, kW, wV, wW, ws, w21, wg, wb, wu, wp, wm, wh, y, cells, ps, hps, b, hb, hk, h1, h2, h3, h4, h5, h6, rfl, rfl⟩ := hq
    rcases hk with ⟨rfl,rfl⟩ | ⟨rfl,rfl⟩
    ·refine ⟨kG F.fmt v0 v1 u2 u3 u4 L' ++ [none, none, none, none, none, none, none, none, none, some (.arr ws 44 (QH L' (Qr (ties ps)) (frS ps b vars).1 ps 2 (fun i => Z3 L0 (sy (max 0 next + 30 + ((i : Nat) : Int)))) (QbB m params))), none, none, some (.arr wV 44 (Yy L' (Qr (ties ps)) (frS ps b vars).1 vars vars)), none], t', ?_, lR _, zL _, L0, L', t', u2, u3, u4, 17, wV, ws, _, _, ps, hps, b, hb, .inl ⟨rfl, rfl, rfl⟩, h1, h2, h3, h4, h5, h6, rfl, rfl⟩
     simp [kG,frZ,y3,Xr]
    ·refine ⟨kG F.fmt v0 v1 u2 u3 u4 L' ++ [none, none, none, none, none, none, none, none, none, some (.arr ws 44 (QH L' (Qr (ties ps)) (frS ps b vars).1 ps 2 (fun i => Z3 L0 (sy (max 0 next + 30 + ((i : Nat) : Int)))) (QbB m params))), none, none, none, some (.arr wV 44 (Yy L' (Qr (ties ps)) (frS ps b vars).1 vars vars))], t', ?_, lR _, zL _, L0, L', t', u2, u3, u4, 18, wV, ws, _, _, ps, hps, b, hb, .inr ⟨rfl, rfl, rfl⟩, h1, h2, h3, h4, h5, h6, rfl, rfl⟩
     simp [kG,frZ,y3,Xr]
   ·obtain ⟨L0, L', t', u2, u3, u4, kV, wV, ws, x17, x18, ps, hps, b, hb, hk, h1, h2, h3, h4, h5, h6, rfl, rfl⟩ := hq
    refine .inr ⟨14,ws,44,_,zL _,rfl,QpG _ _ _ _ _ _ _,?_⟩
    have hz:=Qzl (sz:=1) (k:=14) (w:=ws) (QrS L' (Qr (ties ps)) (frS ps b vars).1 ps 2 (fun i=>Z3 L0 (sy (max 0 next+30+((i:Nat):Int)))) (QbB m params))
    rw [Xa] at hz
    obtain ⟨sr,hsr⟩:∃ sr,sr=QH L' (Qr (ties ps)) (frS ps b vars).1 ps 2 (fun i=>Z3 L0 (sy (max 0 next+30+((i:Nat):Int)))) (QbB m params):=⟨_,rfl⟩
    rw [← hsr] at hz ⊢
    rcases hk with ⟨rfl,rfl,rfl⟩ | ⟨rfl,rfl,rfl⟩
    ·refine ⟨L0, L', t', u2, u3, u4, 17, wV, [none, none, none, none, none, none, none, none, none, none, none, none], [none], ps, hps, b, hb, rfl, h1, h2, h3, h4, h5, h6, ?_, ?_⟩
     ·rw [← hsr]
      simp only [Qan,QsI,Qdt,List.map_append,Qnd,List.map_cons,List.map_nil] at hz ⊢
      simpa using hz
     ·have e:∀ (X:Option Ob) (ex:List (Option Ob)),(kG F.fmt v0 v1 u2 u3 u4 L'++ex).set 14 none=kG F.fmt v0 v1 u2 u3 u4 L'++ex.set 9 none:=fun X ex=>rfl
      rw [e none,Qq1 (by decide)]
      simp [Q5,Ob.mapV,Qq7]
    ·refine ⟨L0, L', t', u2, u3, u4, 18, wV, [none, none, none, none, none, none, none, none, none, none, none, none, none], [], ps, hps, b, hb, rfl, h1, h2, h3, h4, h5, h6, ?_, ?_⟩
     ·rw [← hsr]
      simp only [Qan,QsI,Qdt,List.map_append,Qnd,List.map_cons,List.map_nil] at hz ⊢
      simpa using hz
     ·have e:∀ (X:Option Ob) (ex:List (Option Ob)),(kG F.fmt v0 v1 u2 u3 u4 L'++ex).set 14 none=kG F.fmt v0 v1 u2 u3 u4 L'++ex.set 9 none:=fun X ex=>rfl
      rw [e none,Qq1 (by decide)]
      simp [Q5,Ob.mapV,Qq7]
  ·obtain ⟨L0, L', t', u2, u3, u4, kV, wV, e1, e2, ps, hps, b, hb, hk, h1, h2, h3, h4, h5, h6, rfl, rfl⟩ := hq
   subst hk
   have hat:(kG F.fmt v0 v1 u2 u3 u4 L'++(e1++some (.arr wV 44 (Yy L' (Qr (ties ps)) (frS ps b vars).1 vars vars))::e2))[5+e1.length]?=some (some (.arr wV 44 (Yy L' (Qr (ties ps)) (frS ps b vars).1 vars vars))):=by
    rw [show 5+e1.length=(kG F.fmt v0 v1 u2 u3 u4 L').length+e1.length from rfl,List.getElem?_append_right (by omega),Nat.add_sub_cancel_left,List.getElem?_append_right (lR _),Nat.sub_self]; rfl
   refine .inr ⟨5+e1.length,wV,44,_,zL _,hat,QtA _ _ _ _ _,?_⟩
   have hz:=Qzl (sz:=1) (k:=5+e1.length) (w:=wV) (QrD L' (Qr (ties ps)) (frS ps b vars).1 vars vars)
   rw [Qjv] at hz
   obtain ⟨vr,hvr⟩:∃ vr,vr=Yy L' (Qr (ties ps)) (frS ps b vars).1 vars vars:=⟨_,rfl⟩
   rw [← hvr] at hz ⊢
   refine ⟨L0, L', t', u2, u3, u4, Q5 (Qan (5 + e1.length) wV vr) 0 ((e1 ++ some (.arr wV 44 vr) :: e2).set e1.length none), ps, hps, b, hb, h1, h2, h3, h4, h5, h6, ?_, ?_⟩
   ·rw [← hvr]
    simp only [Qan,QsI,Qdt,List.map_append,Qnd,List.map_cons,List.map_nil,woF] at hz ⊢
    simpa using hz
   ·have e:(kG F.fmt v0 v1 u2 u3 u4 L'++(e1++some (.arr wV 44 vr)::e2)).set (5+e1.length) none=kG F.fmt v0 v1 u2 u3 u4 L'++(e1++some (.arr wV 44 vr)::e2).set e1.length none:=by
     rw [List.set_append_right _ _ (by show 5≤_; omega),show 5+e1.length - (kG F.fmt v0 v1 u2 u3 u4 L').length=e1.length from Nat.add_sub_cancel_left 5 e1.length]
    rw [e,Qq1 (by omega)]
 ·obtain ⟨L0, L', t', u2, u3, u4, ex, ps, hps, b, hb, h1, h2, h3, h4, h5, h6, rfl, rfl⟩ := hq
  exact ⟨kG F.fmt v0 v1 u2 u3 u4 L', t', ZP _ _, lR _, zL _, L0, L', t', u2, u3, u4, ps, hps, b, hb, h1, h2, h3, h4, h5, h6, rfl, rfl⟩
theorem woF_nl {vr sr rg:List V} {lk:Int} {sure:Bool} (h1:Qc vr=true) (h2:Qc sr=true) (h3:Qc rg=true):Qc (woF vr lk rg sr sure)=true:=by
 simp [woF,Qc,Qe,Qis,h3]
def frV (L0 L':List Nd) (nx:Int) (ps:List Pr) (b:Int) (vars cnt m:Nat):List V:=woF (Yy L' (Qr (ties ps)) (frS ps b vars).1 vars vars) (Qax L' (Qr (ties ps)) (frS ps b vars).1 (vE (-1))) (QH L' (Qr (ties ps)) (frS ps b vars).1 ps 1 (fun r=>Qml L0 nx r) 32) (QH L' (Qr (ties ps)) (frS ps b vars).1 ps 2 (fun i=>Z3 L0 (sy (nx+30+((i:Nat):Int)))) cnt) (decide (m=0))
theorem Qzm (L0 L':List Nd) (nx:Int) (ps:List Pr) (b:Int) (vars cnt m:Nat):Qc (frV L0 L' nx ps b vars cnt m)=true:=woF_nl (QtA _ _ _ _ _) (QpG _ _ _ _ _ _ _) (QpG _ _ _ _ _ _ _)
theorem QwG (hT:Qw P tab) (F:Fmt P G) (hS:Qhr P G) {v0 v1 v2 v3 v4 t:Nat} {L:List Nd} (l:List Pr) (tg:Bool) (hl:l.length≤1000) (hl64:∀ x∈l,i64 x.n) (vars m:Nat) (hv:vars≤10) (hm:m≤4) (params next:Int) (hn:next≤1099511627776) (hL:L.length≤10000) (ex:List (Option Ob)) :
 C P G 0 Qac [.ptr 1 v0 0,.lst 3 (prs l) tg,.int .i64 ((vars:Nat):Int),.agg (fnC m),.int .i64 params,.int .i64 next] ⟨t,kG F.fmt v0 v1 v2 v3 v4 L++ex⟩ fun v σ =>
   ∃ L0 L' t' u2 u3 u4,∃ ps,ps=QdG l vars (QbB m params)∧∃ b,b=max 0 next+30+((QbB m params:Nat):Int) ∧
   Ext L L0∧AllR L0 (max 0 next) 32∧AllS L0 (max 0 next) (QbB m params)∧Ext L0 L'∧L'.length≤L.length+2500∧AllH L' (frS ps b vars).1 ∧
   v = .tup [.agg (frV L0 L' (max 0 next) ps b vars (QbB m params) m), .int .i64 (frS ps b vars).2] ∧ σ = ⟨t', kG F.fmt v0 v1 u2 u3 u4 L' ++ ex⟩ := by
 refine Qqt [0,1,2,3,4] (QCU hT F hS (v0:=v0) (v1:=v1) (v2:=v2) (v3:=v3) (v4:=v4) (L:=L) l tg hl hl64 vars m hv hm params next hn hL) rfl (by decide) ?_ ?_ ?_ (zL _) ?_ ?_ fun v σ hv=>?_
 ·simp [QpR,kG]
 ·simp [Qoi,kG,Ob.under,XG,V.under,Ob.ren,QcQ,V.ren,rOf,Qbp,Qfi,QcZ,QhQ,Qgd,-List.all_eq_true,Qc2]
 ·simp [QCZ]
 ·simp [XG,V.under,Qzn,kG]
 ·simp only [QcQ,V.ren,Qzo]
  simp [rOf]
 ·obtain ⟨L0, L', t', u2, u3, u4, ps, hps, b, hb, h1, h2, h3, h4, h5, h6, rfl, rfl⟩ := hv
  refine ⟨by simp [kG], L0, L', t', u2, u3, u4, ps, hps, b, hb, h1, h2, h3, h4, h5, h6, ?_, ?_⟩
  ·have hnl:=Qzm L0 L' (max 0 next) ps b vars (QbB m params) m
   show V.ren _ (.tup [.agg (frV L0 L' (max 0 next) ps b vars (QbB m params) m),.int .i64 (frS ps b vars).2])=_
   rw [V.ren_nameless _ (by simp [Qe,Qc,hnl])]
  ·simp [QdQ,QcO,kG,Ob.ren,QcQ,V.ren,rOf,Qbp,Qfi,QcZ]
end Go.Proofs.YtfgccihafnjalaaGreatDoor
