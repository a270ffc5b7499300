/- Ours. -/
import Derived.Test.YtbdhjeojcpgblaaGreatDoorJ14
import Derived.Test.YtbdhjeojcpgblaaGreatDoorJ12
import Derived.Test.YtbdhjeojcpgblaaGreatDoorAmD
import Derived.Test.YtbdhjeojcpgblaaGreatDoorY
open Nat renaming reduceEqDiff → rq, reduceAdd → rA, reduceLeDiff → rL, reduceLT → rT, zero_add → zA, le_refl → lR, zero_le → zL, add_zero → aZ
open List renaming length_cons → lC, length_nil → lN, take_succ_cons → tSq, length_append → lA, nil_append → nA, cons_append → cA, append_assoc → aA, take_nil → tN, take_zero → tZ, length_map → lM
open Bool renaming not_false → nF, not_true → nT
namespace Go.Proofs.YtbdhjeojcpgblaaGreatDoor
open Go Go.Am Go.Rv Go.Rg
set_option maxRecDepth 100000
variable {G:Nat→Option V}
section
attribute [local go_sem] nF nT cA lM nA aZ lR Nat.mul_one Nat.one_mul Nat.succ_ne_zero zA zL Nat.zero_mul Option.getD_none Option.getD_some Option.isSome_none Option.isSome_some V.cells and_true beq_self_eq_true bne_self_eq_false Xs decide_false decide_true false_implies ge_iff_le gt_iff_lt inC Y9 Qu not_false_eq_true not_true_eq_false Yf QMk QMj Yt XW QKP QKO QME QMD QMC QMB Xe true_and true_implies
def rdC (m:Im) (nm:List UInt8) (pl:Int) (c:List In) (F:Int):List V:=[.int .i64 m.data,Xe m.syms,Xs m.code,.str nm,.int .i64 pl,Y9 c,.int .i64 F,.lst 0 [] true]
def rdH (m:Im) (nm:List UInt8) (pl:Int) (c:List In) (F:Int) (vr:Nat) (X1 X2 X4 X6 X7:Option Ob):List (Option Ob):=[none,X1,X2,some (.arr vr 132 (rdC m nm pl c F)),X4,none,X6,X7]
variable {t i:Nat}
theorem c_opS1 {P:Program} (hT:Qf P tab) {base k w T:Nat} {o:List (Option Ob)} {op:Int} (ho:o[k]?=some (some (.arr w T [.int .u8 op]))) (a b:Int):C P G base QaY [.int .u8 a,.int .u8 b,.ptr k w 0] ⟨t,o⟩ fun v σ=>v=.bool (decide (a≤op)&&decide (op≤b))∧σ=⟨t,o⟩:=by
 refine Qk hT QaT (by simp [XW]) (Qg 12 ?_)
 by_cases h:a≤op
 ·have h':decide (a≤op)=true:=decide_eq_true h
  simp -implicitDefEqProofs (disch:=omega) only [go_sem,↓reduceIte,reduceCtorEq,rA,rq,ho,h]
  iterate 4 (try (refine Qa 4 ?_; simp -implicitDefEqProofs (disch:=omega) only [go_sem,↓reduceIte,reduceCtorEq,rA,rq]))
 ·have h':decide (a≤op)=false:=decide_eq_false h
  simp -implicitDefEqProofs (disch:=omega) only [go_sem,↓reduceIte,reduceCtorEq,rA,rq,ho,h]
  iterate 4 (try (refine Qa 4 ?_; simp -implicitDefEqProofs (disch:=omega) only [go_sem,↓reduceIte,reduceCtorEq,rq]))
variable {x:In} {X1 X2 X4 X6 X7:Option Ob} {c:List In} {pl F:Int} {nm:List UInt8} {m:Im}
theorem c_op {P:Program} (hT:Qf P tab) {vr:Nat} (hx:c[i]?=some x) (hl:c.length≤1000000) :
 C P G 0 Z9 [.ptr 3 vr 0,.int .i64 (i:Int)] ⟨t,rdH m nm pl c F vr X1 X2 X4 X6 X7⟩ fun v σ=>v=.bool (QBY x)∧∃ t',t≤t'∧σ=⟨t',rdH m nm pl c F vr X1 X2 X4 X6 X7⟩:=by
 have hD:=QaI hx
 simp only [inC] at hD
 have hlt:=(List.getElem?_eq_some_iff.1 hx).1
 have h1:=fun (t':Nat) (a b:Int)=>CV.of (cap:=[.ptr 8 t 0]) (args:=[.int .u8 a,.int .u8 b]) hT QaT (c_opS1 (G:=G) hT (base:=0) (t:=t') (k:=8) (w:=t) (T:=5) (o:=rdH m nm pl c F vr X1 X2 X4 X6 X7++[some (.arr t 5 [.int .u8 x.op])]) (op:=x.op) rfl a b)
 have hC:=QnK (P:=P) (G:=G) hT [14,21,50,64] true x.op (by simp)
 simp only [rdH,rdC,Y9,Xe,Xs,inC,cA,nA] at h1
 simp only [us,List.map_cons,List.map_nil] at hC
 have hop:QBY x=((decide (1≤x.op)&&decide (x.op≤10)) || ((decide (22≤x.op)&&decide (x.op≤49)) || ((decide (54≤x.op)&&decide (x.op≤62)) || decide (x.op∈[(14:Int),21,50,64])))):=rfl
 rw [hop]
 generalize decide (x.op∈[(14:Int),21,50,64])=b4 at *
 refine Qi 8 (zL _) (Qk hT Qcv (by simp [Yt]) (Qg 30 ?_))
 simp -implicitDefEqProofs (disch:=omega) only [go_sem,↓reduceIte,reduceCtorEq,rA,rq,rL,rdH,rdC,hlt,hD]
 refine CV.use 4 (h1 _ 1 10) fun v σ hv=>?_
 obtain ⟨rfl,rfl⟩:=hv
 cases hb1:(decide (1≤x.op)&&decide (x.op≤10)) with
 | true =>
   refine ya ?_
   iterate 9 (try (refine Qa 4 ?_; simp -implicitDefEqProofs (disch:=omega) only [go_sem,↓reduceIte,reduceCtorEq,rA,rq,rL]))
   exact ⟨by simp,t+1,Nat.le_succ t,rfl⟩
 | false =>
   refine ya ?_
   refine CV.use 4 (h1 _ 22 49) fun v σ hv=>?_
   obtain ⟨rfl,rfl⟩:=hv
   cases hb2:(decide (22≤x.op)&&decide (x.op≤49)) with
   | true =>
     refine ya ?_
     iterate 9 (try (refine Qa 4 ?_; simp -implicitDefEqProofs (disch:=omega) only [go_sem,↓reduceIte,reduceCtorEq,rA,rq,rL]))
     exact ⟨by simp,t+1,Nat.le_succ t,rfl⟩
   | false =>
     refine ya ?_
     iterate 1 (try (refine Qa 4 ?_; simp -implicitDefEqProofs (disch:=omega) only [go_sem,↓reduceIte,reduceCtorEq,rA,rq,rL,rT,Nat.reduceSub,Nat.reduceMul,Int.reduceToNat,Int.reduceLE,Int.reduceLT,Int.reduceEq,Int.reduceNe,Nat.reduceBEq,Nat.reduceBNe,rdH,rdC,Int.reduceBEq,Int.reduceBNe]))
     refine CV.use 4 (h1 _ 54 62) fun v σ hv=>?_
     obtain ⟨rfl,rfl⟩:=hv
     cases hb3:(decide (54≤x.op)&&decide (x.op≤62)) with
     | true =>
       refine ya ?_
       iterate 9 (try (refine Qa 4 ?_; simp -implicitDefEqProofs (disch:=omega) only [go_sem,↓reduceIte,reduceCtorEq,rA,rq,rL]))
       exact ⟨by simp,t+1,Nat.le_succ t,rfl⟩
     | false =>
       refine ya ?_
       iterate 2 (try (refine Qa 4 ?_; simp -implicitDefEqProofs (disch:=omega) only [go_sem,↓reduceIte,reduceCtorEq,rA,rq]))
       refine Qj hT XO hC rfl 4 ?_
       refine ya ?_
       iterate 4 (try (refine Qa 4 ?_; simp -implicitDefEqProofs (disch:=omega) only [go_sem,↓reduceIte,reduceCtorEq,rA,rq,rL]))
       exact ⟨by simp,t+1,Nat.le_succ t,rfl⟩
def fnN (nm:List UInt8) (pl:Int) (c:List In) (F:Int):V:=.agg [.str nm,.int .i64 pl,Y9 c,.int .i64 F,.lst 0 [] true]
theorem QRh:Wk (fnN nm pl c F) (.agg (fnC nm pl c F [])) :=
 .agg _ _ (.cons _ _ _ _ (.refl _) (.cons _ _ _ _ (.refl _) (.cons _ _ _ _ (.refl _) (.cons _ _ _ _ (.refl _) (.cons _ _ _ _ (.lst 0 1 [] [] true .nil (.inl rfl)) .nil)))))
theorem QCQ {i:Int}:Qb [fnN nm pl c F,.int .i64 i]=true:=by simp [fnN,Y9,Qb,Qd]
theorem QxA {P:Program} (hT:Qf P tab) (nm:List UInt8) (pl F:Int) (c:List In) (i:Int) (hl:c.length≤1000000) (hi:-10≤i∧i≤2000000):Am.Pure P G YF [fnN nm pl c F,.int .i64 i] fun v=>v=.bool (Qbj c F i) :=
 Pure.args (.cons _ _ _ _ QRh (.cons _ _ _ _ (.refl _) .nil)) (Qpj hT nm pl F c [] i hl hi)
theorem QwD {P:Program} (hT:Qf P tab) (nm:List UInt8) (pl F:Int) (c:List In) (i:Int) (hl:c.length≤1000000) (hi:-9≤i∧i≤2000000):Am.Pure P G Zm [fnN nm pl c F,.int .i64 i] fun v=>v=.bool (ret c F i) :=
 Pure.args (.cons _ _ _ _ QRh (.cons _ _ _ _ (.refl _) .nil)) (Qmj hT nm pl F c [] i hl hi)
theorem c_back {P:Program} (hT:Qf P tab) {vr:Nat} (hx:c[i]?=some x) (hl:c.length≤1000000) :
 C P G 0 Zl [.ptr 3 vr 0,.int .i64 (i:Int)] ⟨t,rdH m nm pl c F vr X1 X2 X4 X6 X7⟩ fun v σ=>v=.bool (Qk0 c F i x)∧∃ t',t≤t'∧σ=⟨t',rdH m nm pl c F vr X1 X2 X4 X6 X7⟩:=by
 have hD:=QaI hx
 simp only [inC] at hD
 have hlt:=(List.getElem?_eq_some_iff.1 hx).1
 have hR:=QwD (P:=P) (G:=G) hT nm pl F c i hl (by omega)
 have hn:=QCQ (nm:=nm) (pl:=pl) (c:=c) (F:=F) (i:=i)
 simp only [fnN,Y9,inC] at hR hn
 unfold Qk0
 refine Qi 8 (zL _) (Qk hT Qbo (by simp [Yf]) (Qg 12 ?_))
 by_cases h:x.op=4
 ·have h':(x.op != 4)=false:=by simp [h]
  simp -implicitDefEqProofs (disch:=omega) only [go_sem,↓reduceIte,reduceCtorEq,rA,rq,rL,rdH,rdC]
  iterate 4 (try (refine Qa 4 ?_; simp -implicitDefEqProofs (disch:=omega) only [go_sem,↓reduceIte,reduceCtorEq,rA,rq,rL,hlt,hD,h']))
  refine Qj hT Xh hR hn 4 ?_
  refine ya ?_
  iterate 4 (try (refine Qa 4 ?_; simp -implicitDefEqProofs (disch:=omega) only [go_sem,↓reduceIte,reduceCtorEq,rA,rq]))
  exact ⟨by simp [h],t,lR t,rfl⟩
 ·have h':(x.op != 4)=true:=by simp [h]
  simp -implicitDefEqProofs (disch:=omega) only [go_sem,↓reduceIte,reduceCtorEq,rA,rq,rL,rdH,rdC]
  iterate 6 (try (refine Qa 4 ?_; simp -implicitDefEqProofs (disch:=omega) only [go_sem,↓reduceIte,reduceCtorEq,rA,rq,rL,hlt,hD,h']))
  exact ⟨by simp [h],t,lR t,rfl⟩
theorem QPA (l:List Int):(us l).length=l.length:=by simp [us]
theorem Qmr:∀ l:List Int,Qb (us l)=true
 | []=>rfl
 | n::c=>by have:=Qmr c; simpa [us,Qb,Qd] using this
theorem QF0 (hT:Qf Tryz.prog tab) (x:In) (hx:QqN x):Am.Pure Tryz.prog G0 QjF [.agg (inC x)] fun u=>u=.lst 1 (us (rds x)) false:=by
 refine Qmm (fun t=>C_pad (o':=[none]) (fun n ob h=>?_) (zL _) ((QTc hT x hx (X:=none)).conseq fun v σ hv=>?_)) (by simp [Qd])
 ·cases n with
  | zero=>simp at h
  | succ n=>simp at h
 rcases hv with ⟨hr,rfl,_⟩ | ⟨t',w,B,cs,hcs,rfl,rfl⟩
 ·rw [hr]
  exact .inl ⟨rfl,.lst 0 1 [] [] true .nil (.inl rfl)⟩
 ·have hfz:XR 2 w (us (rds x)++cs) (.sl 2 w 0 1 (rds x).length none)=.lst 1 (us (rds x)) false:=by
   have hle:(rds x).length≤(us (rds x)).length+cs.length:=by rw [QPA]; omega
   simp [XR,Qd1,List.take_left' (QPA _),hle]
  refine .inr ⟨2,w,5,us (rds x)++cs,rfl,?_,?_,?_⟩
  ·rw [XP,Qmr,hcs]; rfl
  ·rw [hfz]; simp [Qd]
  ·rw [hfz]; exact .refl _
end
end Go.Proofs.YtbdhjeojcpgblaaGreatDoor
namespace Go.Proofs.YtbdhjeojcpgblaaGreatDoor
open Go Go.Am Go.Rv Go.Rg
set_option maxRecDepth 100000
section
attribute [local go_sem] nF nT cA lM nA aZ lR zA zL V.cells and_true Xs decide_false decide_true false_implies gt_iff_lt inC Y9 Qu rdC rdH XV QMA QMz Qt8 Qt7 Qt6 Qt5 Qt4 Qt3 QMy QMx QMw QMv QMu Qz9 Qz8 Qz7 Xe true_and true_implies
variable {x:In} {t:Nat}
theorem QBC (hT:Qf Tryz.prog tab) {w:Nat} {o:List (Option Ob)} (hxo:QqN x) (ho:o[8]?=some (some (.arr w 70 (inC x)))) {fr:Fr} {Q:V→H→Prop} (f5:Ql fr 5=.ptr 8 w 0)
 (hk:Q (.bool (!decide ((2:Int)∈rds x) || (if x.op=14 then true else if x.op=21∨x.op=10 then decide (x.rs2≠2) else false))) ⟨t,o⟩) :
 W Tryz.prog G0 58 0 (.seq (zg Qz9 [44,45,46] (zw 47 (zg Qz8 [] .ret) .skip)) (.seq (zg Qz7 [48] (.block 0 (zg Qt8 [51] (zw 50 (zg Qt7 [] .ret) (.seq (zg Qt6 [53] (zw 52 .skip (.reg Qt5 [54]))) (zw 52 (zg Qt4 [55,56,57] .ret) .skip)))))) (zg Qt3 [] .ret))) fr ⟨t,o⟩ (QkX G0 [RV.tmp 4] Q):=by
 have hRd:=QF0 hT x hxo
 have hrl:=QRI x
 have hC:=QnK (P:=Tryz.prog) (G:=G0) hT (rds x) false 2 (by omega)
 simp only [inC] at hRd ho
 refine Qt [(5,.ptr 8 w 0)] ⟨f5,trivial⟩  6 ?_
 simp -implicitDefEqProofs (disch:=omega) only [go_sem,↓reduceIte,reduceCtorEq,rA,rq,ho]
 refine Qj hT QoL hRd rfl 4 ?_
 refine ya ?_
 refine Qj hT XO hC (by simp [Qb,Qd]) 4 ?_
 generalize decide ((2:Int)∈rds x)=b2 at *
 cases b2 with
 | false =>
   refine ya ?_
   iterate 6 (try (refine Qa 4 ?_; simp -implicitDefEqProofs (disch:=omega) only [go_sem,↓reduceIte,rq]))
   exact hk
 | true =>
   refine ya ?_
   rw [nT,Bool.false_or] at hk
   by_cases h1:x.op=14
   ·have h1':(x.op==14)=true:=by simp [h1]
    rw [if_pos h1] at hk
    iterate 9 (try (refine Qa 4 ?_; simp -implicitDefEqProofs (disch:=omega) only [go_sem,↓reduceIte,rA,rq,rL,ho,h1']))
    exact hk
   ·have h1':(x.op==14)=false:=by simp [h1]
    rw [if_neg h1] at hk
    by_cases h2:x.op=21
    ·have h2':(x.op==21)=true:=by simp [h2]
     rw [if_pos (.inl h2)] at hk
     iterate 9 (try (refine Qa 4 ?_; simp -implicitDefEqProofs (disch:=omega) only [go_sem,↓reduceIte,rA,rq,rL,ho,h1',h2']))
     simpa [ibne] using hk
    ·have h2':(x.op==21)=false:=by simp [h2]
     by_cases h3:x.op=10
     ·have h3':(x.op==10)=true:=by simp [h3]
      rw [if_pos (.inr h3)] at hk
      iterate 9 (try (refine Qa 4 ?_; simp -implicitDefEqProofs (disch:=omega) only [go_sem,↓reduceIte,rA,rq,rL,ho,h1',h2',h3']))
      simpa [ibne] using hk
     ·have h3':(x.op==10)=false:=by simp [h3]
      rw [if_neg (by omega)] at hk
      iterate 9 (try (refine Qa 4 ?_; simp -implicitDefEqProofs (disch:=omega) only [go_sem,↓reduceIte,rA,rq,rL,ho,h1',h2',h3']))
      exact hk
theorem QS2 (hT:Qf Tryz.prog tab) {m:Im} {nm:List UInt8} {pl F:Int} {c:List In} {vr i:Nat} {X1 X2 X4 X6 X7:Option Ob} (hx:c[i]?=some x) (hl:c.length≤1000000) (hxo:QqN x) :
 C Tryz.prog G0 0 YW [.ptr 3 vr 0,.int .i64 (i:Int)] ⟨t,rdH m nm pl c F vr X1 X2 X4 X6 X7⟩ fun v σ=>v=.bool (Qdy c F i x)∧∃ t',t≤t'∧σ=⟨t',rdH m nm pl c F vr X1 X2 X4 X6 X7⟩:=by
 have hD:=QaI hx
 simp only [inC] at hD
 have hlt:=(List.getElem?_eq_some_iff.1 hx).1
 have hR:=QxA (P:=Tryz.prog) (G:=G0) hT nm pl F c i hl (by omega)
 have hn:=QCQ (nm:=nm) (pl:=pl) (c:=c) (F:=F) (i:=i)
 have hW:=QFZ hT x hxo
 simp only [fnN,Y9,inC] at hR hn hW
 refine Qi 8 (zL _) (Qk hT QaS (by simp [XV]) (Qg 17 ?_))
 simp -implicitDefEqProofs (disch:=omega) only [go_sem,↓reduceIte,reduceCtorEq,rA,rq,rL,hlt,hD]
 refine Qa 2 ?_
 refine ya ?_
 have hst:Qdy c F i x=((decide (i=0)&&decide (0<F)) || Qbj c F i || (!decide (wrs x=(2,true))&&(!decide ((2:Int)∈rds x) || (if x.op=14 then true else if x.op=21∨x.op=10 then decide (x.rs2≠2) else false)))):=rfl
 rw [hst]
 refine QpF (fun fr σ=>Ql fr 5=.ptr 8 t 0∧Ql fr 33=.bool (decide (i=0)&&decide (0<F) || Qbj c F i)∧σ=⟨t+1,rdH m nm pl c F vr X1 X2 X4 X6 X7++[some (.arr t 70 (inC x))]⟩) ?_ fun fr σ hJ=>?_
 ·refine Qg 12 ?_
  generalize Qbj c F i=br at *
  by_cases h0:i=0
  ·have h0':((i:Int)==0)=true:=by simp [h0]
   have h0'':((i:Int)=0)=True:=eq_true (by omega)
   rw [decide_eq_true h0]
   by_cases hF:0<F
   ·have hF':decide (0<F)=true:=decide_eq_true hF
    simp -implicitDefEqProofs (disch:=omega) only [go_sem,↓reduceIte,reduceCtorEq,rA,rq,rL,hF,h0']
    iterate 9 (try (refine Qa 4 ?_; simp -implicitDefEqProofs (disch:=omega) only [go_sem,↓reduceIte,reduceCtorEq,rq]))
    try simp
   ·have hF':decide (0<F)=false:=decide_eq_false hF
    simp -implicitDefEqProofs (disch:=omega) only [go_sem,↓reduceIte,reduceCtorEq,rA,rq,rL,hF,h0']
    iterate 4 (try (refine Qa 4 ?_; simp -implicitDefEqProofs (disch:=omega) only [go_sem,↓reduceIte,reduceCtorEq,rA,rq]))
    refine Qj hT X9 hR hn 4 ?_
    refine ya ?_
    try simp
  ·have h0':((i:Int)==0)=false:=by simp [h0]
   have h0'':((i:Int)=0)=False:=eq_false (by omega)
   rw [decide_eq_false h0]
   refine yj ?_
   iterate 4 (try (refine Qa 4 ?_; simp -implicitDefEqProofs (disch:=omega) only [go_sem,↓reduceIte,reduceCtorEq,rA,rq]))
   refine Qj hT X9 hR hn 4 ?_
   refine ya ?_
   try simp
 obtain ⟨f5,f33,rfl⟩:=hJ
 refine Qrz [(5,.ptr 8 t 0),(33,.bool (decide (i=0)&&decide (0<F) || Qbj c F i))] ⟨f5,f33,trivial⟩ ?_
 generalize (decide (i=0)&&decide (0<F) || Qbj c F i)=b1
 have hk:∀ (a:Int × Bool),decide (a=(2,true))=(a.2&&decide (a.1=2)):=fun a=>by
  obtain ⟨p,q⟩:=a
  rw [Bool.eq_iff_iff]; cases q <;> simp
 rw [hk]
 simp only [rdH,cA,nA]
 generalize wrs x=wx at *
 obtain ⟨wd,wb⟩:=wx
 simp only at hW ⊢
 refine Qa 5 ?_
 cases b1 with
 | true =>
   refine ya ?_
   iterate 4 (try (refine Qa 4 ?_; simp -implicitDefEqProofs (disch:=omega) only [go_sem,↓reduceIte,rA,rq,rL]))
   exact ⟨by simp,t+1,Nat.le_succ t,rfl⟩
 | false =>
   rw [Bool.false_or]
   refine ya ?_
   iterate 1 (try (refine Qa 4 ?_; simp -implicitDefEqProofs (disch:=omega) only [go_sem,↓reduceIte,reduceCtorEq,rA,rq]))
   refine Qj hT QmA hW rfl 4 ?_
   refine ya ?_
   cases wb with
   | true =>
     by_cases h2:wd=2
     ·have h2':(wd==2)=true:=by simp [h2]
      iterate 9 (try (refine Qa 4 ?_; simp -implicitDefEqProofs (disch:=omega) only [go_sem,↓reduceIte,rA,rq,rL,h2']))
      exact ⟨by simp [h2],t+1,Nat.le_succ t,rfl⟩
     ·have h2':(wd==2)=false:=by simp [h2]
      iterate 3 (try (refine Qa 4 ?_; simp -implicitDefEqProofs (disch:=omega) only [go_sem,↓reduceIte,rA,rq,h2']))
      exact QBC hT hxo rfl rfl ⟨by simp,by simp [h2],t+1,Nat.le_succ t,rfl⟩
   | false =>
     iterate 3 (try (refine Qa 4 ?_; simp -implicitDefEqProofs (disch:=omega) only [go_sem,↓reduceIte,rq]))
     exact QBC hT hxo rfl rfl ⟨by simp,by simp,t+1,Nat.le_succ t,rfl⟩
end
variable {P:Program} {G:Nat→Option V}
section
attribute [local go_sem] nF aZ lR zA zL decide_false decide_true ge_iff_le gt_iff_lt Qu XE Xk QKx QKw QMt QMs QMr QMq QMp QMo QMn QMm QMl Qn QA4 QA3
variable {at_:Int} {o:List (Option Ob)} {base t w k:Nat}
theorem Qyh (hT:Qf P tab) {T:Nat} (ho:o[k]?=some (some (.arr w T [.int .i64 at_]))) (hb:base≤o.length) (s:List UInt8 × Int) :
 C P G base Xw [Qn8 s,.ptr k w 0] ⟨t,o⟩ fun v σ=>v=.bool (decide (s.2=at_))∧∃ t',t≤t'∧σ=⟨t',o⟩:=by
 have hk:=(List.getElem?_eq_some_iff.1 ho).1
 have h1:∀ X,(o++[X])[k]?=some (some (.arr w T [.int .i64 at_])):=fun X=>by rw [List.getElem?_append_left hk]; exact ho
 have h2:∀ X,(o++[X])[o.length]?=some X:=fun X=>List.getElem?_concat_length
 have h3:∀ X:Option Ob,List.take o.length (o++[X])=o:=fun X=>by simp
 refine Qi o.length hb (Qk hT ZC (by simp [Xk]) (Qg 20 ?_))
 simp -implicitDefEqProofs (disch:=omega) only [go_sem,↓reduceIte,reduceCtorEq,rA,rq,Qn8,V.cells,h1,h2]
 refine ⟨by simp,by rw [ibeq],t+1,Nat.le_succ t,by simp [h3]⟩
theorem QFY (hT:Qf P tab) {T:Nat} (ho:o[k]?=some (some (.arr w T [.int .i64 at_]))) (hb:base≤o.length) (l:List (List UInt8 × Int)) (hl:l.length≤1000) :
 C P G base QT [Xe l,.fn (.func Xw) [] [.ptr k w 0]] ⟨t,o⟩ fun v σ=>v=.bool (decide (at_∈l.map (·.2)))∧∃ t',t≤t'∧σ=⟨t',o⟩:=by
 have hI:=QwY (P:=P) (G:=G) hT (base:=base) (t:=t) (o:=o) (f:=.fn (.func Xw) [] [.ptr k w 0]) (p:=fun i=>match l[i]? with | some s=>decide (s.2=at_) | none=>false) (l:=l) (tg:=false)
  (fun _ σ=>∃ t',t≤t'∧σ=⟨t',o⟩) (fun σ=>∃ t',t≤t'∧σ=⟨t',o⟩) (by omega) (fun i s hs σ hI=>?_) ⟨t,lR _,rfl⟩
 ·refine Qk hT QC (by simp [Qn]) (Qg 1000 ?_)
  simp -implicitDefEqProofs (disch:=omega) only [go_sem,↓reduceIte,reduceCtorEq,rq,Xe]
  refine call hT Q3 hI 1000 fun v σ hv=>?_
  rcases hv with ⟨i,hlt,_,hpi,rfl,t',ht,rfl⟩ | ⟨hno,rfl,t',ht,rfl⟩
  ·refine ya ?_
   refine ⟨?_,t',ht,rfl⟩
   obtain ⟨s,hs⟩:∃ s,l[i]?=some s:=⟨_,List.getElem?_eq_getElem hlt⟩
   simp only [hs,decide_eq_true_eq] at hpi
   have hm:at_∈l.map (·.2):=List.mem_map.2 ⟨s,List.mem_of_getElem? hs,hpi⟩
   rw [decide_eq_true hm,decide_eq_true (by omega)]
  ·refine ya ?_
   refine ⟨?_,t',ht,rfl⟩
   have hm:at_ ∉ l.map (·.2):=fun h=>by
    obtain ⟨s,hs,e⟩:=List.mem_map.1 h
    obtain ⟨j,hj,e2⟩:=List.mem_iff_getElem.1 hs
    have:=hno j hj
    rw [List.getElem?_eq_getElem hj,e2] at this
    simp [e] at this
   rw [decide_eq_false hm]
 ·obtain ⟨t1,ht1,rfl⟩:=hI
  refine CV.of hT ZC ((Qyh (P:=P) (G:=G) hT ho hb s).conseq fun v σ hv=>?_)
  obtain ⟨rfl,t2,ht2,rfl⟩:=hv
  simp only [hs]
  exact ⟨trivial,fun _=>⟨t2,by omega,rfl⟩,fun _=>⟨t2,by omega,rfl⟩⟩
theorem QFV (hT:Qf P tab) {m:Im} {nm:List UInt8} {pl F:Int} {c:List In} {vr i:Nat} {X1 X2 X4 X6 X7:Option Ob} {x:In} (hx:c[i]?=some x) (hl:c.length≤1000000) (hs:m.syms.length≤1000) (hb:-1099511627776≤x.imm∧x.imm≤1099511627776) (hpl:0≤pl∧pl≤1099511627776) :
 C P G 0 YE [.ptr 3 vr 0,.int .i64 (i:Int)] ⟨t,rdH m nm pl c F vr X1 X2 X4 X6 X7⟩ fun v σ=>v=.bool (Zp (ats m) pl c F i x)∧∃ t',t≤t'∧σ=⟨t',rdH m nm pl c F vr X1 X2 X4 X6 X7⟩:=by
 have hD:=QaI hx
 simp only [inC] at hD
 have hlt:=(List.getElem?_eq_some_iff.1 hx).1
 have hJm:=Qvu (P:=P) (G:=G) hT x
 have h4:=QRr (n:=x.imm) (by omega)
 have w1:IntKind.i64.wrap (x.imm.tdiv 4)=x.imm.tdiv 4:=Yz (by omega)
 have w2:IntKind.i64.wrap ((i:Int)+x.imm.tdiv 4)=tgt x i:=by rw [Yz (by omega)]; rfl
 have w3:IntKind.i64.wrap (4 * (i:Int))=4 * (i:Int):=Yz (by omega)
 have w4:IntKind.i64.wrap (pl+4 * (i:Int))=pl+4 * (i:Int):=Yz (by omega)
 have w5:IntKind.i64.wrap (pl+4 * (i:Int)+x.imm)=pl+4 * (i:Int)+x.imm:=Yz (by omega)
 simp only [inC] at hJm
 have hto:Zp (ats m) pl c F i x=if Qbw x then decide (x.imm.tmod 4=0)&&(decide (0<tgt x i)&&(decide (tgt x i<c.length)&&!(decide (0<F)&&ret c F (tgt x i)))) else if x.op=3 then decide (x.rd=1)&&decide (pl+4 * i+x.imm∈ats m) else true:=rfl
 refine Qi 8 (zL _) (Qk hT Qax (by simp [XE]) (Qg 22 ?_))
 simp -implicitDefEqProofs (disch:=omega) only [go_sem,↓reduceIte,reduceCtorEq,rA,rq,rL,rdH,rdC,Y9,Xe,Xs,inC,V.cells,lM,false_implies,true_implies,and_true,cA,nA,hlt,hD]
 iterate 1 (try (refine Qa 4 ?_; simp -implicitDefEqProofs (disch:=omega) only [go_sem,↓reduceIte,reduceCtorEq,rq]))
 refine Qj hT Ys hJm rfl 4 ?_
 cases hj:Qbw x with
 | false =>
   refine ya ?_
   by_cases h3:x.op=3
   ·have h3':(x.op==3)=true:=by simp [h3]
    by_cases h1:x.rd=1
    ·have h1':(x.rd==1)=true:=by simp [h1]
     iterate 9 (try (refine Qa 4 ?_; simp -implicitDefEqProofs (disch:=omega) only [go_sem,↓reduceIte,reduceCtorEq,rA,rq,rL,V.cells,true_implies,and_true,cA,nA,h3',h1',w3,w4,w5]))
     have hS:=fun T3=>QFY (P:=P) (G:=G) hT (base:=0) (t:=t+1+1) (w:=t+1) (T:=2) (k:=9) (o:=[none,X1,X2,some (.arr vr 132 (rdC m nm pl c F)),X4,none,X6,X7,T3,some (.arr (t+1) 2 [.int .i64 (pl+4 * (i:Int)+x.imm)])]) (at_:=pl+4 * (i:Int)+x.imm) rfl (zL _) m.syms hs
     simp only [rdC,Y9,Xe,Xs,inC] at hS
     refine call hT QC (hS _) 4 fun v σ hv=>?_
     obtain ⟨rfl,t2,ht2,rfl⟩:=hv
     refine ya ?_
     iterate 4 (try (refine Qa 4 ?_; simp -implicitDefEqProofs (disch:=omega) only [go_sem,↓reduceIte,reduceCtorEq,rA,rq,rL,true_and,and_true]))
     exact ⟨by rw [hto,hj]; simp [h1,h3,ats]; congr,t2,by omega,rfl⟩
    ·have h1':(x.rd==1)=false:=by simp [h1]
     iterate 12 (try (refine Qa 4 ?_; simp -implicitDefEqProofs (disch:=omega) only [go_sem,↓reduceIte,reduceCtorEq,rA,rq,rL,V.cells,true_implies,true_and,and_true,cA,nA,h3',h1',w3,w4,w5]))
     exact ⟨by rw [hto,hj]; simp [h1,h3],t+1+1,by omega,rfl⟩
   ·have h3':(x.op==3)=false:=by simp [h3]
    iterate 6 (try (refine Qa 4 ?_; simp -implicitDefEqProofs (disch:=omega) only [go_sem,↓reduceIte,reduceCtorEq,rA,rq,rL,true_implies,true_and,and_true,h3']))
    exact ⟨by rw [hto,hj]; simp [h3],t+1,by omega,rfl⟩
 | true =>
   refine ya ?_
   have hR:=fun h=>QwD (P:=P) (G:=G) hT nm pl F c (tgt x i) hl h
   have hn:=QCQ (nm:=nm) (pl:=pl) (c:=c) (F:=F) (i:=tgt x i)
   simp only [fnN,Y9,inC] at hR hn
   by_cases g1:x.imm.tmod 4=0
   ·have g1':(x.imm.tmod 4==0)=true:=by simp [g1]
    by_cases g2:0<tgt x i
    ·have g2':decide (0<tgt x i)=true:=decide_eq_true g2
     by_cases g3:tgt x i<c.length
     ·have g3':decide (tgt x i<(c.length:Int))=true:=decide_eq_true g3
      by_cases g4:0<F
      ·have g4':decide (0<F)=true:=decide_eq_true g4
       iterate 12 (try (refine Qa 4 ?_; simp -implicitDefEqProofs (disch:=omega) only [go_sem,↓reduceIte,reduceCtorEq,rA,rq,rL,Int.reduceEq,lM,false_implies,true_implies,and_true,not_false_eq_true,w1,w2,g1',g2,g3,g4]))
       refine Qj hT Xh (hR (by omega)) hn 4 ?_
       refine ya ?_
       iterate 4 (try (refine Qa 4 ?_; simp -implicitDefEqProofs (disch:=omega) only [go_sem,↓reduceIte,reduceCtorEq,rA,rq,rL,true_and,and_true]))
       exact ⟨by rw [hto,hj]; simp [g1,g2,g3,g4],t+1,by omega,rfl⟩
      ·have g4':decide (0<F)=false:=decide_eq_false g4
       iterate 14 (try (refine Qa 4 ?_; simp -implicitDefEqProofs (disch:=omega) only [go_sem,↓reduceIte,reduceCtorEq,rA,rq,rL,Int.reduceEq,lM,true_implies,true_and,and_true,not_false_eq_true,w1,w2,g1',g2,g3,g4]))
       exact ⟨by rw [hto,hj]; simp [g1,g2,g3,g4],t+1,by omega,rfl⟩
     ·have g3':decide (tgt x i<(c.length:Int))=false:=decide_eq_false g3
      iterate 14 (try (refine Qa 4 ?_; simp -implicitDefEqProofs (disch:=omega) only [go_sem,↓reduceIte,reduceCtorEq,rA,rq,rL,Int.reduceEq,lM,true_implies,true_and,and_true,not_false_eq_true,w1,w2,g1',g2,g3]))
      exact ⟨by rw [hto,hj]; simp [g1,g2,g3],t+1,by omega,rfl⟩
    ·have g2':decide (0<tgt x i)=false:=decide_eq_false g2
     iterate 14 (try (refine Qa 4 ?_; simp -implicitDefEqProofs (disch:=omega) only [go_sem,↓reduceIte,reduceCtorEq,rA,rq,rL,Int.reduceEq,true_implies,true_and,and_true,not_false_eq_true,w1,w2,g1',g2]))
     exact ⟨by rw [hto,hj]; simp [g1,g2],t+1,by omega,rfl⟩
   ·have g1':(x.imm.tmod 4==0)=false:=by simp [g1]
    iterate 14 (try (refine Qa 4 ?_; simp -implicitDefEqProofs (disch:=omega) only [go_sem,↓reduceIte,reduceCtorEq,rA,rq,rL,Int.reduceEq,true_implies,true_and,and_true,not_false_eq_true,w1,w2,g1']))
    exact ⟨by rw [hto,hj]; simp [g1],t+1,by omega,rfl⟩
end
end Go.Proofs.YtbdhjeojcpgblaaGreatDoor
namespace Go.Proofs.YtbdhjeojcpgblaaGreatDoor
open Go Go.Am Go.Rv Go.Rg
set_option maxRecDepth 100000
section
attribute [local go_sem] nF nT cA lM nA aZ lR Nat.mul_one Nat.one_mul Nat.succ_ne_zero zA zL Nat.zero_mul Option.getD_none Option.getD_some Option.isSome_none Option.isSome_some V.cells and_true beq_self_eq_true bne_self_eq_false Xs decide_false decide_true false_implies ge_iff_le gt_iff_lt inC Y9 Qu not_false_eq_true not_true_eq_false rdC XX QOy QOx QOw QAW QAV QAU QAT QAS QOv Xe true_and true_implies
def rd6 (m:Im) (nm:List UInt8) (pl:Int) (c:List In) (F:Int) (vr:Nat) (X1 X2 X4:Option Ob):List (Option Ob):=[none,X1,X2,some (.arr vr 132 (rdC m nm pl c F)),X4,none]
def mB (n vr:Nat):V:=.fn (.func n) [.ptr 3 vr 0] []
def asks (vr:Nat):List V:=[mB Z9 vr,.int .i64 220,mB YW vr,.int .i64 221,mB YE vr,.int .i64 222,mB Zl vr,.int .i64 223]
structure Ask (m:Im) (pl:Int) (c:List In) (i:Nat) (x:In):Prop where
 hx:c[i]?=some x
 hl:c.length≤1000000
 hs:m.syms.length≤1000
 hxo:QqN x
 hb:-1099511627776≤x.imm∧x.imm≤1099511627776
 hpl:0≤pl∧pl≤1099511627776
def Qyk (m:Im) (pl:Int) (c:List In) (F:Int) (i:Nat) (x:In) (k:Nat):Bool:=if k=0 then QBY x else if k=1 then Qdy c F i x else if k=2 then Zp (ats m) pl c F i x else Qk0 c F i x
def QSG (k:Nat):Int:=if k=0 then 220 else if k=1 then 221 else if k=2 then 222 else 223
variable {x:In} {X1 X2 X4:Option Ob} {i k:Nat} {c:List In} {pl F:Int} {nm:List UInt8} {m:Im}
theorem ask_k (hT:Qf Tryz.prog tab) {vr:Nat} (h:Ask m pl c i x) (hk:k<4) (t:Nat) (X6 X7:Option Ob) :
 CV Tryz.prog G0 0 ((asks vr).getD (2 * k) .any) [.int .i64 (i:Int)] ⟨t,rd6 m nm pl c F vr X1 X2 X4++[X6,X7]⟩ fun v σ=>v=.bool (Qyk m pl c F i x k)∧∃ t',t≤t'∧σ=⟨t',rd6 m nm pl c F vr X1 X2 X4++[X6,X7]⟩:=by
 match k,hk with
 | 0,_=>exact Qk2 (first:=[.ptr 3 vr 0]) (cap:=[]) hT Qcv (c_op hT h.hx h.hl)
 | 1,_=>exact Qk2 (first:=[.ptr 3 vr 0]) (cap:=[]) hT QaS (QS2 hT h.hx h.hl h.hxo)
 | 2,_=>exact Qk2 (first:=[.ptr 3 vr 0]) (cap:=[]) hT Qax (QFV hT h.hx h.hl h.hs h.hb h.hpl)
 | 3,_=>exact Qk2 (first:=[.ptr 3 vr 0]) (cap:=[]) hT Qbo (c_back hT h.hx h.hl)
theorem QSw (hk:k<4) (h0:∀ j,j<k→Qyk m pl c F i x j=true) (h1:Qyk m pl c F i x k=false):YG (ats m) pl c F i x=QSG k:=by
 unfold YG
 match k,hk with
 | 0,_=>have h1:QBY x=false:=h1; rw [if_pos h1]; rfl
 | 1,_ =>
   have e0:QBY x=true:=h0 0 (by omega)
   have h1:Qdy c F i x=false:=h1
   rw [e0,if_neg (by simp),if_pos h1]; rfl
 | 2,_ =>
   have e0:QBY x=true:=h0 0 (by omega)
   have e1:Qdy c F i x=true:=h0 1 (by omega)
   have h1:Zp (ats m) pl c F i x=false:=h1
   rw [e0,e1,if_neg (by simp),if_neg (by simp),if_pos h1]; rfl
 | 3,_ =>
   have e0:QBY x=true:=h0 0 (by omega)
   have e1:Qdy c F i x=true:=h0 1 (by omega)
   have e2:Zp (ats m) pl c F i x=true:=h0 2 (by omega)
   have h1:Qk0 c F i x=false:=h1
   rw [e0,e1,e2,if_neg (by simp),if_neg (by simp),if_neg (by simp),if_pos h1]; rfl
theorem QFC (h0:∀ j,j<4→Qyk m pl c F i x j=true):YG (ats m) pl c F i x=0:=by
 unfold YG
 have e0:QBY x=true:=h0 0 (by omega)
 have e1:Qdy c F i x=true:=h0 1 (by omega)
 have e2:Zp (ats m) pl c F i x=true:=h0 2 (by omega)
 have e3:Qk0 c F i x=true:=h0 3 (by omega)
 simp [e0,e1,e2,e3]
abbrev fkJ (m:Im) (nm:List UInt8) (pl:Int) (c:List In) (F:Int) (vr:Nat) (X1 X2 X4:Option Ob) (i ta t0:Nat) (x:In):Nat→Fr→H→Prop:=fun k fr σ=>∃ t,t0≤t∧(∀ j,j<k→Qyk m pl c F i x j=true)∧Ql fr 0=.ptr 3 vr 0∧Ql fr 1=.int .i64 (i:Int)∧Ql fr 21=.sl 6 ta 0 2 4 none∧Ql fr 22=.int .i64 4∧Ql fr 23=.int .i64 ((k:Nat):Int)∧σ=⟨t,rd6 m nm pl c F vr X1 X2 X4++[some (.arr ta 206 (asks vr))]⟩
abbrev fkE (m:Im) (nm:List UInt8) (pl:Int) (c:List In) (F:Int) (vr:Nat) (X1 X2 X4:Option Ob) (i t0:Nat) (x:In):AE→Fr→H→Prop:=fun e fr σ=>(∃ t ex,t0≤t∧σ=⟨t,rd6 m nm pl c F vr X1 X2 X4++ex⟩)∧((e=.ret∧Ql fr 4=.int .i64 (YG (ats m) pl c F i x))∨(e=.ex 0∧YG (ats m) pl c F i x=0))
theorem QFz (hT:Qf Tryz.prog tab) {vr:Nat} (h:Ask m pl c i x) {ta t0:Nat} (hk:k<4) {fr:Fr} {σ:H} (hJ:fkJ m nm pl c F vr X1 X2 X4 i ta t0 x k fr σ) :
 W Tryz.prog G0 35 0 (zg QAW [] (.seq (zw 24 .skip (.exit 0)) (.seq (.block 1 (zg QAV [25,26] (zg QAU [27,28,29,30] (zw 31 (zg QAT [32,33] .ret) .skip)))) (.reg QAS [34])))) fr σ (QgX (fun fr σ=>∃ fr' σ',Shift G0 35 0 fr σ fr' σ'∧fkJ m nm pl c F vr X1 X2 X4 i ta t0 x (k+1) fr' σ') (fkE m nm pl c F vr X1 X2 X4 i t0 x)):=by
 obtain ⟨t,ht,hno,f0,f1,f21,f22,f23,rfl⟩:=hJ
 have hq:=ask_k hT h hk (nm:=nm) (F:=F) (vr:=vr) (X1:=X1) (X2:=X2) (X4:=X4)
 have hlt:((k:Int)<4)=True:=eq_true (by omega)
 have e2:IntKind.i64.wrap ((k:Int)+1)=((k+1:Nat):Int):=by rw [Yz (by omega)]; rfl
 have hload:List.take 2 (List.drop (k * 2) (asks vr))=[(asks vr).getD (2 * k) .any,.int .i64 (QSG k)]:=by
  match k,hk with
  | 0,_=>rfl
  | 1,_=>rfl
  | 2,_=>rfl
  | 3,_=>rfl
 have hsol:QcD ((asks vr).getD (2 * k) .any)=true:=by
  match k,hk with
  | 0,_=>rfl
  | 1,_=>rfl
  | 2,_=>rfl
  | 3,_=>rfl
 have hone:Am.QB3 ((asks vr).getD (2 * k) .any)=true:=by
  match k,hk with
  | 0,_=>rfl
  | 1,_=>rfl
  | 2,_=>rfl
  | 3,_=>rfl
 have hal:(asks vr).length=8:=rfl
 have hk2:(k * 2+2≤8)=True:=eq_true (by omega)
 generalize (asks vr).getD (2 * k) .any=fv at *
 refine Qt [(0,.ptr 3 vr 0),(1,.int .i64 (i:Int)),(21,.sl 6 ta 0 2 4 none),(22,.int .i64 4),(23,.int .i64 ((k:Nat):Int))] ⟨f0,f1,f21,f22,f23,trivial⟩  12 ?_
 simp -implicitDefEqProofs (disch:=omega) only [go_sem,↓reduceIte,reduceCtorEq,rq,rd6,hlt]
 have hso1:ones [fv,V.int .i64 (QSG k)]:=by
  intro u hu
  simp only [List.mem_cons,List.not_mem_nil,or_false] at hu
  rcases hu with rfl | rfl
  ·exact hone
  ·rfl
 refine Qa 12 ?_
 simp -implicitDefEqProofs (disch:=omega) only [go_sem,↓reduceIte,reduceCtorEq,rA,rq,rL,hload,hal,hk2,hso1,vo2]
 have hsb:∀ Y,XT (rd6 m nm pl c F vr X1 X2 X4++[some (.arr ta 206 (asks vr))]) (rd6 m nm pl c F vr X1 X2 X4++[some (.arr ta 206 (asks vr)),Y]):=fun Y=>Z7 7 (rd6 m nm pl c F vr X1 X2 X4++[some (.arr ta 206 (asks vr)),Y])
 simp only [rd6,rdC,Y9,Xe,Xs,inC,cA,nA] at hq
 refine CV.use 12 (hq _ _ _) fun v σ hv=>?_
 obtain ⟨rfl,t2,ht2,rfl⟩:=hv
 cases hb:Qyk m pl c F i x k with
 | false =>
   refine ya ?_
   iterate 4 (try (refine Qa 4 ?_; simp -implicitDefEqProofs (disch:=omega) only [go_sem]))
   refine ⟨⟨t2,_,by omega,rfl⟩,?_⟩
   rw [QSw hk hno hb]
   exact .inl ⟨rfl,rfl⟩
 | true =>
   refine ya ?_
   iterate 4 (try (refine Qa 4 ?_; simp -implicitDefEqProofs (disch:=omega) only [go_sem,↓reduceIte,reduceCtorEq,rA,rq,rL,rT,Nat.reduceSub,Nat.reduceMul,Int.reduceToNat,Int.reduceLE,Int.reduceLT,Int.reduceEq,Int.reduceNe,Nat.reduceBEq,Nat.reduceBNe,Int.reduceBEq,Int.reduceBNe,rd6]))
   refine ⟨_,_,Shift.drop (o':=rd6 m nm pl c F vr X1 X2 X4++[some (.arr ta 206 (asks vr))]) (t':=t2) (hsb _) (lR _) (zL _),t2,by omega,fun j hj=>?_,?_⟩
   ·rcases Nat.lt_or_ge j k with h | h
    ·exact hno j h
    ·rw [show j=k by omega]; exact hb
   ·simp -implicitDefEqProofs (disch:=omega) only [go_sem,↓reduceIte,reduceCtorEq,rq,rd6,e2]
theorem QS7 (hT:Qf Tryz.prog tab) {vr t:Nat} (h:Ask m pl c i x) :
 C Tryz.prog G0 0 QaZ [.ptr 3 vr 0,.int .i64 (i:Int)] ⟨t,rd6 m nm pl c F vr X1 X2 X4⟩ fun v σ=>v=.int .i64 (YG (ats m) pl c F i x)∧∃ t',t≤t'∧σ=⟨t',rd6 m nm pl c F vr X1 X2 X4⟩:=by
 have ho:ones (asks vr):=by
  intro u hu
  simp only [asks,mB,List.mem_cons,List.not_mem_nil,or_false] at hu
  rcases hu with rfl | rfl | rfl | rfl | rfl | rfl | rfl | rfl <;> rfl
 refine Qi 6 (zL _) (Qk hT QaU (by simp [XX]) (Qg 60 ?_))
 simp -implicitDefEqProofs (disch:=omega) only [go_sem,↓reduceIte,reduceCtorEq,rA,rq,rL,rd6,H.push]
 refine ZJ [(0:Nat),1,2,3] (fkJ m nm pl c F vr X1 X2 X4 i t t x) (fkE m nm pl c F vr X1 X2 X4 i t x) ⟨t+1,by omega,fun j hj=>absurd hj (Nat.not_lt_zero j),?_⟩ (fun k a ha fr σ hJ=>?_) (fun k hk fr σ hJ=>?_) (fun e fr σ hE=>?_)
 ·simp -implicitDefEqProofs (disch:=omega) only [go_sem,↓reduceIte,reduceCtorEq,rq,rd6]
  exact ⟨rfl,rfl,rfl⟩
 ·have hk:=(List.getElem?_eq_some_iff.1 ha).1
  exact QFz hT h hk hJ
 ·obtain ⟨t2,ht2,hno,f0,f1,f21,f22,f23,rfl⟩:=hJ
  obtain rfl:k=4:=hk
  have h44:(((4:Nat):Int)<4)=False:=eq_false (by decide)
  refine Qt [(0,.ptr 3 vr 0),(1,.int .i64 (i:Int)),(21,.sl 6 t 0 2 4 none),(22,.int .i64 4),(23,.int .i64 ((4:Nat):Int))] ⟨f0,f1,f21,f22,f23,trivial⟩  12 ?_
  simp -implicitDefEqProofs (disch:=omega) only [go_sem,↓reduceIte,reduceCtorEq,rq,rd6,h44]
  exact ⟨⟨t2,_,ht2,rfl⟩,.inr ⟨rfl,QFC hno⟩⟩
 ·obtain ⟨⟨t2,ex,ht2,rfl⟩,hE⟩:=hE
  rcases hE with ⟨rfl,f4⟩ | ⟨rfl,h0⟩
  ·refine Qa 12 ?_
   simp -implicitDefEqProofs (disch:=omega) only [go_sem,rL,rd6,f4]
   exact ⟨t2,ht2,rfl⟩
  ·refine Qa 12 ?_
   simp -implicitDefEqProofs (disch:=omega) only [go_sem,↓reduceIte,rL,rd6,h0]
   exact ⟨t2,ht2,rfl⟩
end
end Go.Proofs.YtbdhjeojcpgblaaGreatDoor
namespace Go.Rg
open Go Go.Am Go.Rv
set_option maxRecDepth 100000
variable {w:Int}
theorem QP1 (h:0≤w) (a m:Nat):0≤fld w a m∧fld w a m<2 ^ m:=by
 unfold fld
 have hp:(0:Int)<2 ^ m:=Int.pow_pos (by decide)
 exact ⟨Int.emod_nonneg _ (by omega),Int.emod_lt_of_pos _ hp⟩
theorem Qry {n:Int} {b:Nat} {B:Int} (h0:0≤n) (h1:n<B) (hb:(2:Int) ^ b≤B):-B≤sgn n b∧sgn n b≤B:=by
 have hp:(0:Int)<2 ^ b:=Int.pow_pos (by decide)
 unfold sgn
 split <;> omega
theorem QB9 (h0:0≤w) (f:Int):-8589934592≤number w f∧number w f≤8589934592:=by
 unfold number
 have q:=fun a m=>QP1 h0 a m
 split
 ·have:=q 20 12
  have:=Qry (B:=8589934592) this.1 (by have:=this.2; omega) (b:=12) (by decide)
  omega
 split
 ·have:=q 20 6; omega
 split
 ·have:=q 20 5; omega
 split
 ·have h1:=q 25 7; have h2:=q 7 5
  have:=Qry (n:=fld w 25 7 * 32+fld w 7 5) (B:=8589934592) (by omega) (by omega) (b:=12) (by decide)
  omega
 split
 ·have h1:=q 31 1; have h2:=q 7 1; have h3:=q 25 6; have h4:=q 8 4
  have:=Qry (n:=fld w 31 1 * 4096+fld w 7 1 * 2048+fld w 25 6 * 32+fld w 8 4 * 2) (B:=8589934592) (by omega) (by omega) (b:=13) (by decide)
  omega
 split
 ·have h1:=q 12 20
  have:=Qry (n:=fld w 12 20 * 4096) (B:=8589934592) (by omega) (by omega) (b:=32) (by decide)
  omega
 split
 ·have h1:=q 31 1; have h2:=q 12 8; have h3:=q 20 1; have h4:=q 21 10
  have:=Qry (n:=fld w 31 1 * 1048576+fld w 12 8 * 4096+fld w 20 1 * 2048+fld w 21 10 * 2) (B:=8589934592) (by omega) (by omega) (b:=21) (by decide)
  omega
 ·omega
theorem QQi (h0:0≤w) {x:In} (h:dec w=some x):((0≤x.op∧x.op≤255)∧(0≤x.rd∧x.rd≤255)∧(0≤x.rs1∧x.rs1≤255)∧(0≤x.rs2∧x.rs2≤255))∧(-8589934592≤x.imm∧x.imm≤8589934592):=by
 obtain ⟨k,r,hk,_,rfl⟩:=Qpb h
 have hkl:=(List.getElem?_eq_some_iff.1 hk).1
 rw [QoD] at hkl
 have q:=fun a=>QP1 h0 a 5
 refine ⟨⟨?_,?_,?_,?_⟩,QB9 h0 _⟩
 ·simp only [Rv.mk]; omega
 ·simp only [Rv.mk]; split
  ·have:=q 7; omega
  ·omega
 ·simp only [Rv.mk]; split
  ·have:=q 15; omega
  ·omega
 ·simp only [Rv.mk]; split
  ·have:=q 20; omega
  ·omega
end Go.Rg
namespace Go.Proofs.YtbdhjeojcpgblaaGreatDoor
open Go Go.Am Go.Rv Go.Rg
set_option maxRecDepth 100000
variable {P:Program} {G:Nat→Option V}
section
attribute [local go_sem] nT lM nA lR zA zL V.cells and_true Xs decide_false decide_true false_implies ge_iff_le Qbx zqy_0 zqy_1 zqy_2 zqy_3 zqy_4 zqy_5 zqy_6 QbF QhI Qu Xe true_implies
theorem QPW (m:Im):Qb [QhI m]=true:=by simp [QhI,QbF,Xe,Xs,Qb,Qd]
variable {s:List UInt8 × Int} {n:Nat}
theorem QvN {m:Im} (h:m.syms[n]?=some s):(m.syms.map Qn8).getD n V.any=Qn8 s:=by simp [List.getD_eq_getElem?_getD,h]
theorem QF7 (hT:Qf P tab) (m:Im) (hm:ImB m) (hr:right m=true) (hs:m.syms[n]?=some s):Am.Pure P G Qhr [QhI m,.int .i64 (n:Int)] fun v=>v=.tup [.int .i64 (from_ m n),.int .i64 (to_ m n)]:=by
 intro t
 have hR:=Qpl (P:=P) (G:=G) hT m hm
 rw [hr] at hR
 have hnl:=QPW m
 have hlt:=(List.getElem?_eq_some_iff.1 hs).1
 have hsl:=hm.s
 have hcl:=hm.c
 have hD:=QvN hs
 have w1:IntKind.i64.wrap ((n:Int)+1)=((n+1:Nat):Int):=by rw [Yz (by omega)]; rfl
 have w4:IntKind.i64.wrap (4 * (m.code.length:Int))=4 * (m.code.length:Int):=Yz (by omega)
 have h0:¬ ((n:Int)<0):=by omega
 have h0':decide ((n:Int)<0)=false:=decide_eq_false h0
 have h1:¬ (m.syms.length≤n):=by omega
 have h1':decide ((m.syms.length:Int)≤(n:Int))=false:=decide_eq_false (by omega)
 have hf:from_ m n=s.2:=by unfold from_ ats; simp [List.getD_eq_getElem?_getD,hs]
 simp only [QhI,QbF,Xe,Xs] at hR hnl
 simp only [Qn8] at hD
 refine Qi 0 (zL _) (Qk hT Qhf (by simp [Qbx]) (Qg 12 ?_))
 refine ya ?_
 refine Qj hT Qcc hR hnl 4 ?_
 refine ya ?_
 iterate 4 (try (refine Qa 4 ?_; simp -implicitDefEqProofs (disch:=omega) only [go_sem,↓reduceIte,reduceCtorEq,rA,rq,rL,h0,h1]))
 cases hs2:m.syms[n+1]? with
 | some s2 =>
   have hlt2:=(List.getElem?_eq_some_iff.1 hs2).1
   have hD2:=QvN hs2
   simp only [Qn8] at hD2
   have h2':decide (((n+1:Nat):Int)<(m.syms.length:Int))=true:=decide_eq_true (by omega)
   have ht:to_ m n=s2.2:=by unfold to_ ats; rw [if_pos hlt2]; simp [List.getD_eq_getElem?_getD,hs2]
   rw [hf,ht]
   iterate 12 (try (refine Qa 4 ?_; simp -implicitDefEqProofs (disch:=omega) only [go_sem,↓reduceIte,reduceCtorEq,rA,rq,rL,w1,w4,hlt2,hlt,hD,hD2]))
 | none =>
   have hlt2:¬ (n+1<m.syms.length):=by have:=List.getElem?_eq_none_iff.1 hs2; omega
   have h2':decide (((n+1:Nat):Int)<(m.syms.length:Int))=false:=decide_eq_false (by omega)
   have ht:to_ m n=4 * (m.code.length:Int):=by unfold to_; rw [if_neg hlt2]
   rw [hf,ht]
   iterate 12 (try (refine Qa 4 ?_; simp -implicitDefEqProofs (disch:=omega) only [go_sem,↓reduceIte,reduceCtorEq,rA,rq,rL,w1,w4,hlt2,hlt,hD]))
end
end Go.Proofs.YtbdhjeojcpgblaaGreatDoor
namespace Go.Proofs.YtbdhjeojcpgblaaGreatDoor
open Go Go.Am Go.Rv
set_option maxRecDepth 100000
variable {P:Program} {G:Nat→Option V}
section
attribute [local go_sem] aZ lR Nat.succ_ne_zero zA Nat.zero_mul decide_false decide_true Qu Qbr QMS QMR QP QM0 QMZ QMY QMX QMW QMV QMU QMT
def hD (tb:List V) (b v1 v2:Nat) (w:Int):List (Option Ob):=[some (.arr b 108 [.int .u32 w]),some (.arr v1 70 [.int .u8 0,.int .u8 0,.int .u8 0,.int .u8 0,.int .i64 0]),some (.arr v2 196 tb)]
variable {base b v1 v2 t:Nat} {tb:List V}
theorem c_S1 (hT:Qf P tab) (w:Int) (a0 a1 a2 a5 q:Bool) (y:Nat) (L:List V) (a4:Int) (a7:List UInt8) (m k:Int) (hb:base≤3) :
 C P G base Qhp [.agg [.bool a0,.bool a1,.bool a2,.lst y L q,.int .i64 a4,.bool a5,.int .u32 m,.str a7,.int .u32 k],.ptr 0 b 0] ⟨t,hD tb b v1 v2 w⟩ fun v σ=>v=.bool (decide (m≠0)&&(Qcb .u32 w m==k))∧∃ t',t≤t'∧σ=⟨t',hD tb b v1 v2 w⟩:=by
 refine Qi 3 hb (Qk hT Qdv (by simp [Qbr]) (Qg 12 ?_))
 cases hm:(m != 0) with
 | true =>
   simp -implicitDefEqProofs (disch:=omega) only [go_sem,↓reduceIte,reduceCtorEq,rA,rq,rL,hD,hm]
   refine Qa 2 ?_
   refine ya ?_
   refine Qa 2 ?_
   refine ya ?_
   refine Qa 2 ?_
   refine ya ?_
   refine Qa 2 ?_
   refine ya ?_
   refine Qa 2 ?_
   refine ya ?_
   refine Qa 1000 ?_
   refine ya ?_
   refine ⟨?_,_,?_,rfl⟩
   ·have:m≠0:=by simpa using hm
    simp only [this,not_false_eq_true,decide_true,Bool.true_and]
   ·omega
 | false =>
   simp -implicitDefEqProofs (disch:=omega) only [go_sem,↓reduceIte,reduceCtorEq,rA,rq,rL,hD,hm]
   refine Qa 2 ?_
   refine ya ?_
   refine Qa 2 ?_
   refine ya ?_
   refine Qa 2 ?_
   refine ya ?_
   refine Qa 2 ?_
   refine ya ?_
   refine Qa 2 ?_
   refine ya ?_
   refine Qa 1000 ?_
   refine ya ?_
   refine ⟨?_,_,?_,rfl⟩
   ·have:m=0:=by simpa using hm
    simp only [this,not_true_eq_false,decide_false,Bool.false_and]
   ·omega
structure TbOk (tb:List V):Prop where
 len:tb.length=594
 get:∀ k,k<66→(tb.drop (k * 9)).take 9=if k=0 then zeroC else Qoa (T.getD (k - 1) ⟨0,[],0,0,0⟩)
 ones:ones tb
theorem tbOk:TbOk tabC:=⟨Qpz,fun k hk=>Qv8 ⟨k,hk⟩,Qmv⟩
def hitP (w j:Int):Prop:=(j=-1∧first w 0 T=none)∨∃ k r,j=((k+1:Nat):Int)∧T[k]?=some r∧is w r=true∧first w 0 T=some (Rv.mk k r w)
theorem QRE {w:Int} (h0:0≤w) (h1:w<4294967296) {i:Nat} (h:1≤i) (hi:i<66) {r:RR} (hr:T[i - 1]?=some r):(decide (Qb8 r.form≠0)&&(Qcb .u32 w (Qb8 r.form)==Yy r))=is w r:=by
 have hg:=QnV r (List.mem_of_getElem? hr)
 have hm:Qb8 r.form≠0:=by
  unfold Qb8
  split
  ·decide
  split
  ·decide
  split
  ·decide
  split <;> decide
 have:=QSb hg h0 h1
 rw [decide_eq_true hm,Bool.true_and]
 rw [Bool.eq_iff_iff,beq_iff_eq]
 exact this
theorem Qvw (hT:Qf P tab) (htb:TbOk tb) (w:Int) (h0:0≤w) (h1:w<4294967296) (lim:Option Nat) (hb:base≤3) :
 C P G base Yq [.sl 2 v2 0 9 66 lim,.fn (.func 116) [] [.ptr 0 b 0]] ⟨t,hD tb b v1 v2 w⟩ fun v σ=>∃ j,v=.int .i64 j∧hitP w j∧∃ t',t≤t'∧σ=⟨t',hD tb b v1 v2 w⟩:=by
 have hl:=htb.len
 refine Qk hT Yp (by simp [QP]) (Qg 1000 ?_)
 simp -implicitDefEqProofs (disch:=omega) only [go_sem,↓reduceIte,reduceCtorEq,rq,hD]
 refine Qdm (fun n fr σ=>∃ i t',i≤66∧n=66 - i∧(∀ j r,j+1<i→T[j]?=some r→is w r=false)∧t≤t'∧Ql fr 0=.sl 2 v2 0 9 66 lim∧Ql fr 1=.fn (.func 116) [] [.ptr 0 b 0]∧Ql fr 7=.int .i64 ((66:Nat):Int)∧Ql fr 8=.int .i64 i∧σ=⟨t',hD tb b v1 v2 w⟩)
  (fun e fr σ=>∃ t',t≤t'∧σ=⟨t',hD tb b v1 v2 w⟩∧((e=.ret∧∃ j,Ql fr 4=.int .i64 j∧hitP w j)∨(e=.ex 0∧first w 0 T=none)))
  (m0:=66) ⟨0,t,by omega,rfl,fun j r h=>by omega,by omega,?_⟩ (fun n fr σ hJ=>?_) (fun e fr σ hE=>?_)
 ·simp -implicitDefEqProofs (disch:=omega) only [go_sem,↓reduceIte,reduceCtorEq,rq,hD]
  rfl
 ·obtain ⟨i,t',hi,rfl,hno,ht,f0,f1,f7,f8,rfl⟩:=hJ
  refine Qg 1000 ?_
  rcases Nat.lt_or_ge i 66 with hlt | hge
  ·have hg:=htb.get i hlt
   have e2:=QfB hlt (by omega)
   simp -implicitDefEqProofs (disch:=omega) only [go_sem,↓reduceIte,reduceCtorEq,rq,hD,f0,f1,f7,f8,hlt]
   rw [hg]
   rcases Nat.eq_zero_or_pos i with hz | hp
   ·subst hz
    rw [if_pos rfl,zeroC]
    have hc:=c_S1 (P:=P) (G:=G) hT (tb:=tb) (base:=base) (b:=b) (v1:=v1) (v2:=v2) (t:=t') w false false false false true 0 [] 0 [] 0 0 hb
    simp only [hD] at hc
    refine Qyf hT Qdv hc 1000 fun v σ hv=>?_
    obtain ⟨rfl,t2,ht2,rfl⟩:=hv
    refine yx ?_
    refine ⟨66 - (0+1),_,_,by omega,Shift.refl _ _ _ _,0+1,t2,by omega,rfl,fun j r h=>by omega,by omega,?_⟩
    simp -implicitDefEqProofs (disch:=omega) only [go_sem,↓reduceIte,reduceCtorEq,rq,f0,f1,f7]
    rfl
   ·obtain ⟨r,hr⟩:∃ r,T[i - 1]?=some r:=⟨_,List.getElem?_eq_getElem (by rw [QoD]; omega)⟩
    obtain ⟨y,hy,_⟩:=Qep (bitsOf r.form)
    have hgd:T.getD (i - 1) ⟨0,[],0,0,0⟩=r:=by rw [List.getD_eq_getElem?_getD,hr]; rfl
    rw [if_neg (by omega),hgd]
    simp only [Qoa,Qno,hy,cA,nA]
    have hc:=c_S1 (P:=P) (G:=G) hT (tb:=tb) (base:=base) (b:=b) (v1:=v1) (v2:=v2) (t:=t') w (Zt r.form) (Qao r.form) (QaO r.form) (Qnl r.form) true y ((bitsOf r.form).map fun b=>pr b.1 b.2) (Qd6 r.form) r.name (Qb8 r.form) (Yy r) hb
    rw [QRE h0 h1 hp hlt hr] at hc
    simp only [hD] at hc
    refine Qyf hT Qdv hc 1000 fun v σ hv=>?_
    obtain ⟨rfl,t2,ht2,rfl⟩:=hv
    cases his:is w r with
    | true =>
      refine ya ?_
      refine ⟨t2,by omega,rfl,i,rfl,.inr ⟨i - 1,r,by congr 1; omega,hr,his,?_⟩⟩
      have:=Qqa h0 h1 (i:=0) QnV QD0 hr his
      rwa [zA] at this
    | false =>
      refine yx ?_
      refine ⟨66 - (i+1),_,_,by omega,Shift.refl _ _ _ _,i+1,t2,by omega,rfl,fun j s hj hs=>?_,by omega,?_⟩
      ·by_cases hji:j=i - 1
       ·subst hji; rw [hr] at hs; cases hs; exact his
       ·exact hno j s (by omega) hs
      ·simp -implicitDefEqProofs (disch:=omega) only [go_sem,↓reduceIte,reduceCtorEq,rq,f0,f1,f7,e2]
  ·have hi:i=66:=by omega
   subst hi
   simp -implicitDefEqProofs (disch:=omega) only [go_sem,↓reduceIte,reduceCtorEq,rq,Nat.reduceSub,f7,f8,Nat.lt_irrefl]
   refine ⟨t',by omega,rfl,Qpc fun r hr=>?_⟩
   obtain ⟨j,hj⟩:=List.mem_iff_getElem?.1 hr
   have hjl:=(List.getElem?_eq_some_iff.1 hj).1
   rw [QoD] at hjl
   exact hno j r (by omega) hj
 ·obtain ⟨t',ht,rfl,hE⟩:=hE
  rcases hE with ⟨rfl,j,f4,hh⟩ | ⟨rfl,hh⟩
  ·refine Qa 1000 ?_
   refine yv ?_
   exact ⟨j,rfl,hh,t',ht,rfl,rfl⟩
  ·refine Qa 1000 ?_
   refine ya ?_
   exact ⟨-1,rfl,.inl ⟨rfl,hh⟩,t',ht,rfl,rfl⟩
end
end Go.Proofs.YtbdhjeojcpgblaaGreatDoor
