/- The law ClauseModels: what is asked of one model. -/
import Derived.Test.YtingdebioipemaaGreatDoorJ12
import Derived.Test.YtingdebioipemaaGreatDoorJ4
import Derived.Test.YtingdebioipemaaGreatDoorJ11
import Derived.Test.YtingdebioipemaaGreatDoorJ10
open Nat renaming reduceEqDiff → rq, reduceAdd → rA, reduceLeDiff → rL, reduceLT → rT, zero_add → zA, le_refl → lR, zero_le → zL, add_zero → aZ
open List renaming length_cons → lC, length_nil → lN, take_succ_cons → tS, length_append → lAq, nil_append → nAq, cons_append → cAq, append_assoc → aA, take_nil → tN, take_zero → tZ, length_map → lM
open Bool renaming not_false → nFq, not_true → nT
namespace Go.Proofs.YtingdebioipemaaGreatDoor
open Go Go.Am Go.Cl
set_option maxRecDepth 100000
variable {P:Program} {G:Nat→Option V}
section
attribute [local go_sem] nFq nT cAq lC lM lN nAq aZ lR Nat.mul_one Nat.one_mul Nat.succ_ne_zero zA zL Nat.zero_mul Option.getD_none Option.getD_some Option.isSome_none Option.isSome_some and_true beq_self_eq_true bne_self_eq_false decide_false decide_true false_implies ge_iff_le gt_iff_lt Qe mH Qt not_false_eq_true not_true_eq_false QA QzU QzT QpB Qnq Qnp Qno Qi9 Qi8 Qi7 Qnn QkN QkM QzS QkL QkK Qnm QpA QzR QzQ QzP QzO QzN QzM QzL true_and true_implies
variable {fr:Fr} {m:List Bool} {ok can made:Bool} {xa xb:V} {L l c:List Int} {F A:List (List Int)} {w:Int} {t tf tl v M:Nat}
theorem st_A (hT:Qn P tab) {a b:List Int} {h h2 e2:Bool}
 (cE1:h=true→can=true∧Pure P G Q9 [.lst 1 (ints l) false,.lst 1 (m.map V.bool) false] fun u=>u=.bool true)
 (cE2:ok=true→Pure P G Q9 [.lst 1 (ints L) false,.lst 1 (m.map V.bool) false] fun u=>u=.bool e2)
 (cH2:Pure P G QbC [.agg [.int .i64 w,.lst 1 (A.map row) false],.lst 1 (m.map V.bool) false] fun u=>u=.bool h2) (hh:ok=true→e2=true→h2=h)
 (hfr:Qi fr 1=.lst 1 (ints L) false∧Qi fr 5=.ptr 0 tf 0∧Qi fr 11=.ptr 1 tl 0∧Qi fr 12=.bool ok∧Qi fr 13=.lst 1 (ints l) false∧Qi fr 14=.bool can∧Qi fr 15=xa∧Qi fr 16=xb∧Qi fr 17=.lst 1 (ints c) false∧Qi fr 18=.bool made∧Qi fr 19=.int .i64 ((M:Nat):Int)∧Qi fr 20=.lst 1 (m.map V.bool) false∧Qi fr 22=.bool h) :
 W P G 153 0 (zg QkN [109,110,111,112,113,114,115,116,117,118,119,120,121,122,123,124,125,126,127,128,129,130,131,132,133] (zw 134 (zg QkM [] .ret) .skip)) fr ⟨t,mH tf tl v w F A++[none]⟩ fun e fr σ=>e=.nrm∧Qi fr 1=.lst 1 (ints L) false∧Qi fr 5=.ptr 0 tf 0∧Qi fr 11=.ptr 1 tl 0∧Qi fr 12=.bool ok∧Qi fr 13=.lst 1 (ints l) false∧Qi fr 14=.bool can∧Qi fr 15=xa∧Qi fr 16=xb∧Qi fr 17=.lst 1 (ints c) false∧Qi fr 18=.bool made∧Qi fr 19=.int .i64 ((M:Nat):Int)∧Qi fr 20=.lst 1 (m.map V.bool) false∧σ=⟨t,mH tf tl v w F A++[none]⟩:=by
 obtain ⟨f1,f5,f11,f12,f13,f14,f15,f16,f17,f18,f19,f20,f22⟩:=hfr
 have nFm:Qb [V.agg [.int .i64 v,.lst 1 (F.map row) false],.lst 1 (m.map V.bool) false]=true:=by simp [Qb,Qd]
 have nAm:Qb [V.agg [.int .i64 w,.lst 1 (A.map row) false],.lst 1 (m.map V.bool) false]=true:=by simp [Qb,Qd]
 have nlm:Qb [V.lst 1 (ints l) false,.lst 1 (m.map V.bool) false]=true:=by simp [Qb,Qd]
 have nLm:Qb [V.lst 1 (ints L) false,.lst 1 (m.map V.bool) false]=true:=by simp [Qb,Qd]
 have eh:(h != h)=false:=by cases h <;> rfl
 cases h with
 | true =>
   obtain ⟨hcan,cE⟩:=cE1 rfl
   subst hcan
   cases ok with
   | false =>
     refine Qh [(1,.lst 1 (ints L) false),(5,.ptr 0 tf 0),(11,.ptr 1 tl 0),(12,.bool false),(13,.lst 1 (ints l) false),(14,.bool true),(15,xa),(16,xb),(17,.lst 1 (ints c) false),(18,.bool made),(19,.int .i64 ((M:Nat):Int)),(20,.lst 1 (m.map V.bool) false),(22,.bool true)] ⟨f1,f5,f11,f12,f13,f14,f15,f16,f17,f18,f19,f20,f22,trivial⟩  3 ?_
     simp -implicitDefEqProofs (disch:=omega) only [go_sem,↓reduceIte,rq]
     iterate 14 (try (refine Qc 3 ?_; simp -implicitDefEqProofs (disch:=omega) only [go_sem,↓reduceIte,rA,rq]))
     refine Qj hT QB cE nlm 3 ?_
     simp -implicitDefEqProofs (disch:=omega) only [go_sem,↓reduceIte,rA,rq]
     iterate 14 (try (refine Qc 3 ?_; simp -implicitDefEqProofs (disch:=omega) only [go_sem,↓reduceIte,rA,rq]))
     try iterate 14 (try (refine Qc 3 ?_; simp -implicitDefEqProofs (disch:=omega) only [go_sem,↓reduceIte,reduceCtorEq,rA,rq,rL,rT,Nat.reduceSub,Nat.reduceMul,Int.reduceToNat,Int.reduceLE,Int.reduceLT,Int.reduceEq,Int.reduceNe,Nat.reduceBEq,Nat.reduceBNe,Int.reduceBEq,Int.reduceBNe]))
   | true =>
     have cE2:=cE2 rfl
     cases e2 with
     | false =>
       refine Qh [(1,.lst 1 (ints L) false),(5,.ptr 0 tf 0),(11,.ptr 1 tl 0),(12,.bool true),(13,.lst 1 (ints l) false),(14,.bool true),(15,xa),(16,xb),(17,.lst 1 (ints c) false),(18,.bool made),(19,.int .i64 ((M:Nat):Int)),(20,.lst 1 (m.map V.bool) false),(22,.bool true)] ⟨f1,f5,f11,f12,f13,f14,f15,f16,f17,f18,f19,f20,f22,trivial⟩  3 ?_
       simp -implicitDefEqProofs (disch:=omega) only [go_sem,↓reduceIte,rq]
       iterate 14 (try (refine Qc 3 ?_; simp -implicitDefEqProofs (disch:=omega) only [go_sem,↓reduceIte,rA,rq]))
       refine Qj hT QB cE nlm 3 ?_
       simp -implicitDefEqProofs (disch:=omega) only [go_sem,↓reduceIte,rA,rq]
       iterate 14 (try (refine Qc 3 ?_; simp -implicitDefEqProofs (disch:=omega) only [go_sem,↓reduceIte,rA,rq]))
       refine Qj hT QB cE2 nLm 3 ?_
       simp -implicitDefEqProofs (disch:=omega) only [go_sem,↓reduceIte,rA,rq]
       iterate 14 (try (refine Qc 3 ?_; simp -implicitDefEqProofs (disch:=omega) only [go_sem,↓reduceIte,rA,rq]))
       try iterate 14 (try (refine Qc 3 ?_; simp -implicitDefEqProofs (disch:=omega) only [go_sem,↓reduceIte,reduceCtorEq,rA,rq,rL,rT,Nat.reduceSub,Nat.reduceMul,Int.reduceToNat,Int.reduceLE,Int.reduceLT,Int.reduceEq,Int.reduceNe,Nat.reduceBEq,Nat.reduceBNe,Int.reduceBEq,Int.reduceBNe]))
     | true =>
       have hh:=hh rfl rfl
       subst hh
       refine Qh [(1,.lst 1 (ints L) false),(5,.ptr 0 tf 0),(11,.ptr 1 tl 0),(12,.bool true),(13,.lst 1 (ints l) false),(14,.bool true),(15,xa),(16,xb),(17,.lst 1 (ints c) false),(18,.bool made),(19,.int .i64 ((M:Nat):Int)),(20,.lst 1 (m.map V.bool) false),(22,.bool true)] ⟨f1,f5,f11,f12,f13,f14,f15,f16,f17,f18,f19,f20,f22,trivial⟩  3 ?_
       simp -implicitDefEqProofs (disch:=omega) only [go_sem,↓reduceIte,rq]
       iterate 14 (try (refine Qc 3 ?_; simp -implicitDefEqProofs (disch:=omega) only [go_sem,↓reduceIte,rA,rq]))
       refine Qj hT QB cE nlm 3 ?_
       simp -implicitDefEqProofs (disch:=omega) only [go_sem,↓reduceIte,rA,rq]
       iterate 14 (try (refine Qc 3 ?_; simp -implicitDefEqProofs (disch:=omega) only [go_sem,↓reduceIte,rA,rq]))
       refine Qj hT QB cE2 nLm 3 ?_
       simp -implicitDefEqProofs (disch:=omega) only [go_sem,↓reduceIte,rA,rq]
       iterate 14 (try (refine Qc 3 ?_; simp -implicitDefEqProofs (disch:=omega) only [go_sem,↓reduceIte,reduceCtorEq,rA,rq]))
       refine Qj hT YY cH2 nAm 3 ?_
       simp -implicitDefEqProofs (disch:=omega) only [go_sem,↓reduceIte,rA,rq]
       iterate 14 (try (refine Qc 3 ?_; simp -implicitDefEqProofs (disch:=omega) only [go_sem,↓reduceIte,rq]))
       try iterate 14 (try (refine Qc 3 ?_; simp -implicitDefEqProofs (disch:=omega) only [go_sem,↓reduceIte,reduceCtorEq,rA,rq,rL,rT,Nat.reduceSub,Nat.reduceMul,Int.reduceToNat,Int.reduceLE,Int.reduceLT,Int.reduceEq,Int.reduceNe,Nat.reduceBEq,Nat.reduceBNe,Int.reduceBEq,Int.reduceBNe]))
 | false =>
   cases ok with
   | false =>
     refine Qh [(1,.lst 1 (ints L) false),(5,.ptr 0 tf 0),(11,.ptr 1 tl 0),(12,.bool false),(13,.lst 1 (ints l) false),(14,.bool can),(15,xa),(16,xb),(17,.lst 1 (ints c) false),(18,.bool made),(19,.int .i64 ((M:Nat):Int)),(20,.lst 1 (m.map V.bool) false),(22,.bool false)] ⟨f1,f5,f11,f12,f13,f14,f15,f16,f17,f18,f19,f20,f22,trivial⟩  3 ?_
     simp -implicitDefEqProofs (disch:=omega) only [go_sem,↓reduceIte,rq]
     iterate 14 (try (refine Qc 3 ?_; simp -implicitDefEqProofs (disch:=omega) only [go_sem,↓reduceIte,rA,rq]))
     try iterate 14 (try (refine Qc 3 ?_; simp -implicitDefEqProofs (disch:=omega) only [go_sem,↓reduceIte,reduceCtorEq,rA,rq,rL,rT,Nat.reduceSub,Nat.reduceMul,Int.reduceToNat,Int.reduceLE,Int.reduceLT,Int.reduceEq,Int.reduceNe,Nat.reduceBEq,Nat.reduceBNe,Int.reduceBEq,Int.reduceBNe]))
   | true =>
     have cE2:=cE2 rfl
     cases e2 with
     | false =>
       refine Qh [(1,.lst 1 (ints L) false),(5,.ptr 0 tf 0),(11,.ptr 1 tl 0),(12,.bool true),(13,.lst 1 (ints l) false),(14,.bool can),(15,xa),(16,xb),(17,.lst 1 (ints c) false),(18,.bool made),(19,.int .i64 ((M:Nat):Int)),(20,.lst 1 (m.map V.bool) false),(22,.bool false)] ⟨f1,f5,f11,f12,f13,f14,f15,f16,f17,f18,f19,f20,f22,trivial⟩  3 ?_
       simp -implicitDefEqProofs (disch:=omega) only [go_sem,↓reduceIte,rq]
       iterate 14 (try (refine Qc 3 ?_; simp -implicitDefEqProofs (disch:=omega) only [go_sem,↓reduceIte,rA,rq]))
       refine Qj hT QB cE2 nLm 3 ?_
       simp -implicitDefEqProofs (disch:=omega) only [go_sem,↓reduceIte,rA,rq]
       iterate 14 (try (refine Qc 3 ?_; simp -implicitDefEqProofs (disch:=omega) only [go_sem,↓reduceIte,rA,rq]))
       try iterate 14 (try (refine Qc 3 ?_; simp -implicitDefEqProofs (disch:=omega) only [go_sem,↓reduceIte,reduceCtorEq,rA,rq,rL,rT,Nat.reduceSub,Nat.reduceMul,Int.reduceToNat,Int.reduceLE,Int.reduceLT,Int.reduceEq,Int.reduceNe,Nat.reduceBEq,Nat.reduceBNe,Int.reduceBEq,Int.reduceBNe]))
     | true =>
       have hh:=hh rfl rfl
       subst hh
       refine Qh [(1,.lst 1 (ints L) false),(5,.ptr 0 tf 0),(11,.ptr 1 tl 0),(12,.bool true),(13,.lst 1 (ints l) false),(14,.bool can),(15,xa),(16,xb),(17,.lst 1 (ints c) false),(18,.bool made),(19,.int .i64 ((M:Nat):Int)),(20,.lst 1 (m.map V.bool) false),(22,.bool false)] ⟨f1,f5,f11,f12,f13,f14,f15,f16,f17,f18,f19,f20,f22,trivial⟩  3 ?_
       simp -implicitDefEqProofs (disch:=omega) only [go_sem,↓reduceIte,rq]
       iterate 14 (try (refine Qc 3 ?_; simp -implicitDefEqProofs (disch:=omega) only [go_sem,↓reduceIte,rA,rq]))
       refine Qj hT QB cE2 nLm 3 ?_
       simp -implicitDefEqProofs (disch:=omega) only [go_sem,↓reduceIte,rA,rq]
       iterate 14 (try (refine Qc 3 ?_; simp -implicitDefEqProofs (disch:=omega) only [go_sem,↓reduceIte,reduceCtorEq,rA,rq]))
       refine Qj hT YY cH2 nAm 3 ?_
       simp -implicitDefEqProofs (disch:=omega) only [go_sem,↓reduceIte,rA,rq]
       iterate 14 (try (refine Qc 3 ?_; simp -implicitDefEqProofs (disch:=omega) only [go_sem,↓reduceIte,rq]))
       try iterate 14 (try (refine Qc 3 ?_; simp -implicitDefEqProofs (disch:=omega) only [go_sem,↓reduceIte,reduceCtorEq,rA,rq,rL,rT,Nat.reduceSub,Nat.reduceMul,Int.reduceToNat,Int.reduceLE,Int.reduceLT,Int.reduceEq,Int.reduceNe,Nat.reduceBEq,Nat.reduceBNe,Int.reduceBEq,Int.reduceBNe]))
theorem st_B (hT:Qn P tab) {a b:List Int} {ca cb:Bool}
 (cA:Pure P G QP [xa,.lst 1 (m.map V.bool) false] fun u=>u=.bool ca)
 (cB:Pure P G QP [xb,.lst 1 (m.map V.bool) false] fun u=>u=.bool cb)
 (hxa:Qd xa=true) (hxb:Qd xb=true)
 (cC:made=true→ca=true→cb=true→Pure P G QP [.lst 1 (ints c) false,.lst 1 (m.map V.bool) false] fun u=>u=.bool true)
 (hfr:Qi fr 1=.lst 1 (ints L) false∧Qi fr 5=.ptr 0 tf 0∧Qi fr 11=.ptr 1 tl 0∧Qi fr 12=.bool ok∧Qi fr 13=.lst 1 (ints l) false∧Qi fr 14=.bool can∧Qi fr 15=xa∧Qi fr 16=xb∧Qi fr 17=.lst 1 (ints c) false∧Qi fr 18=.bool made∧Qi fr 19=.int .i64 ((M:Nat):Int)∧Qi fr 20=.lst 1 (m.map V.bool) false) :
 W P G 153 0 (zg QkL [135,136,137,138,139,140,141,142,143,144,145,146,147,148,149,150] (zw 151 (zg QkK [] .ret) .skip)) fr ⟨t,mH tf tl v w F A++[none]⟩ fun e fr σ=>e=.nrm∧Qi fr 1=.lst 1 (ints L) false∧Qi fr 5=.ptr 0 tf 0∧Qi fr 11=.ptr 1 tl 0∧Qi fr 12=.bool ok∧Qi fr 13=.lst 1 (ints l) false∧Qi fr 14=.bool can∧Qi fr 15=xa∧Qi fr 16=xb∧Qi fr 17=.lst 1 (ints c) false∧Qi fr 18=.bool made∧Qi fr 19=.int .i64 ((M:Nat):Int)∧Qi fr 20=.lst 1 (m.map V.bool) false∧σ=⟨t,mH tf tl v w F A++[none]⟩:=by
 obtain ⟨f1,f5,f11,f12,f13,f14,f15,f16,f17,f18,f19,f20⟩:=hfr
 have na:Qb [xa,.lst 1 (m.map V.bool) false]=true:=by simp [Qb,Qd,hxa]
 have nb:Qb [xb,.lst 1 (m.map V.bool) false]=true:=by simp [Qb,Qd,hxb]
 have nc:Qb [V.lst 1 (ints c) false,.lst 1 (m.map V.bool) false]=true:=by simp [Qb,Qd]
 cases made with
 | false =>
   refine Qh [(1,.lst 1 (ints L) false),(5,.ptr 0 tf 0),(11,.ptr 1 tl 0),(12,.bool ok),(13,.lst 1 (ints l) false),(14,.bool can),(15,xa),(16,xb),(17,.lst 1 (ints c) false),(18,.bool false),(19,.int .i64 ((M:Nat):Int)),(20,.lst 1 (m.map V.bool) false)] ⟨f1,f5,f11,f12,f13,f14,f15,f16,f17,f18,f19,f20,trivial⟩  3 ?_
   simp -implicitDefEqProofs (disch:=omega) only [go_sem,↓reduceIte,rq]
   iterate 14 (try (refine Qc 3 ?_; simp -implicitDefEqProofs (disch:=omega) only [go_sem,↓reduceIte,rq]))
 | true =>
   cases ca with
   | false =>
     refine Qh [(1,.lst 1 (ints L) false),(5,.ptr 0 tf 0),(11,.ptr 1 tl 0),(12,.bool ok),(13,.lst 1 (ints l) false),(14,.bool can),(15,xa),(16,xb),(17,.lst 1 (ints c) false),(18,.bool true),(19,.int .i64 ((M:Nat):Int)),(20,.lst 1 (m.map V.bool) false)] ⟨f1,f5,f11,f12,f13,f14,f15,f16,f17,f18,f19,f20,trivial⟩  3 ?_
     simp -implicitDefEqProofs (disch:=omega) only [go_sem,↓reduceIte,rq]
     iterate 14 (try (refine Qc 3 ?_; simp -implicitDefEqProofs (disch:=omega) only [go_sem,↓reduceIte,rA,rq]))
     refine Qj hT Qq cA na 3 ?_
     simp -implicitDefEqProofs (disch:=omega) only [go_sem,↓reduceIte,rq]
     iterate 14 (try (refine Qc 3 ?_; simp -implicitDefEqProofs (disch:=omega) only [go_sem,↓reduceIte,rq]))
   | true =>
     cases cb with
     | false =>
       refine Qh [(1,.lst 1 (ints L) false),(5,.ptr 0 tf 0),(11,.ptr 1 tl 0),(12,.bool ok),(13,.lst 1 (ints l) false),(14,.bool can),(15,xa),(16,xb),(17,.lst 1 (ints c) false),(18,.bool true),(19,.int .i64 ((M:Nat):Int)),(20,.lst 1 (m.map V.bool) false)] ⟨f1,f5,f11,f12,f13,f14,f15,f16,f17,f18,f19,f20,trivial⟩  3 ?_
       simp -implicitDefEqProofs (disch:=omega) only [go_sem,↓reduceIte,rq]
       iterate 14 (try (refine Qc 3 ?_; simp -implicitDefEqProofs (disch:=omega) only [go_sem,↓reduceIte,rA,rq]))
       refine Qj hT Qq cA na 3 ?_
       simp -implicitDefEqProofs (disch:=omega) only [go_sem,↓reduceIte,rq]
       iterate 14 (try (refine Qc 3 ?_; simp -implicitDefEqProofs (disch:=omega) only [go_sem,↓reduceIte,rA,rq]))
       refine Qj hT Qq cB nb 3 ?_
       simp -implicitDefEqProofs (disch:=omega) only [go_sem,↓reduceIte,rq]
       iterate 14 (try (refine Qc 3 ?_; simp -implicitDefEqProofs (disch:=omega) only [go_sem,↓reduceIte,rq]))
     | true =>
       have cC:=cC rfl rfl rfl
       refine Qh [(1,.lst 1 (ints L) false),(5,.ptr 0 tf 0),(11,.ptr 1 tl 0),(12,.bool ok),(13,.lst 1 (ints l) false),(14,.bool can),(15,xa),(16,xb),(17,.lst 1 (ints c) false),(18,.bool true),(19,.int .i64 ((M:Nat):Int)),(20,.lst 1 (m.map V.bool) false)] ⟨f1,f5,f11,f12,f13,f14,f15,f16,f17,f18,f19,f20,trivial⟩  3 ?_
       simp -implicitDefEqProofs (disch:=omega) only [go_sem,↓reduceIte,rq]
       iterate 14 (try (refine Qc 3 ?_; simp -implicitDefEqProofs (disch:=omega) only [go_sem,↓reduceIte,rA,rq]))
       refine Qj hT Qq cA na 3 ?_
       simp -implicitDefEqProofs (disch:=omega) only [go_sem,↓reduceIte,rq]
       iterate 14 (try (refine Qc 3 ?_; simp -implicitDefEqProofs (disch:=omega) only [go_sem,↓reduceIte,rA,rq]))
       refine Qj hT Qq cB nb 3 ?_
       simp -implicitDefEqProofs (disch:=omega) only [go_sem,↓reduceIte,rq]
       iterate 14 (try (refine Qc 3 ?_; simp -implicitDefEqProofs (disch:=omega) only [go_sem,↓reduceIte,rA,rq]))
       refine Qj hT Qq cC nc 3 ?_
       simp -implicitDefEqProofs (disch:=omega) only [go_sem,↓reduceIte,rA,rq]
       iterate 14 (try (refine Qc 3 ?_; simp -implicitDefEqProofs (disch:=omega) only [go_sem,↓reduceIte,rq]))
end
section
attribute [local go_sem] nFq nT aZ lR Nat.mul_one Nat.one_mul Nat.succ_ne_zero zA zL Nat.zero_mul Option.getD_none Option.getD_some Option.isSome_none Option.isSome_some beq_self_eq_true bne_self_eq_false decide_false decide_true ge_iff_le gt_iff_lt Qt QA QzU QzT QpB Qnq Qnp Qno Qi9 Qi8 Qi7 Qnn QkN QkM QzS QkL QkK Qnm QpA QzR QzQ QzP QzO QzN QzM QzL
structure Mdl (v:Nat) (w:Int) (F A:List (List Int)) (L l a b c:List Int) (ok can made:Bool):Prop where
 v8:v≤8
 hr:right v F=true
 hF:F.length≤30
 hc:∀ c∈F,c.length≤30
 hL:L.length≤10
 okA:ok=true→w=v∧A=assign F L∧∀ n∈L,n≠0∧-(v:Int)≤n∧n≤v
 lA:A.length≤1000∧∀ c∈A,c.length≤1000
 un:(can=false∧YV F=none)∨(can=true∧YV F=some l)
 ul:l.length≤1000
 ra:a.length≤1000∧∀ n∈a,n≠0∧-(v:Int)≤n∧n≤v
 rb:b.length≤1000∧∀ n∈b,n≠0∧-(v:Int)≤n∧n≤v
 cm:∃ V,Qr a b V=(c,made)
variable {ok can made:Bool} {L l a b c:List Int} {F A:List (List Int)} {w:Int} {v:Nat}
theorem Mdl.rl (X:Mdl v w F A L l a b c ok can made) (h:can=true):YV F=some l∧∀ n∈l,n≠0∧-(v:Int)≤n∧n≤v:=by
 rcases X.un with ⟨e,_⟩ | ⟨_,e⟩
 ·rw [h] at e; cases e
 ·refine ⟨e,fun n hn=>?_⟩
  obtain ⟨_,hm⟩:=QdP (QdU X.hr) e
  obtain ⟨d,hd,hnd⟩:=((hm n).1 hn).in
  exact (Xh.1 X.hr).2 d hd n hnd
theorem Mdl.rc (X:Mdl v w F A L l a b c ok can made) (h:made=true):∀ n∈c,n≠0∧-(v:Int)≤n∧n≤v:=fun n hn=>by
 obtain ⟨V,hV⟩:=X.cm
 subst h
 have e:c=(Qr a b V).1:=by rw [hV]
 have e2:(Qr a b V).2=true:=by rw [hV]
 rw [e] at hn
 unfold Qr at hn e2
 split at hn
 ·simp at hn
 ·rename_i hno
  rw [if_neg hno] at e2
  unfold XM at hn e2
  split at hn
  ·simp at hn
  ·have:=(List.mem_filter.1 (Qfb.1 hn)).1
   rcases List.mem_append.1 this with h | h
   ·exact X.ra.2 n h
   ·exact X.rb.2 n h
theorem QlJ (c:List Int):(canon c).length≤c.length:=by
 have h1:∀ c:List Int,(dd c).length≤c.length:=by
  intro c
  induction c with
  | nil=>simp [dd]
  | cons a l ih=>unfold dd; split <;> simp <;> omega
 unfold canon; rw [Z3]; exact h1 c
theorem Mdl.lc (X:Mdl v w F A L l a b c ok can made):c.length≤2000:=by
 obtain ⟨V,hV⟩:=X.cm
 have e:c=(Qr a b V).1:=by rw [hV]
 rw [e]
 have h1:=X.ra.1
 have h2:=X.rb.1
 unfold Qr
 split
 ·simp
 ·unfold XM
  split
  ·simp
  ·have:=QlJ ((a++b).filter fun n=>decide (n≠V∧n≠-V))
   have h3:=List.length_filter_le (fun n=>decide (n≠V∧n≠-V)) (a++b)
   rw [lAq] at h3
   show (canon _).length≤_
   omega
def RowV (x:V) (a:List Int):Prop:=x=row a∨(a=[]∧x=.lst 0 [] true)
theorem RowV.facts {x:V} (h:RowV x a):Wk x (row a)∧Qd x=true∧∀ k tm cs,X3 k tm cs x=x:=by
 rcases h with rfl | ⟨rfl,rfl⟩
 ·exact ⟨.refl _,by simp [row,Qd],fun k tm cs=>by simp [row,X3]⟩
 ·exact ⟨.lst 0 1 [] [] true .nil (.inl rfl),rfl,fun k tm cs=>rfl⟩
theorem rowV_nil:RowV (.lst 0 [] true) []:=.inr ⟨rfl,rfl⟩
theorem Qg0 (a:List Int):RowV (row a) a:=.inl rfl
abbrev moJ (tf tl v:Nat) (w:Int) (F A:List (List Int)) (L l a b c:List Int) (xa xb:V) (ok can made:Bool):Nat→Fr→H→Prop:=fun z fr σ=>∃ M t,M≤2 ^ v∧z=2 ^ v - M∧Qi fr 1=.lst 1 (ints L) false∧Qi fr 5=.ptr 0 tf 0∧Qi fr 11=.ptr 1 tl 0∧Qi fr 12=.bool ok∧Qi fr 13=.lst 1 (ints l) false∧Qi fr 14=.bool can∧Qi fr 15=xa∧Qi fr 16=xb∧Qi fr 17=.lst 1 (ints c) false∧Qi fr 18=.bool made∧Qi fr 19=.int .i64 ((M:Nat):Int)∧σ=⟨t,mH tf tl v w F A⟩
abbrev moE (tf tl v:Nat) (w:Int) (F A:List (List Int)):AE→Fr→H→Prop:=fun e fr σ=>∃ t,e=.ex 0∧σ=⟨t,mH tf tl v w F A⟩
theorem Qtg (m:List Bool) (l:List Int):(l.all fun n=>QR m [n])=true↔∀ n∈l,QhZ m n=true:=by simp [QR]
theorem QnR (hT:Qn P tab) {tf tl:Nat} {xa xb:V} (X:Mdl v w F A L l a b c ok can made) (qa:RowV xa a) (qb:RowV xb b) {z:Nat} {fr:Fr} {σ:H} (hJ:moJ tf tl v w F A L l a b c xa xb ok can made z fr σ) :
 W P G 153 0 (.seq (zg Qnq [82,83,84,85] (zw 86 .skip (.exit 0))) (.seq (.block 1 (zg Qnp [89,90,91] (.seq (zg Qno [] (.block 2 (.loop (.seq (zg Qi9 [92,93,94] (zw 95 .skip (.exit 2))) (.seq (.block 3 (.reg Qi8 [98,99,100,101,102,103,104,105])) (.reg Qi7 [96,97])))))) (zg Qnn [106,107,108] (.seq (zg QkN [109,110,111,112,113,114,115,116,117,118,119,120,121,122,123,124,125,126,127,128,129,130,131,132,133] (zw 134 (zg QkM [] .ret) .skip)) (zg QkL [135,136,137,138,139,140,141,142,143,144,145,146,147,148,149,150] (zw 151 (zg QkK [] .ret) .skip))))))) (.reg Qnm [87,88]))) fr σ (ZB (fun fr σ=>∃ m' fr' σ',m'<z∧Shift G 153 0 fr σ fr' σ'∧moJ tf tl v w F A L l a b c xa xb ok can made m' fr' σ') (moE tf tl v w F A)):=by
 obtain ⟨ha,hna,hfa⟩:=qa.facts
 obtain ⟨hb,hnb,hfb⟩:=qb.facts
 obtain ⟨M,t,hM,rfl,f1,f5,f11,f12,f13,f14,f15,f16,f17,f18,f19,rfl⟩:=hJ
 have hv8:=X.v8
 have hp:(2:Nat) ^ v≤256:=Nat.pow_le_pow_right (n:=2) (by omega) hv8
 have hmin:min v 64=v:=by omega
 have hpc:((2:Int) ^ v)=((2 ^ v:Nat):Int):=by simp
 have hw:IntKind.i64.wrap (1 * 2 ^ min v 64)=((2 ^ v:Nat):Int):=by
  rw [hmin,Int.one_mul,hpc,QcT (by omega)]
 rcases Nat.lt_or_ge M (2 ^ v) with hlt | hge
 ·have hml:=QdW v M
  have hMc:(((M:Nat):Int)<((2 ^ v:Nat):Int))=True:=eq_true (by omega)
  have e2:IntKind.i64.wrap ((M:Int)+1)=((M+1:Nat):Int):=by rw [QcT (by omega)]; omega
  have hF9:F.length≤9223372036854775807:=by have:=X.hF; omega
  have hc9:∀ c∈F,c.length≤9223372036854775807:=fun c h=>by have:=X.hc c h; omega
  have hA9:A.length≤9223372036854775807:=by have:=X.lA.1; omega
  have hAc9:∀ c∈A,c.length≤9223372036854775807:=fun c h=>by have:=X.lA.2 c h; omega
  have hrr:=Xh.1 X.hr
  have cH:=QmT (P:=P) (G:=G) hT v F (Q4 v M) hF9 hc9 (by omega)
  have cH2:=QmT (P:=P) (G:=G) hT w A (Q4 v M) hA9 hAc9 (by omega)
  have eh:Yn v F (Q4 v M)=F.all (QR (Q4 v M)):=by unfold Yn; rw [X.hr,hml]; simp
  have cA:=Pure.args (.cons _ _ _ _ ha (.cons _ _ _ _ (.refl _) .nil)) <| QdE (P:=P) (G:=G) hT a (Q4 v M) (fun n hn=>by rw [hml]; exact X.ra.2 n hn) (by omega) (by have:=X.ra.1; omega)
  have cB:=Pure.args (.cons _ _ _ _ hb (.cons _ _ _ _ (.refl _) .nil)) <| QdE (P:=P) (G:=G) hT b (Q4 v M) (fun n hn=>by rw [hml]; exact X.rb.2 n hn) (by omega) (by have:=X.rb.1; omega)
  have k1:Yn v F (Q4 v M)=true→can=true∧Am.Pure P G Q9 [row l,Qcf (Q4 v M)] fun u=>u=.bool true:=fun h=>by
   rw [eh] at h
   obtain ⟨l',e1,h1⟩:=Qoy (QdU X.hr) h
   have hcan:can=true:=by
    rcases X.un with ⟨_,e⟩ | ⟨e,_⟩
    ·rw [e1] at e; cases e
    ·exact e
   obtain ⟨e3,hl⟩:=X.rl hcan
   rw [e1] at e3; cases e3
   have:=Qza (P:=P) (G:=G) hT l (Q4 v M) (fun n hn=>by rw [hml]; exact hl n hn) (by omega) (by have:=X.ul; omega)
   rw [(Qtg _ _).2 h1] at this
   exact ⟨hcan,this⟩
  have k2:ok=true→Am.Pure P G Q9 [row L,Qcf (Q4 v M)] fun u=>u=.bool (L.all fun n=>QR (Q4 v M) [n]):=fun h =>
   Qza (P:=P) (G:=G) hT L (Q4 v M) (fun n hn=>by rw [hml]; exact (X.okA h).2.2 n hn) (by omega) (by have:=X.hL; omega)
  have k3:ok=true→(L.all fun n=>QR (Q4 v M) [n])=true→Yn w A (Q4 v M)=Yn v F (Q4 v M):=fun h h'=>by
   obtain ⟨rfl,rfl,_⟩:=X.okA h
   have:=assign_holds (F:=F) ((Qtg _ _).1 h')
   unfold Yn
   rw [Qk2 X.hr,X.hr,this]
  have k4:made=true→QR (Q4 v M) a=true→QR (Q4 v M) b=true→Am.Pure P G QP [row c,Qcf (Q4 v M)] fun u=>u=.bool true:=fun h ha hb=>by
   have:=QdE (P:=P) (G:=G) hT c (Q4 v M) (fun n hn=>by rw [hml]; exact X.rc h n hn) (by omega) (by have:=X.lc; omega)
   obtain ⟨V,hV⟩:=X.cm
   have e:QR (Q4 v M) c=true:=by
    have:=resolve_holds (v:=V) (by rw [hV]; exact h) ha hb
    rwa [hV] at this
   rwa [e] at this
  have nFm:Qb [V.agg [.int .i64 v,.lst 1 (F.map row) false],.lst 1 ((Q4 v M).map V.bool) false]=true:=by simp [Qb,Qd]
  have hnm:Qb ((Q4 v M).map V.bool)=true:=Qiu _
  have htm:List.take v ((Q4 v M).map V.bool)=(Q4 v M).map V.bool:=List.take_of_length_le (by simp [hml])
  have hmF:∀ tm,(F.map row).map (X3 2 tm ((Q4 v M).map V.bool))=F.map row:=fun tm=>by simp [X3,row]
  have hmA:∀ tm,(A.map row).map (X3 2 tm ((Q4 v M).map V.bool))=A.map row:=fun tm=>by simp [X3,row]
  simp only [fml,rows,row,Qcf] at cH cH2 cA cB k1 k2 k4
  have hv0:¬ ((v:Int)<0):=by omega
  refine Qh [(1,.lst 1 (ints L) false),(5,.ptr 0 tf 0),(11,.ptr 1 tl 0),(12,.bool ok),(13,.lst 1 (ints l) false),(14,.bool can),(15,xa),(16,xb),(17,.lst 1 (ints c) false),(18,.bool made),(19,.int .i64 ((M:Nat):Int))] ⟨f1,f5,f11,f12,f13,f14,f15,f16,f17,f18,f19,trivial⟩  1000 ?_
  simp -implicitDefEqProofs (disch:=omega) only [go_sem,↓reduceIte,rA,rq,rL,mH,true_implies,true_and,and_true,lC,lN,cAq,nAq,hw,hMc]
  refine QX (fiJ tf tl v w F A L l a b c xa xb ok can made M) (fiE tf tl v w F A L l a b c xa xb ok can made M) (m0:=v) ⟨0,t+1,t,by omega,rfl,?_⟩ (fun z fr σ hJ=>Qur hv8 (by omega) hJ) (fun e fr σ hE=>?_)
  ·simp -implicitDefEqProofs (disch:=omega) only [go_sem,↓reduceIte,rq,mH,true_and,cAq,nAq]
   simp
  ·obtain ⟨t4,tm,rfl,f1,f5,f11,f12,f13,f14,f15,f16,f17,f18,f19,f20,rfl⟩:=hE
   have hmF:=hmF tm
   have hmA:=hmA tm
   refine QhK [(1,.lst 1 (ints L) false),(5,.ptr 0 tf 0),(11,.ptr 1 tl 0),(12,.bool ok),(13,.lst 1 (ints l) false),(14,.bool can),(15,xa),(16,xb),(17,.lst 1 (ints c) false),(18,.bool made),(19,.int .i64 ((M:Nat):Int)),(20,.sl 2 tm 0 1 v none)] ⟨f1,f5,f11,f12,f13,f14,f15,f16,f17,f18,f19,f20,trivial⟩ ?_
   refine Xk (Shift.freeze (k:=2) (v:=tm) (T:=4) (cs:=(Q4 v M).map V.bool) (zL _) rfl hnm) ?_
   simp only [Qf7,Qh3,X3,Qbc,mH,Q5,Ob.mapV,List.set_cons_succ,List.set_cons_zero,Option.map_some,Option.map_none,List.map_cons,List.map_nil,lM,cAq,nAq,hfa,hfb]
   refine Qc 8 ?_
   simp -implicitDefEqProofs (disch:=omega) only [go_sem,↓reduceIte,reduceCtorEq,rA,rq,false_implies,and_true,not_false_eq_true,lC,lN,htm,hml]
   refine Qj hT YY cH nFm 3 ?_
   simp -implicitDefEqProofs (disch:=omega) only [go_sem,↓reduceIte,rq]
   refine QrU (fun fr σ=>Qi fr 1=.lst 1 (ints L) false∧Qi fr 5=.ptr 0 tf 0∧Qi fr 11=.ptr 1 tl 0∧Qi fr 12=.bool ok∧Qi fr 13=.lst 1 (ints l) false∧Qi fr 14=.bool can∧Qi fr 15=xa∧Qi fr 16=xb∧Qi fr 17=.lst 1 (ints c) false∧Qi fr 18=.bool made∧Qi fr 19=.int .i64 ((M:Nat):Int)∧Qi fr 20=.lst 1 ((Q4 v M).map V.bool) false∧σ=⟨t4,mH tf tl v w F A++[none]⟩) ?_ fun fr σ hJ=>?_
   ·refine st_A (a:=a) (b:=b) hT k1 k2 cH2 k3 ?_
    simp -implicitDefEqProofs (disch:=omega) only [go_sem,↓reduceIte,rq]
   clear f1 f5 f11 f12 f13 f14 f15 f16 f17 f18 f19 f20
   obtain ⟨f1,f5,f11,f12,f13,f14,f15,f16,f17,f18,f19,f20,rfl⟩:=hJ
   refine QkZ [(1,.lst 1 (ints L) false),(5,.ptr 0 tf 0),(11,.ptr 1 tl 0),(12,.bool ok),(13,.lst 1 (ints l) false),(14,.bool can),(15,xa),(16,xb),(17,.lst 1 (ints c) false),(18,.bool made),(19,.int .i64 ((M:Nat):Int)),(20,.lst 1 ((Q4 v M).map V.bool) false)] ⟨f1,f5,f11,f12,f13,f14,f15,f16,f17,f18,f19,f20,trivial⟩ ?_
   refine QrU (fun fr σ=>Qi fr 1=.lst 1 (ints L) false∧Qi fr 5=.ptr 0 tf 0∧Qi fr 11=.ptr 1 tl 0∧Qi fr 12=.bool ok∧Qi fr 13=.lst 1 (ints l) false∧Qi fr 14=.bool can∧Qi fr 15=xa∧Qi fr 16=xb∧Qi fr 17=.lst 1 (ints c) false∧Qi fr 18=.bool made∧Qi fr 19=.int .i64 ((M:Nat):Int)∧Qi fr 20=.lst 1 ((Q4 v M).map V.bool) false∧σ=⟨t4,mH tf tl v w F A++[none]⟩) ?_ fun fr σ hJ=>?_
   ·refine st_B (a:=a) (b:=b) hT cA cB hna hnb k4 ?_
    simp -implicitDefEqProofs (disch:=omega) only [go_sem,↓reduceIte,rq]
   clear f1 f5 f11 f12 f13 f14 f15 f16 f17 f18 f19 f20
   obtain ⟨f1,f5,f11,f12,f13,f14,f15,f16,f17,f18,f19,f20,rfl⟩:=hJ
   refine QkZ [(1,.lst 1 (ints L) false),(5,.ptr 0 tf 0),(11,.ptr 1 tl 0),(12,.bool ok),(13,.lst 1 (ints l) false),(14,.bool can),(15,xa),(16,xb),(17,.lst 1 (ints c) false),(18,.bool made),(19,.int .i64 ((M:Nat):Int)),(20,.lst 1 ((Q4 v M).map V.bool) false)] ⟨f1,f5,f11,f12,f13,f14,f15,f16,f17,f18,f19,f20,trivial⟩ (Qc 1000 ?_)
   simp -implicitDefEqProofs (disch:=omega) only [go_sem,↓reduceIte,rq,mH,cAq,nAq]
   refine ⟨2 ^ v - (M+1),_,_,by omega,Shift.drop (o':=mH tf tl v w F A) (t':=t4) (by simp [XJ,mH]) (lR _) (zL _),M+1,t4,by omega,rfl,?_⟩
   simp -implicitDefEqProofs (disch:=omega) only [go_sem,↓reduceIte,rq,mH,and_true,e2]
 ·have hMc:(((M:Nat):Int)<((2 ^ v:Nat):Int))=False:=eq_false (by omega)
  refine Qh [(1,.lst 1 (ints L) false),(5,.ptr 0 tf 0),(11,.ptr 1 tl 0),(12,.bool ok),(13,.lst 1 (ints l) false),(14,.bool can),(15,xa),(16,xb),(17,.lst 1 (ints c) false),(18,.bool made),(19,.int .i64 ((M:Nat):Int))] ⟨f1,f5,f11,f12,f13,f14,f15,f16,f17,f18,f19,trivial⟩  1000 ?_
  simp -implicitDefEqProofs (disch:=omega) only [go_sem,↓reduceIte,rA,rq,rL,mH,true_implies,and_true,lC,lN,hw,hMc]
  exact ⟨t,rfl,rfl⟩
theorem Qox {v:Int} (hr:right v F=true) (hv:v≤8) (h:YV F=some l):l.length≤1000:=by
 obtain ⟨hs,hm⟩:=QdP (QdU hr) h
 obtain ⟨h1,h2⟩:=Xh.1 hr
 have:=Qml (V:=v) (lo:=0) hs (fun n hn=>by
  obtain ⟨c,hc,hnc⟩:=((hm n).1 hn).in
  have:=h2 c hc n hnc
  unfold av; split <;> omega) (by omega)
 omega
theorem Qtb {v:Int} {b:Bool} (h:Yh v F L=.tup [fml w A,.bool b]) (hb:b=true):w=v∧A=assign F L∧∀ n∈L,n≠0∧-v≤n∧n≤v:=by
 subst hb
 unfold Yh at h
 split at h
 ·rename_i hc
  simp only [Bool.and_eq_true] at hc
  have hr:=(Xh.1 hc.2.1).2 L (by simp)
  have e:=h
  simp only [fml,rows,V.tup.injEq,List.cons.injEq,V.agg.injEq,V.int.injEq,V.lst.injEq,and_true,true_and] at e
  refine ⟨e.1.symm,?_,hr⟩
  have hinj:∀ X Y:List (List Int),X.map row=Y.map row→X=Y:=by
   intro X
   induction X with
   | nil=>intro Y h; cases Y <;> simp at h; rfl
   | cons x X ih =>
     intro Y h
     cases Y with
     | nil=>simp at h
     | cons y Y =>
       simp only [List.map_cons,List.cons.injEq,row,V.lst.injEq,true_and,and_true] at h
       obtain ⟨h1,h2⟩:=h
       have hx:x=y:=by
        have:=congrArg (List.map fun u:V=>match u with | .int _ n=>n | _=>0) h1
        simpa [ints,List.map_map,Function.comp_def] using this
       rw [hx,ih Y h2]
  exact (hinj _ _ e.2).symm
 ·simp at h
theorem QiS (hT:Qn Tryz.prog tab) (K:QuX Tryz.prog) (It:QeR Tryz.prog G) (v:Int) (F:List (List Int)) (L:List Int) (i1 i2 V:Int) (hF:F.length≤9223372036854775807) (hFc:∀ c∈F,c.length≤9223372036854775807) (hL:L.length≤9223372036854775807) (hb:∀ n∈L,-9223372036854775808≤n∧n≤9223372036854775807)
 (hi1:-9223372036854775808≤i1∧i1≤9223372036854775807) (hi2:-9223372036854775808≤i2∧i2≤9223372036854775807) (hV:-9223372036854775808≤V∧V≤9223372036854775807) :
 Am.Pure Tryz.prog G Xw [fml v F,row L,.int .i64 i1,.int .i64 i2,.int .i64 V] fun u=>u=.bool true:=by
 have hW:=Qig (G:=G) hT K It
 have hf:=Qoi (P:=Tryz.prog) (G:=G) hT v F 30 (by omega) hF hFc
 have hR:=QcC (P:=Tryz.prog) (G:=G) hT v F hF hFc
 have nF:Qb [fml v F]=true:=by simp [fml,rows,Qb,Qd]
 have nFL:Qb [fml v F,row L]=true:=by simp [fml,rows,row,Qb,Qd]
 have nF30:Qb [fml v F,.int .i64 30]=true:=by simp [fml,rows,Qb,Qd]
 intro t
 simp only [fml,rows,row] at hf hR nF nFL nF30 ⊢
 refine Xa 0 (zL _) (QM hT Yj (by simp [QA]) (Qx 12 ?_))
 simp -implicitDefEqProofs (disch:=omega) only [go_sem,↓reduceIte,reduceCtorEq,rA,rq]
 refine Qj hT Xy hf nF30 4 ?_
 cases h1:QmG F 30 with
 | false =>
   simp -implicitDefEqProofs (disch:=omega) only [go_sem,↓reduceIte,reduceCtorEq,rq]
   iterate 9 (try (refine Qc 4 ?_; simp -implicitDefEqProofs (disch:=omega) only [go_sem,↓reduceIte,reduceCtorEq,rq]))
   refine Qj hT Qm hW rfl 4 ?_
   simp -implicitDefEqProofs (disch:=omega) only [go_sem,↓reduceIte,reduceCtorEq,rq]
   iterate 4 (try (refine Qc 4 ?_; simp -implicitDefEqProofs (disch:=omega) only [go_sem,↓reduceIte,reduceCtorEq,rq]))
 | true =>
   have hfw:F.length≤30∧∀ c∈F,c.length≤30:=by
    unfold QmG at h1
    simp only [Bool.and_eq_true,decide_eq_true_eq,List.all_eq_true] at h1
    exact h1
   simp -implicitDefEqProofs (disch:=omega) only [go_sem,↓reduceIte,reduceCtorEq,rA,rq]
   iterate 9 (try (refine Qc 4 ?_; simp -implicitDefEqProofs (disch:=omega) only [go_sem,↓reduceIte,reduceCtorEq,rA,rq,rL,rT,Nat.reduceSub,Nat.reduceMul,Int.reduceToNat,Int.reduceLE,Int.reduceLT,Int.reduceEq,Int.reduceNe,Nat.reduceBEq,Nat.reduceBNe,lM,Qe,Int.reduceBEq,Int.reduceBNe]))
   refine Qj hT QN hR nF 4 ?_
   cases hr:right v F with
   | false =>
     simp -implicitDefEqProofs (disch:=omega) only [go_sem,↓reduceIte,reduceCtorEq,rA,rq]
     iterate 12 (try (refine Qc 4 ?_; simp -implicitDefEqProofs (disch:=omega) only [go_sem,↓reduceIte,reduceCtorEq,rq]))
     refine Qj hT Qm hW rfl 4 ?_
     simp -implicitDefEqProofs (disch:=omega) only [go_sem,↓reduceIte,reduceCtorEq,rq]
     iterate 4 (try (refine Qc 4 ?_; simp -implicitDefEqProofs (disch:=omega) only [go_sem,↓reduceIte,reduceCtorEq,rq]))
   | true =>
     rcases Int.lt_or_le 8 v with hv8 | hv8
     ·have hv8':decide ((8:Int)<v)=true:=decide_eq_true hv8
      simp -implicitDefEqProofs (disch:=omega) only [go_sem,↓reduceIte,reduceCtorEq,rA,rq]
      iterate 12 (try (refine Qc 4 ?_; simp -implicitDefEqProofs (disch:=omega) only [go_sem,↓reduceIte,reduceCtorEq,rA,rq,rL,hv8]))
      refine Qj hT Qm hW rfl 4 ?_
      simp -implicitDefEqProofs (disch:=omega) only [go_sem,↓reduceIte,reduceCtorEq,rq]
      iterate 4 (try (refine Qc 4 ?_; simp -implicitDefEqProofs (disch:=omega) only [go_sem,↓reduceIte,reduceCtorEq,rq]))
     ·have hv8':decide ((8:Int)<v)=false:=decide_eq_false (by omega)
      have hv8'':¬ (8:Int)<v:=by omega
      rcases Nat.lt_or_ge 10 L.length with h2 | h2
      ·have h2':decide ((10:Int)<(L.length:Int))=true:=decide_eq_true (by omega)
       have h2'':(10:Int)<(L.length:Int):=by omega
       simp -implicitDefEqProofs (disch:=omega) only [go_sem,↓reduceIte,reduceCtorEq,rA,rq]
       iterate 12 (try (refine Qc 4 ?_; simp -implicitDefEqProofs (disch:=omega) only [go_sem,↓reduceIte,reduceCtorEq,rA,rq,rL,Qe,hv8'',h2'']))
       refine Qj hT Qm hW rfl 4 ?_
       simp -implicitDefEqProofs (disch:=omega) only [go_sem,↓reduceIte,reduceCtorEq,rq]
       iterate 4 (try (refine Qc 4 ?_; simp -implicitDefEqProofs (disch:=omega) only [go_sem,↓reduceIte,reduceCtorEq,rq]))
      ·have h2':decide ((10:Int)<(L.length:Int))=false:=decide_eq_false (by omega)
       have h2'':¬ (10:Int)<(L.length:Int):=by omega
       have hc30:∀ c∈F,c.length≤1000:=fun c h=>by have:=hfw.2 c h; omega
       have hrr:=Xh.1 hr
       obtain ⟨vn,rfl⟩:∃ vn:Nat,v=vn:=⟨v.toNat,by omega⟩
       have hA:=Qok (P:=Tryz.prog) (G:=G) hT vn F L (by omega) hc30 (by omega) hb
       have hU:=QmQ (P:=Tryz.prog) (G:=G) hT QAh vn F (by omega) hc30
       obtain ⟨w,A,ok,ea,la,lc⟩:=Qim vn F L (by omega) hc30
       have hok:=fun h=>Qtb ea h
       rw [ea] at hA
       obtain ⟨l,can,eu,_⟩:=Qja vn F
       replace hU:Am.Pure Tryz.prog G Y3 [fml vn F] fun u=>u=.tup [row l,.bool can]:=by
        rcases eu with ⟨e1,rfl,rfl⟩ | ⟨e1,e2,rfl,rfl⟩ | ⟨e1,e2,rfl⟩
        ·simpa [e1] using hU
        ·simpa [e1,e2] using hU
        ·simpa [e1,e2] using hU
       have hun:((can=false∧YV F=none)∨(can=true∧YV F=some l))∧l.length≤1000:=by
        rcases eu with ⟨e1,rfl,rfl⟩ | ⟨e1,e2,rfl,rfl⟩ | ⟨e1,e2,rfl⟩
        ·rw [hr] at e1; cases e1
        ·exact ⟨.inl ⟨rfl,e2⟩,by simp⟩
        ·exact ⟨.inr ⟨rfl,e2⟩,Qox hr hv8 e2⟩
       simp only [fml,rows,row] at hA hU
       simp -implicitDefEqProofs (disch:=omega) only [go_sem,↓reduceIte,reduceCtorEq,rA,rq]
       iterate 12 (try (refine Qc 4 ?_; simp -implicitDefEqProofs (disch:=omega) only [go_sem,↓reduceIte,reduceCtorEq,rA,rq,rL,Qe,hv8'',h2'']))
       refine Qj hT QaU hA nFL 40 ?_
       simp -implicitDefEqProofs (disch:=omega) only [go_sem,↓reduceIte,reduceCtorEq,rA,rq,rT]
       refine Qj hT ZY hU nF 40 ?_
       simp -implicitDefEqProofs (disch:=omega) only [go_sem,↓reduceIte,reduceCtorEq,rA,rq,rT,lM]
       by_cases hF0:F=[]
       ·have hpos':((0:Int)<(F.length:Int))=False:=eq_false (by simp [hF0])
        simp -implicitDefEqProofs (disch:=omega) only [go_sem,hpos',false_implies,true_implies,not_false_eq_true]
        have hRs:=Pure.args (.cons _ _ _ _ (rowV_nil.facts).1 (.cons _ _ _ _ (rowV_nil.facts).1 (.cons _ _ _ _ (.refl _) .nil))) (Qfx (G:=G) hT [] [] V (by simp) (by simp) (by simp) (by simp) hV.2)
        obtain ⟨c,made,hcm⟩:∃ c made,Qr [] [] V=(c,made):=⟨_,_,rfl⟩
        rw [hcm] at hRs
        have X:Mdl vn w F A L l [] [] c ok can made:=⟨by omega,hr,hfw.1,hfw.2,h2,fun h=>hok h,⟨la,lc⟩,hun.1,hun.2,⟨by simp,by simp⟩,⟨by simp,by simp⟩,⟨V,hcm⟩⟩
        simp only [row] at hRs
        refine Qj hT Yk hRs (by simp [Qb,Qd]) 40 ?_
        simp -implicitDefEqProofs (disch:=omega) only [go_sem,↓reduceIte,reduceCtorEq,rA,rq,rT]
        refine QX (moJ t (t+1) vn w F A L l [] [] c (.lst 0 [] true) (.lst 0 [] true) ok can made) (moE t (t+1) vn w F A) (m0:=2 ^ vn) ⟨0,t+1+1,zL _,rfl,?_⟩ (fun z fr σ hJ=>QnR hT X rowV_nil rowV_nil hJ) (fun e fr σ hE=>?_)
        ·simp -implicitDefEqProofs (disch:=omega) only [go_sem,↓reduceIte,reduceCtorEq,rq,mH,true_and,and_true]
         rfl
        ·obtain ⟨t5,rfl,rfl⟩:=hE
         refine Qc 40 ?_
         simp -implicitDefEqProofs (disch:=omega) only [go_sem,↓reduceIte,mH]
         refine Qj hT Qm hW rfl 40 ?_
         simp -implicitDefEqProofs (disch:=omega) only [go_sem,↓reduceIte,rA,rq,and_true,lC,lN]
       ·have hpos:0<F.length:=List.length_pos_iff.2 hF0
        have hpos':((0:Int)<(F.length:Int))=True:=eq_true (by omega)
        obtain ⟨k1,_,hk1,cP1⟩:=Qzb (P:=Tryz.prog) (G:=G) hT i1 F.length hi1 (by omega)
        obtain ⟨k2,_,hk2,cP2⟩:=Qzb (P:=Tryz.prog) (G:=G) hT i2 F.length hi2 (by omega)
        have hk1:=hk1 hpos
        have hk2:=hk2 hpos
        obtain ⟨a1,ha1⟩:∃ a1,F[k1]?=some a1:=⟨_,List.getElem?_eq_getElem hk1⟩
        obtain ⟨a2,ha2⟩:∃ a2,F[k2]?=some a2:=⟨_,List.getElem?_eq_getElem hk2⟩
        obtain ⟨hlt1,hD1,_⟩:=Zz ha1 (by omega)
        obtain ⟨hlt2,hD2,_⟩:=Zz ha2 (by omega)
        have m1:=List.mem_of_getElem? ha1
        have m2:=List.mem_of_getElem? ha2
        simp -implicitDefEqProofs (disch:=omega) only [go_sem,hpos',false_implies,true_implies,not_true_eq_false,and_true]
        refine Qj hT Yc cP1 rfl 40 ?_
        simp -implicitDefEqProofs (disch:=omega) only [go_sem,↓reduceIte,reduceCtorEq,rA,rq,lM,hlt1,hD1]
        refine Qj hT Yc cP2 rfl 40 ?_
        simp -implicitDefEqProofs (disch:=omega) only [go_sem,↓reduceIte,reduceCtorEq,rq,lM,hlt2,hD2]
        have hRs:=Pure.args (.cons _ _ _ _ (Qg0 a1).facts.1 (.cons _ _ _ _ (Qg0 a2).facts.1 (.cons _ _ _ _ (.refl _) .nil))) (Qfx (G:=G) hT a1 a2 V (by have:=hfw.2 a1 m1; omega) (by have:=hfw.2 a2 m2; omega) (by intro n hn; have:=hrr.2 a1 m1 n hn; omega) (by intro n hn; have:=hrr.2 a2 m2 n hn; omega) hV.2)
        obtain ⟨c,made,hcm⟩:∃ c made,Qr a1 a2 V=(c,made):=⟨_,_,rfl⟩
        rw [hcm] at hRs
        have X:Mdl vn w F A L l a1 a2 c ok can made:=⟨by omega,hr,hfw.1,hfw.2,h2,fun h=>hok h,⟨la,lc⟩,hun.1,hun.2,⟨by have:=hfw.2 a1 m1; omega,hrr.2 a1 m1⟩,⟨by have:=hfw.2 a2 m2; omega,hrr.2 a2 m2⟩,⟨V,hcm⟩⟩
        simp only [row] at hRs
        refine Qj hT Yk hRs (by simp [Qb,Qd]) 40 ?_
        simp -implicitDefEqProofs (disch:=omega) only [go_sem,↓reduceIte,reduceCtorEq,rA,rq,rT]
        refine QX (moJ t (t+1) vn w F A L l a1 a2 c (row a1) (row a2) ok can made) (moE t (t+1) vn w F A) (m0:=2 ^ vn) ⟨0,t+1+1,zL _,rfl,?_⟩ (fun z fr σ hJ=>QnR hT X (Qg0 a1) (Qg0 a2) hJ) (fun e fr σ hE=>?_)
        ·simp -implicitDefEqProofs (disch:=omega) only [go_sem,↓reduceIte,reduceCtorEq,rq,mH,true_and,and_true]
         exact ⟨rfl,rfl,rfl⟩
        ·obtain ⟨t5,rfl,rfl⟩:=hE
         refine Qc 40 ?_
         simp -implicitDefEqProofs (disch:=omega) only [go_sem,↓reduceIte,mH]
         refine Qj hT Qm hW rfl 40 ?_
         simp -implicitDefEqProofs (disch:=omega) only [go_sem,↓reduceIte,rA,rq,and_true,lC,lN]
end
end Go.Proofs.YtingdebioipemaaGreatDoor
namespace Go.Proofs.YtingdebioipemaaGreatDoor
open Go Go.Am Go.Cl
set_option maxRecDepth 100000
variable {G:Nat→Option V}
section
attribute [local go_sem] nFq nT lM lR zA zL and_true beq_self_eq_true decide_false false_implies gt_iff_lt Qe QV zqa_0 zqa_1 zqa_2 zqa_3 zqa_4 zqa_5 zqa_6 zqa_7 zqa_8
theorem Qjx (c:List Int):(XM c).1.length≤c.length:=by
 unfold XM
 split
 ·simp
 ·exact QlJ c
theorem Qk3 (a b:List Int) (v:Int):(Qr a b v).1.length≤a.length+b.length:=by
 unfold Qr
 split
 ·simp
 ·refine Nat.le_trans (Qjx _) (Nat.le_trans (List.length_filter_le _ _) (by simp))
theorem QcD (hT:Qn Tryz.prog tab) (K:QuX Tryz.prog) (It:QeR Tryz.prog G) (v:Int) (F:List (List Int)) (m:List Bool) (a b:List Int) (x:Int) (hF:QmG F 60=true) (hm:m.length≤100) (ha:a.length≤30) (hb:b.length≤30)
 (ba:∀ n∈a,-9223372036854775808≤n∧n≤9223372036854775807) (bb:∀ n∈b,-9223372036854775808≤n∧n≤9223372036854775807) (hx:x≤9223372036854775807) :
 Am.Pure Tryz.prog G QH [fml v F,Qcf m,row a,row b,.int .i64 x] fun u=>u=.bool true:=by
 have hfw:F.length≤60∧∀ c∈F,c.length≤30:=by
  unfold QmG at hF
  simp only [Bool.and_eq_true,decide_eq_true_eq,List.all_eq_true] at hF
  exact hF
 have hFc:∀ c∈F,c.length≤9223372036854775807:=fun c h=>by have:=hfw.2 c h; omega
 have hW:=Qig (G:=G) hT K It
 have hf:=Qoi (P:=Tryz.prog) (G:=G) hT v F 60 (by omega) (by omega) hFc
 have hp:=QmP (P:=Tryz.prog) (G:=G) hT v F
 have hC:=Qkn (G:=G) hT a ba (by omega)
 have hC2:=Qog (P:=Tryz.prog) (G:=G) hT a ba (by omega)
 have hR:=Qfx (G:=G) hT a b x (by omega) (by omega) ba bb hx
 have hR2:=Qo2 (P:=Tryz.prog) (G:=G) hT a b x (by omega) (by omega) ba bb hx
 have hG:=QcC (P:=Tryz.prog) (G:=G) hT v F (by omega) hFc
 have hG2:=Qfw (P:=Tryz.prog) (G:=G) hT v F (by omega) hFc
 have hH:=QmT (P:=Tryz.prog) (G:=G) hT v F m (by omega) hFc (by omega)
 have hH2:=QuK (P:=Tryz.prog) (G:=G) hT v F m (by omega) hFc (by omega)
 have l1:=Qjx a
 have l2:=Qk3 a b x
 have hI:=Qcd (P:=Tryz.prog) (G:=G) hT (XM a).1 (XM a).1 (by omega) (by omega)
 have hI2:=Qcd (P:=Tryz.prog) (G:=G) hT (Qr a b x).1 (Qr a b x).1 (by omega) (by omega)
 have nF:Qb [fml v F]=true:=by simp [fml,rows,Qb,Qd]
 have nF60:Qb [fml v F,.int .i64 60]=true:=by simp [fml,rows,Qb,Qd]
 have nFm:Qb [fml v F,Qcf m]=true:=by simp [fml,rows,Qcf,Qb,Qd]
 have na:Qb [row a]=true:=by simp [row,Qb,Qd]
 have nab:Qb [row a,row b,.int .i64 x]=true:=by simp [row,Qb,Qd]
 have nl:∀ l:List Int,Qb [row l,row l]=true:=fun l=>by simp [row,Qb,Qd]
 have nC:=nl (XM a).1
 have nR:=nl (Qr a b x).1
 simp only [decide_true] at hI hI2
 generalize (XM a).1=p at hC hC2 hI nC
 generalize (XM a).2=q at hC hC2
 generalize (Qr a b x).1=p2 at hR hR2 hI2 nR
 generalize (Qr a b x).2=q2 at hR hR2
 generalize right v F=r at hG hG2
 generalize Yn v F m=h at hH hH2
 have e1:(q==q)=true:=by simp
 have e2:(q2==q2)=true:=by simp
 have e3:(r==r)=true:=by simp
 have e4:(h==h)=true:=by simp
 have k1:¬ (100:Int)<(m.length:Int):=by omega
 have k2:¬ (30:Int)<(a.length:Int):=by omega
 have k3:¬ (30:Int)<(b.length:Int):=by omega
 have d1:decide ((100:Int)<(m.length:Int))=false:=decide_eq_false k1
 have d2:decide ((30:Int)<(a.length:Int))=false:=decide_eq_false k2
 have d3:decide ((30:Int)<(b.length:Int))=false:=decide_eq_false k3
 rw [hF] at hf
 intro t
 simp only [fml,rows,row,Qcf] at hf hp hC hC2 hR hR2 hG hG2 hH hH2 hI hI2 nF nF60 nFm na nab nC nR ⊢
 refine Xa 0 (zL _) (QM hT QF (by simp [QV]) (Qx 1000 ?_))
 simp -implicitDefEqProofs (disch:=omega) only [go_sem,↓reduceIte,reduceCtorEq,rA,rq]
 refine Qj hT Xy hf nF60 1000 ?_
 simp -implicitDefEqProofs (disch:=omega) only [go_sem,↓reduceIte,reduceCtorEq,rA,rq,k1,k2,k3]
 refine Qj hT QZ hp nF 40 ?_
 simp -implicitDefEqProofs (disch:=omega) only [go_sem,↓reduceIte,reduceCtorEq,rA,rq]
 refine Qj hT YZ hC na 40 ?_
 simp -implicitDefEqProofs (disch:=omega) only [go_sem,↓reduceIte,reduceCtorEq,rA,rq,rT]
 refine Qj hT Yz hC2 na 40 ?_
 simp -implicitDefEqProofs (disch:=omega) only [go_sem,↓reduceIte,reduceCtorEq,rA,rq,rT]
 refine Qj hT Yk hR nab 40 ?_
 simp -implicitDefEqProofs (disch:=omega) only [go_sem,↓reduceIte,reduceCtorEq,rA,rq,rT]
 refine Qj hT Zd hR2 nab 1000 ?_
 simp -implicitDefEqProofs (disch:=omega) only [go_sem,↓reduceIte,reduceCtorEq,rA,rq,rT]
 refine Qj hT QN hG nF 1000 ?_
 simp -implicitDefEqProofs (disch:=omega) only [go_sem,↓reduceIte,reduceCtorEq,rq]
 refine Qj hT QE hG2 nF 1000 ?_
 simp -implicitDefEqProofs (disch:=omega) only [go_sem,↓reduceIte,reduceCtorEq,rA,rq]
 trace_state
 refine Qj hT YY hH nFm 1000 ?_
 simp -implicitDefEqProofs (disch:=omega) only [go_sem,↓reduceIte,reduceCtorEq,rA,rq]
 refine Qj hT ZH hH2 nFm 1000 ?_
 simp -implicitDefEqProofs (disch:=omega) only [go_sem,↓reduceIte,reduceCtorEq,rA,rq]
 refine Qj hT Qu hI nC 1000 ?_
 simp -implicitDefEqProofs (disch:=omega) only [go_sem,↓reduceIte,reduceCtorEq,rA,rq]
 refine Qj hT Qu hI2 nR 1000 ?_
 simp -implicitDefEqProofs (disch:=omega) only [go_sem,↓reduceIte,reduceCtorEq,rA,rq]
 refine Qj hT Qm hW rfl 1000 ?_
 simp -implicitDefEqProofs (disch:=omega) only [go_sem,↓reduceIte,reduceCtorEq,rA,rq]
end
theorem Qrv (x:Int):-9223372036854775808≤IntKind.i64.wrap x∧IntKind.i64.wrap x≤9223372036854775807:=by
 have h:IntKind.i64.wrap x=if 9223372036854775808≤x % 18446744073709551616 then x % 18446744073709551616 - 18446744073709551616 else x % 18446744073709551616:=by
  show (if (true&&decide (x % 18446744073709551616≥9223372036854775808))=true then _ else _)=_
  simp only [Bool.true_and,decide_eq_true_eq]
  rfl
 rw [h]
 split <;> omega
abbrev iv (n:Int):V:=.int .i64 n
abbrev tfm (v:Int) (F:List (List Int)):V:=.agg [.int .i64 v,QhB F]
abbrev nfm (v:Int):V:=.agg [.int .i64 v,.lst 0 [] true]
theorem QrC:Wk (.lst 0 [] true) (row []):=.lst _ _ _ _ _ .nil (.inl rfl)
theorem Qz8:Wk (.lst 0 [] true) (rows []):=.lst _ _ _ _ _ .nil (.inl rfl)
theorem QyG (v:Int):Wk (nfm v) (fml v []):=.agg _ _ (.cons _ _ _ _ (.refl _) (.cons _ _ _ _ Qz8 .nil))
def QrL (m:List Bool):V:=.lst 1 (m.map V.bool) true
theorem Qrz (m:List Bool):Wk (QrL m) (Qcf m):=.lst 1 1 _ _ true (WkL.refl _) (.inr rfl)
theorem QrB:Wk (.lst 0 [] true) (Qcf []):=.lst _ _ _ _ _ .nil (.inl rfl)
def kn0:List (List Int):=[[1],[-1,2],[-2,3,3],[],[2,-2]]
def knG (a b c d:Int):List (List Int):=[[a],[a,b],[b,a,b],[c,d]]
theorem QsI {F:List (List Int)} {k:Nat} (h:F.length≤k) (hc:∀ c∈F,c.length≤30):QmG F k=true:=by
 unfold QmG
 simp only [Bool.and_eq_true,decide_eq_true_eq,List.all_eq_true]
 exact ⟨h,hc⟩
abbrev bd (n:Int):Prop:=-9223372036854775808≤n∧n≤9223372036854775807
section
variable (hT:Qn Tryz.prog tab) (K:QmW G)
include hT K
theorem Qmy (v:Int) (F:List (List Int)) (b:List UInt8) (T:Bool) (hF:F.length≤9223372036854775807) (hFc:∀ c∈F,c.length≤9223372036854775807) (hb:b.length≤9223372036854775807) :
 Am.Pure Tryz.prog G QL [tfm v F,.lst 1 (Qg b) T] fun u=>u=.bool true :=
 Pure.args (.cons _ _ _ _ (Qby _ _) (.cons _ _ _ _ (.refl _) .nil)) (QdG hT K v F b T hF hFc hb)
theorem Qt8 (v:Int) (F:List (List Int)) (hF:F.length≤9223372036854775807) (hFc:∀ c∈F,c.length≤9223372036854775807) :
 Am.Pure Tryz.prog G QL [tfm v F,.lst 0 [] true] fun u=>u=.bool true :=
 Pure.args (.cons _ _ _ _ (Qby _ _) (.cons _ _ _ _ (.lst _ _ _ _ _ .nil (.inl rfl)) .nil)) (QdG hT K v F [] false hF hFc (by simp))
theorem Qt7 (b:List UInt8) (T:Bool) (hb:b.length≤9223372036854775807) :
 Am.Pure Tryz.prog G QL [nfm 0,.lst 1 (Qg b) T] fun u=>u=.bool true :=
 Pure.args (.cons _ _ _ _ (QyG _) (.cons _ _ _ _ (.refl _) .nil)) (QdG hT K 0 [] b T (by simp) (by simp) hb)
variable {a b c d:Int}
theorem kn_holds (ha:bd a) (hb:bd b) (hc:bd c) :
 Am.Pure Tryz.prog G QH [tfm 2 (knG a b c d),QrL [true,false],Qkv [a,b],Qkv [c,b,3],iv a] fun u=>u=.bool true :=
 Pure.args (.cons _ _ _ _ (Qby _ _) (.cons _ _ _ _ (Qrz _) (.cons _ _ _ _ (ZP _) (.cons _ _ _ _ (ZP _) (.cons _ _ _ _ (.refl _) .nil)))))
  (QcD hT K.buf K.ito 2 (knG a b c d) [true,false] [a,b] [c,b,3] a (QsI (by simp [knG]) (by simp [knG])) (by simp) (by simp) (by simp) (by simp [ha,hb]) (by simp [hc,hb]) ha.2)
theorem QnU (L:List Int) (hl:L.length≤9) (hL:∀ n∈L,bd n) :
 Am.Pure Tryz.prog G Xc [tfm 2 (knG a b c d),Qkv L] fun u=>u=.bool true :=
 Pure.args (.cons _ _ _ _ (Qby _ _) (.cons _ _ _ _ (ZP _) .nil))
  (Qfy hT K.buf K.ito 2 (knG a b c d) L (by simp [knG]) (by simp [knG]) (by omega) hL)
theorem Qsp {x:Int} (ha:bd a) (hb:bd b) (hx:bd x) :
 Am.Pure Tryz.prog G Xw [tfm 2 (knG a b c d),Qkv [a],iv a,iv b,iv x] fun u=>u=.bool true :=
 Pure.args (.cons _ _ _ _ (Qby _ _) (.cons _ _ _ _ (ZP _) (.cons _ _ _ _ (.refl _) (.cons _ _ _ _ (.refl _) (.cons _ _ _ _ (.refl _) .nil)))))
  (QiS hT K.buf K.ito 2 (knG a b c d) [a] a b x (by simp [knG]) (by simp [knG]) (by simp) (by simp [ha]) ha hb hx)
theorem kn_h1 (low:Int) (h:bd low) :
 Am.Pure Tryz.prog G QH [tfm 16777216 [[16777216,-16777216]],.lst 0 [] true,Qkv [low],Qkv [low,1],iv 1] fun u=>u=.bool true :=
 Pure.args (.cons _ _ _ _ (Qby _ _) (.cons _ _ _ _ QrB (.cons _ _ _ _ (ZP _) (.cons _ _ _ _ (ZP _) (.cons _ _ _ _ (.refl _) .nil)))))
  (QcD hT K.buf K.ito 16777216 [[16777216,-16777216]] [] [low] [low,1] 1 (QsI (by simp) (by simp)) (by simp) (by simp) (by simp) (by simp [h]) (by simp [h]) (by omega))
theorem kn_h2 (v low:Int) (h:bd low) :
 Am.Pure Tryz.prog G QH [nfm v,.lst 0 [] true,.lst 0 [] true,.lst 0 [] true,iv low] fun u=>u=.bool true :=
 Pure.args (.cons _ _ _ _ (QyG _) (.cons _ _ _ _ QrB (.cons _ _ _ _ QrC (.cons _ _ _ _ QrC (.cons _ _ _ _ (.refl _) .nil)))))
  (QcD hT K.buf K.ito v [] [] [] [] low (QsI (by simp) (by simp)) (by simp) (by simp) (by simp) (by simp) (by simp) h.2)
theorem kn_u1 (low:Int) (h:bd low) :
 Am.Pure Tryz.prog G Xc [tfm 1 [[low]],Qkv [low]] fun u=>u=.bool true :=
 Pure.args (.cons _ _ _ _ (Qby _ _) (.cons _ _ _ _ (ZP _) .nil))
  (Qfy hT K.buf K.ito 1 [[low]] [low] (by simp) (by simp) (by simp) (by simp [h]))
theorem kn_put:∃ B:List UInt8,B.length≤1000∧Am.Pure Tryz.prog G Zg [tfm 3 kn0] fun u=>u=.tup [.lst 1 (Qg B) false,.int .i64 0]:=by
 refine ⟨QbU 3 kn0,by decide +kernel,?_⟩
 have h:=QuL (G:=G) hT K.buf K.ito 3 kn0 (by decide) (by decide)
 rw [show right 3 kn0=true by decide +kernel,if_pos rfl] at h
 exact Pure.args (.cons _ _ _ _ (Qby _ _) .nil) h
end
theorem kn_nil (n:Nat):Wk (.lst 1 (List.replicate n (.lst 0 [] true)) false) (rows (List.replicate n [])):=by
 refine .lst 1 1 _ _ false ?_ (.inr rfl)
 rw [List.map_replicate]
 induction n with
 | zero=>exact .nil
 | succ n ih=>exact .cons _ _ _ _ QrC ih
theorem Qua (hT:Qn Tryz.prog tab) (n:Nat) (h1:1048576<n) (h2:n≤9223372036854775807) :
 Am.Pure Tryz.prog G ZZ [.agg [.int .i64 0,.lst 1 (List.replicate n (.lst 0 [] true)) false]] fun u=>u=.bool false:=by
 have h:=QcC (P:=Tryz.prog) (G:=G) hT 0 (List.replicate n []) (by simpa using h2) (fun c hc=>by rw [(List.mem_replicate.1 hc).2]; simp)
 have e:right 0 (List.replicate n [])=false:=by
  rw [Bool.eq_false_iff]
  intro hr
  have:=(Xh.1 hr).1
  simp at this
  omega
 rw [e] at h
 exact Pure.args (.cons _ _ _ _ (.agg _ _ (.cons _ _ _ _ (.refl _) (.cons _ _ _ _ (kn_nil n) .nil))) .nil) h
end Go.Proofs.YtingdebioipemaaGreatDoor
