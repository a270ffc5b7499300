/- The library's sort at pairs. -/
import Derived.Test.YtfgccihafnjalaaGreatDoorSq1
import Derived.Test.YtfgccihafnjalaaGreatDoorJ5
import Derived.Shelf.SlSortCmp.WholeK
import Derived.Test.YtfgccihafnjalaaGreatDoorShP
import Derived.Test.YtfgccihafnjalaaGreatDoorJ7
import Derived.Test.YtfgccihafnjalaaGreatDoorJ12
import Derived.Test.YtfgccihafnjalaaGreatDoorSeat
import Derived.Test.YtfgccihafnjalaaGreatDoorY
open Nat renaming reduceEqDiff → rq, reduceAdd → rA, reduceLeDiff → rL, reduceLT → rT, zero_add → zA, le_refl → lR, zero_le → zL, add_zero → aZ
open List renaming length_cons → lC, length_nil → lN, take_succ_cons → tS, length_append → lA, nil_append → nA, cons_append → cA, append_assoc → aA, take_nil → tN, take_zero → tZ, length_map → lM
open Bool renaming not_false → nF, not_true → nT
namespace Go.Proofs.YtfgccihafnjalaaGreatDoor
open Go Go.Am Go.Sort Go.Re
set_option maxRecDepth 100000
variable {G:Nat→Option V}
theorem flat_get {α:Type} [Inhabited α] (enc:α→List Value) (k:Nat) (hk:∀ x,(enc x).length=k):∀ (l:List α) (t:Nat),t<l.length * k→(l.flatMap enc)[t]?=some ((enc l[t / k]!)[t % k]!)
 | [],t,h=>by simp at h
 | x::l,t,h=>by
   have k0:0<k:=by rcases Nat.eq_zero_or_pos k with e | e; · subst e; simp at h
                   ·exact e
   rw [List.flatMap_cons]
   rcases Nat.lt_or_ge t k with h1 | h1
   ·rw [List.getElem?_append_left (by rw [hk]; exact h1),Nat.div_eq_of_lt h1,Nat.mod_eq_of_lt h1]
    have:t<(enc x).length:=by rw [hk]; exact h1
    simp [this]
   ·rw [List.getElem?_append_right (by rw [hk]; exact h1),hk]
    have ih:=flat_get enc k hk l (t - k) (by rw [lC,Nat.succ_mul] at h; omega)
    rw [ih]
    have e1:t / k=(t - k) / k+1:=by rw [← Nat.sub_add_cancel h1]; simp [k0]
    have e2:t % k=(t - k) % k:=by conv=>lhs; rw [← Nat.sub_add_cancel h1]; 
                                  simp
    rw [e1,e2]
    simp
theorem QCt {α:Type} [Inhabited α] (enc:α→List Value) (k:Nat) (hk:∀ x,(enc x).length=k) (l:List α):(l.flatMap enc).toArray=flatK enc k l.toArray:=by
 have hlen:(l.flatMap enc).length=l.length * k:=by
  induction l with
  | nil=>simp
  | cons x l ih=>rw [List.flatMap_cons,lA,hk,ih,lC,Nat.succ_mul]; omega
 refine ext_get! (by simp [hlen]) fun t ht=>?_
 have ht':t<l.length * k:=by simpa [hlen] using ht
 rw [get_flatK enc k _ t (by simpa using ht')]
 have:=flat_get enc k hk l t ht'
 simp [this]
def prK (p:Pr):List (IntKind × Int):=[(.i64,p.v),(.u8,p.k),(.i64,p.n)]
def prE (p:Pr):List Value:=[.int .i64 p.v,.int .u8 p.k,.int .i64 p.n]
theorem prK_C (l:List Pr):(l.flatMap prK).map cI=fl prC l:=by
 induction l with
 | nil=>rfl
 | cons x l ih=>rw [List.flatMap_cons,List.map_append,ih]; rfl
theorem prK_E (l:List Pr):(l.flatMap prK).map vI=l.flatMap prE:=by
 induction l with
 | nil=>rfl
 | cons x l ih=>rw [List.flatMap_cons,List.map_append,ih]; rfl
theorem QpH (l:List Pr):(l.flatMap prK).length=l.length * 3:=by
 induction l with
 | nil=>rfl
 | cons x l ih=>rw [List.flatMap_cons,lA,ih,lC,Nat.succ_mul,Nat.add_comm]; rfl
theorem ltP (x y:Pr):ltOf cfP x y=decide (lt x y):=by
 have key:cfP x y<0↔lt x y:=by
  unfold cfP orI QsJ lt
  repeat' split
  all_goals omega
 unfold ltOf
 exact decide_eq_decide.2 key
theorem swoP:SWO (ltOf cfP) where
 irrefl x:=by rw [ltP]; simpa using QiA x
 trans x y z h1 h2:=by rw [ltP,decide_eq_true_eq] at *; exact lt_trans h1 h2
 ntrans x y z h1 h2:=by
  rw [ltP,decide_eq_false_iff_not] at *
  unfold lt at *; omega
theorem Qy8:Qhr Tryz.prog G:=fun {base k v t} {o} {l} {n} hn hb ho hl=>by
 subst hn
 by_cases hz:l=[]
 ·subst hz
  refine (QwW (fun p cap w=>AnyF.slices_SortFunc_none Tryz.laysSortP p cap _ w)).conseq fun r σ' hr=>?_
  obtain ⟨rfl,rfl⟩:=hr
  refine ⟨rfl,?_⟩
  have e:fl prC (Qly [])=fl prC []:=by simp [Qly]
  obtain ⟨h1,h2⟩:=List.getElem?_eq_some_iff.1 ho
  rw [e,← h2,List.set_getElem_self]
 ·rw [← prK_C] at ho ⊢
  refine QDg (zs':=(Qly l).flatMap prK) hb ho (QpH l) (List.length_pos_iff.2 hz) (by rw [QpH,QpH,Qka]) fun blk off cap w hH hblk=>?_
  rw [prK_E,QCt prE 3 (fun _=>rfl)] at hH ⊢
  have h:=AnyQ.slices_SortFunc_total Tryz.laysSortP 3 (Tryz.isAgg64) (Tryz.sizeOf64) prE (fun _=>rfl) (fun x v hv=>by simp [prE] at hv; rcases hv with rfl | rfl | rfl <;> rfl) cfP swoP 31 #[] blk off cap l.toArray w (enters_of Tryz.func31 (by kernel_rfl) rfl)
   (fun _ _ _ _ x y=>QBO x y _) hH hblk (by simp; omega) (fun x y h1 h2=>by
    rw [ltP,decide_eq_false_iff_not] at h1 h2
    rcases Qkx x y with k | k | k
    ·exact absurd k h1
    ·exact k
    ·exact absurd k h2)
  refine h.mono fun e w' ⟨he,n,os,hw⟩=>⟨he,n,os,?_⟩
  rw [hw]
  have e:(l.mergeSort fun x y=>!ltOf cfP y x)=Qly l:=by
   unfold Qly; congr 1; funext x y; rw [ltP]
  rw [show l.toArray.toList=l from rfl,e]
  rfl
end Go.Proofs.YtfgccihafnjalaaGreatDoor
namespace Go.Proofs.YtfgccihafnjalaaGreatDoor
open Go Go.Am
set_option maxRecDepth 100000
def kF:Fmt Tryz.prog G0:={ fmt:=Qne,le:=Qwp,int:=fun i h1 h2=>Qqh i ⟨h1,h2⟩,itoa:=fun i h1 h2=>c_Itoa i ⟨h1,h2⟩ }
theorem QCP:Works Tryz.prog G0:=QwB QqD kF Qy8 c_fn2
end Go.Proofs.YtfgccihafnjalaaGreatDoor
namespace Go.Proofs.YtfgccihafnjalaaGreatDoor
open Go Go.Am Go.Re
set_option maxRecDepth 100000
variable {P:Program} {G:Nat→Option V}
theorem Qfh (a b:List Pr):(meet a b).length≤a.length:=by
 have h1:=List.length_filter_le (fun p=>decide (p∈b)) (srt a)
 have h2:=Qj9 a
 unfold meet; omega
theorem Qnu (hT:Qw P tab) (hS:Qhr P G) (hW:Works P G) (a b c:List Pr) (ta tb tc:Bool):Am.Pure P G Yl [.lst 3 (prs a) ta,.lst 3 (prs b) tb,.lst 3 (prs c) tc] fun u=>u=.bool true:=by
 refine fun t=>Ym 0 (zL _) (Xk hT QaV (by simp [Qd]) ?_)
 have hW':Am.Pure P G X7 [] fun u=>u=.bool true:=hW
 by_cases ha:a.length > 40
 ·have ha':(40:Int)<((a.length:Nat):Int):=by omega
  refine Qu 4 ?_
  refine yh ?_
  iterate 24 (try (refine Qb 2 ?_; simp -implicitDefEqProofs (disch:=omega) only [go_sem,↓reduceIte,reduceCtorEq,rq,decide_true,gt_iff_lt,Qk,decide_true,ha']))
  refine Q3 hT QC hW' rfl 1000 ?_
  refine yq ?_
  try simp
 have ha':¬ (40:Int)<((a.length:Nat):Int):=by omega
 by_cases hb:b.length > 40
 ·have hb':(40:Int)<((b.length:Nat):Int):=by omega
  refine Qu 4 ?_
  refine yh ?_
  iterate 24 (try (refine Qb 2 ?_; simp -implicitDefEqProofs (disch := omega) only [go_sem, ↓reduceIte, reduceCtorEq, rA, rq, zA, decide_true, decide_false, gt_iff_lt, Qk, decide_true, decide_false, ha', hb']))
  refine Q3 hT QC hW' rfl 1000 ?_
  refine yq ?_
  try simp
 have hb':¬ (40:Int)<((b.length:Nat):Int):=by omega
 by_cases hc:c.length > 40
 ·have hc':(40:Int)<((c.length:Nat):Int):=by omega
  refine Qu 4 ?_
  refine yh ?_
  iterate 24 (try (refine Qb 2 ?_; simp -implicitDefEqProofs (disch := omega) only [go_sem, ↓reduceIte, reduceCtorEq, rA, rq, zA, decide_true, decide_false, gt_iff_lt, Qk, decide_true, decide_false, ha', hb', hc']))
  refine Q3 hT QC hW' rfl 1000 ?_
  refine yq ?_
  try simp
 have hc':¬ (40:Int)<((c.length:Nat):Int):=by omega
 have nl1:∀ (l:List Pr) (tg:Bool),Qc [.lst 3 (prs l) tg]=true:=fun l tg=>by simp [Qc,Qe]
 have nl2:∀ (l m:List Pr) (tg th:Bool),Qc [.lst 3 (prs l) tg,.lst 3 (prs m) th]=true:=fun l m tg th=>by simp [Qc,Qe]
 have m1:=Qfh a b
 have m2:=Qfh b a
 have m3:=Qfh b c
 have m4:=Qfh a (meet b c)
 have m5:=Qj9 a
 have m6:=Qj9 (meet a b)
 have m7:=Qfh (meet a b) c
 have m8:=Qfh a a
 have q1:=Qrj (P:=P) (G:=G) hT (meet a b) (meet b a) false false (by omega)
 have q2:=Qrj (P:=P) (G:=G) hT (meet (meet a b) c) (meet a (meet b c)) false false (by omega)
 have q3:=Qrj (P:=P) (G:=G) hT (meet a a) (srt a) false false (by omega)
 have q4:=Qrj (P:=P) (G:=G) hT (srt (meet a b)) (meet a b) false false (by omega)
 have q4':srt (meet a b)=meet a b:=QpA a b
 rw [decide_eq_true (Qug a b)] at q1
 rw [decide_eq_true (Qr1 a b c)] at q2
 rw [decide_eq_true (Que a)] at q3
 rw [decide_eq_true q4'] at q4
 have w1:=Qfn (P:=P) (G:=G) hT (meet a b) a false ta (by omega) (by omega)
 have w2:=Qfn (P:=P) (G:=G) hT (meet a b) b false tb (by omega) (by omega)
 have w3:=Qfn (P:=P) (G:=G) hT c a tc ta (by omega) (by omega)
 have w4:=Qfn (P:=P) (G:=G) hT c b tc tb (by omega) (by omega)
 have w5:=Qfn (P:=P) (G:=G) hT c (meet a b) tc false (by omega) (by omega)
 have w6:=Qfn (P:=P) (G:=G) hT a b ta tb (by omega) (by omega)
 rw [show within (meet a b) a=true from Go.Re.within_iff.2 fun p h=>(Qdo.1 h).1] at w1
 rw [show within (meet a b) b=true from Go.Re.within_iff.2 fun p h=>(Qdo.1 h).2] at w2
 have hwl:=Qrz a b
 have hlb:((((srt a).length:Nat):Int)==(((meet a b).length:Nat):Int))=within a b:=by
  rw [hwl,Bool.eq_iff_iff,beq_iff_eq,decide_eq_true_eq]; omega
 have h5:within c a=true→within c b=true→within c (meet a b)=true:=fun h1 h2=>Go.Re.within_iff.2 fun p hp=>Qdo.2 ⟨Go.Re.within_iff.1 h1 p hp,Go.Re.within_iff.1 h2 p hp⟩
 clear hwl
 generalize within a b=e1 at *
 generalize within c a=e2 at *
 generalize within c b=e3 at *
 generalize within c (meet a b)=e4 at *
 refine Qu 4 ?_
 refine yh ?_
 iterate 24 (try (refine Qb 2 ?_; simp -implicitDefEqProofs (disch := omega) only [go_sem, ↓reduceIte, reduceCtorEq, rA, rq, zA, decide_false, gt_iff_lt, Qk, decide_false, ha', hb', hc']))
 refine Q3 hT Xq (Qlb hT hS a b ta tb (by omega) (by omega)) (nl2 _ _ _ _) 3 ?_
 refine ya ?_
 iterate 6 (try (refine Qb 2 ?_; simp -implicitDefEqProofs (disch:=omega) only [go_sem,Qf,↓reduceIte,reduceCtorEq,rA,rq,rL,rT,Nat.reduceSub,Nat.reduceMul,Int.reduceToNat,Int.reduceLE,Int.reduceLT,Int.reduceEq,Int.reduceNe,Nat.succ_ne_zero,zA,aZ,Nat.mul_one,Nat.one_mul,Nat.zero_mul,decide_true,decide_false,nT,nF,lR,zL,ge_iff_le,gt_iff_lt,Nat.reduceBEq,Nat.reduceBNe,beq_self_eq_true,bne_self_eq_false,Option.isSome_some,Option.isSome_none,Option.getD_some,Option.getD_none,Qd,QcI,QcH,QcG,QcF,QcE,QcD,QcC,QcB,QcA,Qk,false_implies,true_implies,true_and,and_true,not_true_eq_false,not_false_eq_true,Int.reduceBEq,decide_true,decide_false,Bool.and_true,Bool.true_and,Bool.and_self]))
 refine Q3 hT Xq (Qlb hT hS b a tb ta (by omega) (by omega)) (nl2 _ _ _ _) 3 ?_
 refine ya ?_
 iterate 6 (try (refine Qb 2 ?_; simp -implicitDefEqProofs (disch:=omega) only [go_sem,↓reduceIte,reduceCtorEq,rq]))
 refine Q3 hT QD (Qk9 hT (meet b a) false (by omega)) (nl1 _ _) 3 ?_
 refine ya ?_
 iterate 6 (try (refine Qb 2 ?_; simp -implicitDefEqProofs (disch:=omega) only [go_sem,Qf,↓reduceIte,reduceCtorEq,rA,rq,rL,rT,Nat.reduceSub,Nat.reduceMul,Int.reduceToNat,Int.reduceLE,Int.reduceLT,Int.reduceEq,Int.reduceNe,Nat.succ_ne_zero,zA,aZ,Nat.mul_one,Nat.one_mul,Nat.zero_mul,decide_true,decide_false,nT,nF,lR,zL,ge_iff_le,gt_iff_lt,Nat.reduceBEq,Nat.reduceBNe,beq_self_eq_true,bne_self_eq_false,Option.isSome_some,Option.isSome_none,Option.getD_some,Option.getD_none,Qd,QcI,QcH,QcG,QcF,QcE,QcD,QcC,QcB,QcA,Qk,false_implies,true_implies,true_and,and_true,not_true_eq_false,not_false_eq_true,Int.reduceBEq,decide_true,decide_false,Bool.and_true,Bool.true_and,Bool.and_self]))
 refine Q3 hT Xd q1 (nl2 _ _ _ _) 3 ?_
 refine ya ?_
 iterate 6 (try (refine Qb 2 ?_; simp -implicitDefEqProofs (disch:=omega) only [go_sem,↓reduceIte,reduceCtorEq,rA,rq,zA]))
 refine Q3 hT Xq (Qlb hT hS (meet a b) c false tc (by omega) (by omega)) (nl2 _ _ _ _) 3 ?_
 refine ya ?_
 iterate 6 (try (refine Qb 2 ?_; simp -implicitDefEqProofs (disch:=omega) only [go_sem,↓reduceIte,reduceCtorEq,rA,rq]))
 refine Q3 hT Xq (Qlb hT hS b c tb tc (by omega) (by omega)) (nl2 _ _ _ _) 3 ?_
 refine ya ?_
 iterate 6 (try (refine Qb 2 ?_; simp -implicitDefEqProofs (disch:=omega) only [go_sem,Qf,↓reduceIte,reduceCtorEq,rA,rq,rL,rT,Nat.reduceSub,Nat.reduceMul,Int.reduceToNat,Int.reduceLE,Int.reduceLT,Int.reduceEq,Int.reduceNe,Nat.succ_ne_zero,zA,aZ,Nat.mul_one,Nat.one_mul,Nat.zero_mul,decide_true,decide_false,nT,nF,lR,zL,ge_iff_le,gt_iff_lt,Nat.reduceBEq,Nat.reduceBNe,beq_self_eq_true,bne_self_eq_false,Option.isSome_some,Option.isSome_none,Option.getD_some,Option.getD_none,Qd,QcI,QcH,QcG,QcF,QcE,QcD,QcC,QcB,QcA,Qk,false_implies,true_implies,true_and,and_true,not_true_eq_false,not_false_eq_true,Int.reduceBEq,decide_true,decide_false,Bool.and_true,Bool.true_and,Bool.and_self]))
 refine Q3 hT Xq (Qlb hT hS a (meet b c) ta false (by omega) (by omega)) (nl2 _ _ _ _) 3 ?_
 refine ya ?_
 iterate 6 (try (refine Qb 2 ?_; simp -implicitDefEqProofs (disch:=omega) only [go_sem,Qf,↓reduceIte,reduceCtorEq,rA,rq,rL,rT,Nat.reduceSub,Nat.reduceMul,Int.reduceToNat,Int.reduceLE,Int.reduceLT,Int.reduceEq,Int.reduceNe,Nat.succ_ne_zero,zA,aZ,Nat.mul_one,Nat.one_mul,Nat.zero_mul,decide_true,decide_false,nT,nF,lR,zL,ge_iff_le,gt_iff_lt,Nat.reduceBEq,Nat.reduceBNe,beq_self_eq_true,bne_self_eq_false,Option.isSome_some,Option.isSome_none,Option.getD_some,Option.getD_none,Qd,QcI,QcH,QcG,QcF,QcE,QcD,QcC,QcB,QcA,Qk,false_implies,true_implies,true_and,and_true,not_true_eq_false,not_false_eq_true,Int.reduceBEq,decide_true,decide_false,Bool.and_true,Bool.true_and,Bool.and_self]))
 refine Q3 hT QD (Qk9 hT (meet a (meet b c)) false (by omega)) (nl1 _ _) 3 ?_
 refine ya ?_
 iterate 6 (try (refine Qb 2 ?_; simp -implicitDefEqProofs (disch:=omega) only [go_sem,Qf,↓reduceIte,reduceCtorEq,rA,rq,rL,rT,Nat.reduceSub,Nat.reduceMul,Int.reduceToNat,Int.reduceLE,Int.reduceLT,Int.reduceEq,Int.reduceNe,Nat.succ_ne_zero,zA,aZ,Nat.mul_one,Nat.one_mul,Nat.zero_mul,decide_true,decide_false,nT,nF,lR,zL,ge_iff_le,gt_iff_lt,Nat.reduceBEq,Nat.reduceBNe,beq_self_eq_true,bne_self_eq_false,Option.isSome_some,Option.isSome_none,Option.getD_some,Option.getD_none,Qd,QcI,QcH,QcG,QcF,QcE,QcD,QcC,QcB,QcA,Qk,false_implies,true_implies,true_and,and_true,not_true_eq_false,not_false_eq_true,Int.reduceBEq,decide_true,decide_false,Bool.and_true,Bool.true_and,Bool.and_self]))
 refine Q3 hT Xd q2 (nl2 _ _ _ _) 3 ?_
 refine ya ?_
 iterate 6 (try (refine Qb 2 ?_; simp -implicitDefEqProofs (disch:=omega) only [go_sem,↓reduceIte,reduceCtorEq,rA,rq,zA]))
 refine Q3 hT Xq (Qlb hT hS a a ta ta (by omega) (by omega)) (nl2 _ _ _ _) 3 ?_
 refine ya ?_
 iterate 6 (try (refine Qb 2 ?_; simp -implicitDefEqProofs (disch:=omega) only [go_sem,Qf,↓reduceIte,reduceCtorEq,rA,rq,rL,rT,Nat.reduceSub,Nat.reduceMul,Int.reduceToNat,Int.reduceLE,Int.reduceLT,Int.reduceEq,Int.reduceNe,Nat.succ_ne_zero,zA,aZ,Nat.mul_one,Nat.one_mul,Nat.zero_mul,decide_true,decide_false,nT,nF,lR,zL,ge_iff_le,gt_iff_lt,Nat.reduceBEq,Nat.reduceBNe,beq_self_eq_true,bne_self_eq_false,Option.isSome_some,Option.isSome_none,Option.getD_some,Option.getD_none,Qd,QcI,QcH,QcG,QcF,QcE,QcD,QcC,QcB,QcA,Qk,false_implies,true_implies,true_and,and_true,not_true_eq_false,not_false_eq_true,Int.reduceBEq,decide_true,decide_false,Bool.and_true,Bool.true_and,Bool.and_self]))
 refine Q3 hT Xc (Qhm hT hS a ta (by omega)) (nl1 _ _) 3 ?_
 refine ya ?_
 iterate 6 (try (refine Qb 2 ?_; simp -implicitDefEqProofs (disch:=omega) only [go_sem,Qf,↓reduceIte,reduceCtorEq,rA,rq,rL,rT,Nat.reduceSub,Nat.reduceMul,Int.reduceToNat,Int.reduceLE,Int.reduceLT,Int.reduceEq,Int.reduceNe,Nat.succ_ne_zero,zA,aZ,Nat.mul_one,Nat.one_mul,Nat.zero_mul,decide_true,decide_false,nT,nF,lR,zL,ge_iff_le,gt_iff_lt,Nat.reduceBEq,Nat.reduceBNe,beq_self_eq_true,bne_self_eq_false,Option.isSome_some,Option.isSome_none,Option.getD_some,Option.getD_none,Qd,QcI,QcH,QcG,QcF,QcE,QcD,QcC,QcB,QcA,Qk,false_implies,true_implies,true_and,and_true,not_true_eq_false,not_false_eq_true,Int.reduceBEq,decide_true,decide_false,Bool.and_true,Bool.true_and,Bool.and_self]))
 refine Q3 hT QD (Qk9 hT (srt a) false (by omega)) (nl1 _ _) 3 ?_
 refine ya ?_
 iterate 6 (try (refine Qb 2 ?_; simp -implicitDefEqProofs (disch:=omega) only [go_sem,Qf,↓reduceIte,reduceCtorEq,rA,rq,rL,rT,Nat.reduceSub,Nat.reduceMul,Int.reduceToNat,Int.reduceLE,Int.reduceLT,Int.reduceEq,Int.reduceNe,Nat.succ_ne_zero,zA,aZ,Nat.mul_one,Nat.one_mul,Nat.zero_mul,decide_true,decide_false,nT,nF,lR,zL,ge_iff_le,gt_iff_lt,Nat.reduceBEq,Nat.reduceBNe,beq_self_eq_true,bne_self_eq_false,Option.isSome_some,Option.isSome_none,Option.getD_some,Option.getD_none,Qd,QcI,QcH,QcG,QcF,QcE,QcD,QcC,QcB,QcA,Qk,false_implies,true_implies,true_and,and_true,not_true_eq_false,not_false_eq_true,Int.reduceBEq,decide_true,decide_false,Bool.and_true,Bool.true_and,Bool.and_self]))
 refine Q3 hT Xd q3 (nl2 _ _ _ _) 3 ?_
 refine ya ?_
 iterate 6 (try (refine Qb 2 ?_; simp -implicitDefEqProofs (disch:=omega) only [go_sem,↓reduceIte,reduceCtorEq,rA,rq,zA]))
 refine Q3 hT Xc (Qhm hT hS (meet a b) false (by omega)) (nl1 _ _) 3 ?_
 refine ya ?_
 iterate 6 (try (refine Qb 2 ?_; simp -implicitDefEqProofs (disch:=omega) only [go_sem,Qf,↓reduceIte,reduceCtorEq,rA,rq,rL,rT,Nat.reduceSub,Nat.reduceMul,Int.reduceToNat,Int.reduceLE,Int.reduceLT,Int.reduceEq,Int.reduceNe,Nat.succ_ne_zero,zA,aZ,Nat.mul_one,Nat.one_mul,Nat.zero_mul,decide_true,decide_false,nT,nF,lR,zL,ge_iff_le,gt_iff_lt,Nat.reduceBEq,Nat.reduceBNe,beq_self_eq_true,bne_self_eq_false,Option.isSome_some,Option.isSome_none,Option.getD_some,Option.getD_none,Qd,QcI,QcH,QcG,QcF,QcE,QcD,QcC,QcB,QcA,Qk,false_implies,true_implies,true_and,and_true,not_true_eq_false,not_false_eq_true,Int.reduceBEq,decide_true,decide_false,Bool.and_true,Bool.true_and,Bool.and_self]))
 refine Q3 hT QD (Qk9 hT (meet a b) false (by omega)) (nl1 _ _) 3 ?_
 refine ya ?_
 iterate 6 (try (refine Qb 2 ?_; simp -implicitDefEqProofs (disch:=omega) only [go_sem,Qf,↓reduceIte,reduceCtorEq,rA,rq,rL,rT,Nat.reduceSub,Nat.reduceMul,Int.reduceToNat,Int.reduceLE,Int.reduceLT,Int.reduceEq,Int.reduceNe,Nat.succ_ne_zero,zA,aZ,Nat.mul_one,Nat.one_mul,Nat.zero_mul,decide_true,decide_false,nT,nF,lR,zL,ge_iff_le,gt_iff_lt,Nat.reduceBEq,Nat.reduceBNe,beq_self_eq_true,bne_self_eq_false,Option.isSome_some,Option.isSome_none,Option.getD_some,Option.getD_none,Qd,QcI,QcH,QcG,QcF,QcE,QcD,QcC,QcB,QcA,Qk,false_implies,true_implies,true_and,and_true,not_true_eq_false,not_false_eq_true,Int.reduceBEq,decide_true,decide_false,Bool.and_true,Bool.true_and,Bool.and_self]))
 refine Q3 hT Xd q4 (nl2 _ _ _ _) 3 ?_
 refine ya ?_
 iterate 6 (try (refine Qb 2 ?_; simp -implicitDefEqProofs (disch:=omega) only [go_sem,↓reduceIte,reduceCtorEq,rq]))
 refine Q3 hT QY w1 (nl2 _ _ _ _) 3 ?_
 refine ya ?_
 iterate 6 (try (refine Qb 2 ?_; simp -implicitDefEqProofs (disch:=omega) only [go_sem,↓reduceIte,reduceCtorEq,rA,rq,zA]))
 refine Q3 hT QY w2 (nl2 _ _ _ _) 3 ?_
 refine ya ?_
 iterate 6 (try (refine Qb 2 ?_; simp -implicitDefEqProofs (disch:=omega) only [go_sem,↓reduceIte,reduceCtorEq,rA,rq,zA]))
 refine Q3 hT QY w3 (nl2 _ _ _ _) 3 ?_
 refine ya ?_
 iterate 6 (try (refine Qb 2 ?_; simp -implicitDefEqProofs (disch:=omega) only [go_sem,Qf,↓reduceIte,reduceCtorEq,rA,rq,rL,rT,Nat.reduceSub,Nat.reduceMul,Int.reduceToNat,Int.reduceLE,Int.reduceLT,Int.reduceEq,Int.reduceNe,Nat.succ_ne_zero,zA,aZ,Nat.mul_one,Nat.one_mul,Nat.zero_mul,decide_true,decide_false,nT,nF,lR,zL,ge_iff_le,gt_iff_lt,Nat.reduceBEq,Nat.reduceBNe,beq_self_eq_true,bne_self_eq_false,Option.isSome_some,Option.isSome_none,Option.getD_some,Option.getD_none,Qd,QcI,QcH,QcG,QcF,QcE,QcD,QcC,QcB,QcA,Qk,false_implies,true_implies,true_and,and_true,not_true_eq_false,not_false_eq_true,Int.reduceBEq,decide_true,decide_false,Bool.and_true,Bool.true_and,Bool.and_self]))
 cases e2 with
 | false =>
   simp -implicitDefEqProofs (disch:=omega) only [go_sem,false_implies,true_implies,true_and]
   iterate 20 (try (refine Qb 2 ?_; simp -implicitDefEqProofs (disch:=omega) only [go_sem,↓reduceIte,reduceCtorEq,rA,rq,zA]))
   refine Q3 hT QY w6 (nl2 _ _ _ _) 3 ?_
   refine ya ?_
   iterate 6 (try (refine Qb 2 ?_; simp -implicitDefEqProofs (disch:=omega) only [go_sem,Qf,↓reduceIte,reduceCtorEq,rA,rq,rL,rT,Nat.reduceSub,Nat.reduceMul,Int.reduceToNat,Int.reduceLE,Int.reduceLT,Int.reduceEq,Int.reduceNe,Nat.succ_ne_zero,zA,aZ,Nat.mul_one,Nat.one_mul,Nat.zero_mul,decide_true,decide_false,nT,nF,lR,zL,ge_iff_le,gt_iff_lt,Nat.reduceBEq,Nat.reduceBNe,beq_self_eq_true,bne_self_eq_false,Option.isSome_some,Option.isSome_none,Option.getD_some,Option.getD_none,Qd,QcI,QcH,QcG,QcF,QcE,QcD,QcC,QcB,QcA,Qk,false_implies,true_implies,true_and,and_true,not_true_eq_false,not_false_eq_true,Int.reduceBEq,decide_true,decide_false,Bool.and_true,Bool.true_and,Bool.and_self,hlb]))
   refine Q3 hT Xc (Qhm hT hS a ta (by omega)) (nl1 _ _) 3 ?_
   refine yx ?_
   iterate 6 (try (refine Qb 2 ?_; simp -implicitDefEqProofs (disch:=omega) only [go_sem,↓reduceIte,reduceCtorEq,rq,zA,beq_self_eq_true,hlb]))
   refine Q3 hT QC hW' rfl 3 ?_
   refine ya ?_
   iterate 6 (try (refine Qb 2 ?_; simp -implicitDefEqProofs (disch:=omega) only [go_sem,↓reduceIte,reduceCtorEq,rq,lR,and_true]))
   try simp
 | true =>
   simp -implicitDefEqProofs (disch:=omega) only [go_sem,reduceCtorEq,false_implies,true_implies,and_true]
   iterate 20 (try (refine Qb 2 ?_; simp -implicitDefEqProofs (disch:=omega) only [go_sem,↓reduceIte,reduceCtorEq,rA,rq]))
   refine Q3 hT QY w4 (nl2 _ _ _ _) 3 ?_
   refine ya ?_
   iterate 6 (try (refine Qb 2 ?_; simp -implicitDefEqProofs (disch:=omega) only [go_sem,Qf,↓reduceIte,reduceCtorEq,rA,rq,rL,rT,Nat.reduceSub,Nat.reduceMul,Int.reduceToNat,Int.reduceLE,Int.reduceLT,Int.reduceEq,Int.reduceNe,Nat.succ_ne_zero,zA,aZ,Nat.mul_one,Nat.one_mul,Nat.zero_mul,decide_true,decide_false,nT,nF,lR,zL,ge_iff_le,gt_iff_lt,Nat.reduceBEq,Nat.reduceBNe,beq_self_eq_true,bne_self_eq_false,Option.isSome_some,Option.isSome_none,Option.getD_some,Option.getD_none,Qd,QcI,QcH,QcG,QcF,QcE,QcD,QcC,QcB,QcA,Qk,false_implies,true_implies,true_and,and_true,not_true_eq_false,not_false_eq_true,Int.reduceBEq,decide_true,decide_false,Bool.and_true,Bool.true_and,Bool.and_self]))
   cases e3 with
   | false =>
     simp -implicitDefEqProofs (disch:=omega) only [go_sem,false_implies,true_implies,true_and]
     iterate 20 (try (refine Qb 2 ?_; simp -implicitDefEqProofs (disch:=omega) only [go_sem,↓reduceIte,reduceCtorEq,rq,zA]))
     refine Q3 hT QY w6 (nl2 _ _ _ _) 3 ?_
     refine ya ?_
     iterate 6 (try (refine Qb 2 ?_; simp -implicitDefEqProofs (disch:=omega) only [go_sem,Qf,↓reduceIte,reduceCtorEq,rA,rq,rL,rT,Nat.reduceSub,Nat.reduceMul,Int.reduceToNat,Int.reduceLE,Int.reduceLT,Int.reduceEq,Int.reduceNe,Nat.succ_ne_zero,zA,aZ,Nat.mul_one,Nat.one_mul,Nat.zero_mul,decide_true,decide_false,nT,nF,lR,zL,ge_iff_le,gt_iff_lt,Nat.reduceBEq,Nat.reduceBNe,beq_self_eq_true,bne_self_eq_false,Option.isSome_some,Option.isSome_none,Option.getD_some,Option.getD_none,Qd,QcI,QcH,QcG,QcF,QcE,QcD,QcC,QcB,QcA,Qk,false_implies,true_implies,true_and,and_true,not_true_eq_false,not_false_eq_true,Int.reduceBEq,decide_true,decide_false,Bool.and_true,Bool.true_and,Bool.and_self,hlb]))
     refine Q3 hT Xc (Qhm hT hS a ta (by omega)) (nl1 _ _) 3 ?_
     refine yx ?_
     iterate 6 (try (refine Qb 2 ?_; simp -implicitDefEqProofs (disch:=omega) only [go_sem,↓reduceIte,reduceCtorEq,rq,zA,beq_self_eq_true,hlb]))
     refine Q3 hT QC hW' rfl 3 ?_
     refine ya ?_
     iterate 6 (try (refine Qb 2 ?_; simp -implicitDefEqProofs (disch:=omega) only [go_sem,↓reduceIte,reduceCtorEq,rq,lR,and_true]))
     try simp
   | true =>
     have h5':=h5 rfl rfl
     subst h5'
     simp -implicitDefEqProofs (disch:=omega) only [go_sem,reduceCtorEq,false_implies,true_implies,and_true]
     iterate 20 (try (refine Qb 2 ?_; simp -implicitDefEqProofs (disch:=omega) only [go_sem,↓reduceIte,reduceCtorEq,rA,rq,zA]))
     refine Q3 hT QY w5 (nl2 _ _ _ _) 3 ?_
     refine ya ?_
     iterate 20 (try (refine Qb 2 ?_; simp -implicitDefEqProofs (disch:=omega) only [go_sem,↓reduceIte,reduceCtorEq,rq]))
     refine Q3 hT QY w6 (nl2 _ _ _ _) 3 ?_
     refine ya ?_
     iterate 6 (try (refine Qb 2 ?_; simp -implicitDefEqProofs (disch:=omega) only [go_sem,Qf,↓reduceIte,reduceCtorEq,rA,rq,rL,rT,Nat.reduceSub,Nat.reduceMul,Int.reduceToNat,Int.reduceLE,Int.reduceLT,Int.reduceEq,Int.reduceNe,Nat.succ_ne_zero,zA,aZ,Nat.mul_one,Nat.one_mul,Nat.zero_mul,decide_true,decide_false,nT,nF,lR,zL,ge_iff_le,gt_iff_lt,Nat.reduceBEq,Nat.reduceBNe,beq_self_eq_true,bne_self_eq_false,Option.isSome_some,Option.isSome_none,Option.getD_some,Option.getD_none,Qd,QcI,QcH,QcG,QcF,QcE,QcD,QcC,QcB,QcA,Qk,false_implies,true_implies,true_and,and_true,not_true_eq_false,not_false_eq_true,Int.reduceBEq,decide_true,decide_false,Bool.and_true,Bool.true_and,Bool.and_self,hlb]))
     refine Q3 hT Xc (Qhm hT hS a ta (by omega)) (nl1 _ _) 3 ?_
     refine yx ?_
     iterate 6 (try (refine Qb 2 ?_; simp -implicitDefEqProofs (disch:=omega) only [go_sem,↓reduceIte,reduceCtorEq,rq,zA,beq_self_eq_true,hlb]))
     refine Q3 hT QC hW' rfl 3 ?_
     refine ya ?_
     iterate 6 (try (refine Qb 2 ?_; simp -implicitDefEqProofs (disch:=omega) only [go_sem,↓reduceIte,reduceCtorEq,rq,lR,and_true]))
     try simp
end Go.Proofs.YtfgccihafnjalaaGreatDoor
