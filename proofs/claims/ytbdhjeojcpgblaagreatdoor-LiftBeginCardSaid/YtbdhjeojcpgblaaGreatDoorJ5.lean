/- Ours. -/
import Derived.Test.YtbdhjeojcpgblaaGreatDoorJ4
namespace Go.Proofs.YtbdhjeojcpgblaaGreatDoor
open Go Go.Am
set_option maxRecDepth 100000
variable {P:Program} {G:Nat→Option V}
set_option maxHeartbeats 1000000
section
attribute [local go_sem] Nat.le_refl Nat.zero_add Nat.zero_le beq_self_eq_true bne_self_eq_false decide_false decide_true ge_iff_le Qu
end
section
attribute [local go_sem] Bool.not_false Bool.not_true Nat.zero_add Nat.zero_le beq_self_eq_true decide_false decide_true ge_iff_le
end
section
attribute [local go_sem] Nat.le_refl Nat.zero_add Nat.zero_le bne_self_eq_false decide_false decide_true ge_iff_le
end
section
attribute [local go_sem] Nat.le_refl Nat.zero_add and_true beq_self_eq_true false_implies not_false_eq_true true_and true_implies
theorem QtO (x:Int):Qcb .i64 x 63=x % 64:=QgC .i64 6 _ 63 rfl (by decide)
end
end Go.Proofs.YtbdhjeojcpgblaaGreatDoor
namespace Go.Proofs.YtbdhjeojcpgblaaGreatDoor
open Go Go.Am
set_option maxRecDepth 100000
set_option maxHeartbeats 1000000
abbrev bv (a:Int):BitVec 64:=BitVec.ofInt 64 a
theorem Qv5 (v:BitVec 64):IntKind.i64.wrap (v.toNat:Int)=v.toInt:=by
 have h:=v.isLt
 rw [IntKind.wrap_i64,BitVec.toInt_eq_toNat_cond]
 split <;> omega
variable {a b op c y d z:Int}
theorem Qdf (h:i64 a):(bv a).toInt=a:=by
 unfold i64 at h
 rw [BitVec.toInt_ofInt,Int.bmod_def]
 have e:(((2:Nat) ^ 64:Nat):Int)=18446744073709551616:=rfl
 simp only [e]
 split <;> omega
theorem Qdt (v:BitVec 64):bv v.toInt=v:=by simp [bv]
theorem QTp (a b:Int):Qcb .i64 a b=(bv a &&& bv b).toInt:=Qv5 _
theorem orI_bv (a b:Int):orI .i64 a b=(bv a ||| bv b).toInt:=Qv5 _
theorem QRa (a b:Int):QPx .i64 a b=(bv a ^^^ bv b).toInt:=Qv5 _
theorem QQm (ha:i64 a) (hb:i64 b) (h:bv a=bv b):a=b:=by rw [← Qdf ha,← Qdf hb,h]
theorem do1 (a b:Int):doW 1 a b=IntKind.i64.wrap (a+b):=rfl
theorem do2 (a b:Int):doW 2 a b=IntKind.i64.wrap (a - b):=rfl
theorem do3 (a b:Int):doW 3 a b=IntKind.i64.wrap (a * b):=rfl
theorem do8 (a b:Int):doW 8 a b=(bv a &&& bv b).toInt:=QTp a b
theorem do9 (a b:Int):doW 9 a b=(bv a ||| bv b).toInt:=orI_bv a b
theorem QFJ (a b:Int):doW 10 a b=(bv a ^^^ bv b).toInt:=QRa a b
theorem do14 (a b:Int):doW 14 a b=if a<b then 1 else 0:=rfl
theorem do15 (a b:Int):doW 15 a b=if IntKind.u64.wrap a<IntKind.u64.wrap b then 1 else 0:=rfl
theorem QwU (a b:Int):doW 16 a b=if a=b then 1 else 0:=rfl
theorem Qrj (h:i64 a):IntKind.i64.wrap a=a:=wrap_i64 h.1 h.2
def Qhg (op:Int):Bool:=decide (op=1∨op=3∨op=8∨op=9∨op=10∨op=16)
def QhJ (op:Int):Bool:=decide (op=1∨op=3∨op=8∨op=9∨op=10)
def Qe7 (op:Int):Option Int :=
 if op=1∨op=2∨op=5∨op=7∨op=9∨op=10∨op=11∨op=12∨op=13 then some 0
 else if op=3∨op=4∨op=6 then some 1 else if op=8 then some (-1) else none
theorem QC9 (h:Qhg op=true):doW op a b=doW op b a:=by
 simp only [Qhg,decide_eq_true_eq] at h
 rcases h with rfl | rfl | rfl | rfl | rfl | rfl
 ·rw [do1,do1,Int.add_comm]
 ·rw [do3,do3,Int.mul_comm]
 ·rw [do8,do8,BitVec.and_comm]
 ·rw [do9,do9,BitVec.or_comm]
 ·rw [QFJ,QFJ,BitVec.xor_comm]
 ·rw [QwU,QwU]; simp only [eq_comm]
theorem QFI (h:QhJ op=true):doW op (doW op a b) c=doW op a (doW op b c):=by
 simp only [QhJ,decide_eq_true_eq] at h
 rcases h with rfl | rfl | rfl | rfl | rfl
 ·simp only [do1]
  exact Qun ((cg.add (Qyc _) (cg.refl _)).trans (by rw [Int.add_assoc]; exact (cg.add (cg.refl _) (Qyc _)).symm))
 ·simp only [do3]
  exact Qun ((cg.mul (Qyc _) (cg.refl _)).trans (by rw [Int.mul_assoc]; exact (cg.mul (cg.refl _) (Qyc _)).symm))
 ·simp only [do8,Qdt,BitVec.and_assoc]
 ·simp only [do9,Qdt,BitVec.or_assoc]
 ·simp only [QFJ,Qdt,BitVec.xor_assoc]
theorem bv0:bv 0=0#64:=by decide
theorem bvm1:bv (-1)=BitVec.allOnes 64:=by decide
theorem wU_1:IntKind.u64.wrap 1=1:=by decide
theorem wU_0:IntKind.u64.wrap 0=0:=by decide
theorem shl0 (a:Int):doW 11 a 0=IntKind.i64.wrap a:=by
 show IntKind.i64.wrap (a * 2 ^ min (Qcb .i64 0 63).toNat 64)=_
 rw [show (2:Int) ^ min (Qcb .i64 0 63).toNat 64=1 by decide,Int.mul_one]
theorem QFH (ha:i64 a) (h:Qe7 op=some c):doW op a c=a:=by
 unfold Qe7 at h
 split at h
 ·rename_i h1
  cases h
  rcases h1 with rfl | rfl | rfl | rfl | rfl | rfl | rfl | rfl | rfl
  ·rw [do1,Int.add_zero,Qrj ha]
  ·rw [do2,Int.sub_zero,Qrj ha]
  ·show QBQ a 0=a
   rw [QBQ,if_pos rfl]
  ·show QBR a 0=a
   rw [QBR,if_pos rfl]
  ·rw [do9,bv0,BitVec.or_zero,Qdf ha]
  ·rw [QFJ,bv0,BitVec.xor_zero,Qdf ha]
  ·rw [shl0,Qrj ha]
  ·show IntKind.i64.wrap ((IntKind.u64.wrap a).fdiv (2 ^ min (Qcb .i64 0 63).toNat 64))=a
   rw [show (2:Int) ^ min (Qcb .i64 0 63).toNat 64=1 by decide,Int.fdiv_one]
   exact (Qun (QFP a)).trans (Qrj ha)
  ·show a.fdiv (2 ^ min (Qcb .i64 0 63).toNat 64)=a
   rw [show (2:Int) ^ min (Qcb .i64 0 63).toNat 64=1 by decide,Int.fdiv_one]
 ·split at h
  ·rename_i h1
   cases h
   rcases h1 with rfl | rfl | rfl
   ·rw [do3,Int.mul_one,Qrj ha]
   ·show QQh a 1=a
    rw [QQh,if_neg (by decide),if_neg (by decide),Int.tdiv_one,Qrj ha]
   ·show divN a 1=a
    rw [divN,if_neg (by decide),wU_1,Int.tdiv_one]
    exact (Qun ((QFP _).trans (QFP a))).trans (Qrj ha)
  ·split at h
   ·rename_i h1
    cases h
    rw [h1,do8,bvm1,BitVec.and_allOnes,Qdf ha]
   ·cases h
theorem QsK (h:op=3∨op=8∨op=15):doW op a 0=0:=by
 rcases h with rfl | rfl | rfl
 ·rw [do3,Int.mul_zero]; rfl
 ·rw [do8,bv0,BitVec.and_zero]; rfl
 ·rw [do15,wU_0,if_neg (by have:=(QEp a).1; omega)]
theorem QFG (a:Int):doW 9 a (-1)=-1:=by
 rw [do9,bvm1,BitVec.or_allOnes]; decide
theorem QSL (h:op=5∨op=7):doW op a 1=0:=by
 rcases h with rfl | rfl
 ·show QBQ a 1=0
  rw [QBQ,if_neg (by decide),if_neg (by decide),Int.tmod_one]
 ·show QBR a 1=0
  rw [QBR,if_neg (by decide),wU_1,Int.tmod_one]; rfl
theorem QSJ (ha:i64 a):(op=2∨op=10∨op=14∨op=15→doW op a a=0)∧(op=16→doW op a a=1)∧(op=8∨op=9→doW op a a=a):=by
 refine ⟨?_,?_,?_⟩
 ·rintro (rfl | rfl | rfl | rfl)
  ·rw [do2,Int.sub_self]; rfl
  ·rw [QFJ,BitVec.xor_self]; rfl
  ·rw [do14,if_neg (by omega)]
  ·rw [do15,if_neg (by omega)]
 ·rintro rfl; rw [QwU,if_pos rfl]
 ·rintro (rfl | rfl)
  ·rw [do8,BitVec.and_self,Qdf ha]
  ·rw [do9,BitVec.or_self,Qdf ha]
theorem do_sub:doW 2 a c=doW 1 a (IntKind.i64.wrap (-c)):=by
 rw [do2,do1]
 exact Qun (by rw [Int.sub_eq_add_neg]; exact cg.add (cg.refl _) (Qyc _).symm)
theorem QDb (hy:i64 y) (hc:i64 c):doW 16 (doW 1 y d) c=doW 16 y (IntKind.i64.wrap (c - d)):=by
 rw [QwU,QwU,do1]
 unfold i64 at *
 have e:IntKind.i64.wrap (y+d)=c↔y=IntKind.i64.wrap (c - d):=by
  rw [IntKind.wrap_i64,IntKind.wrap_i64]; omega
 simp only [e]
theorem QDa (hy:i64 y) (hz:i64 z):doW 16 (doW 2 y z) 0=doW 16 y z:=by
 rw [QwU,QwU,do2]
 unfold i64 at *
 have e:IntKind.i64.wrap (y - z)=0↔y=z:=by rw [IntKind.wrap_i64]; omega
 simp only [e]
theorem Qrs (v:BitVec 64):i64 v.toInt:=by rw [← Qv5]; exact Xo _
theorem QsL (hy:i64 y) (hc:i64 c):doW 16 (doW 10 y d) c=doW 16 y (doW 10 c d):=by
 rw [QwU,QwU,QFJ,QFJ]
 have e:(bv y ^^^ bv d).toInt=c↔y=(bv c ^^^ bv d).toInt:=by
  constructor
  ·intro h
   refine QQm hy (Qrs _) ?_
   rw [Qdt,← h,Qdt,BitVec.xor_assoc,BitVec.xor_self,BitVec.xor_zero]
  ·intro h
   refine QQm (Qrs _) hc ?_
   rw [Qdt,h,Qdt,BitVec.xor_assoc,BitVec.xor_self,BitVec.xor_zero]
 simp only [e]
theorem QxU (hy:i64 y) (hz:i64 z):doW 16 (doW 10 y z) 0=doW 16 y z:=by
 rw [QsL hy (by unfold i64; omega),QFJ,bv0,BitVec.zero_xor,Qdf hz]
theorem QSN (a:Int) (ha:i64 a):doW 15 a 1=doW 16 a 0:=by
 rw [do15,QwU,wU_1]
 unfold i64 at ha
 have e:IntKind.u64.wrap a<1↔a=0:=by rw [QgE]; omega
 simp only [e]
theorem QSO (y:Int) (hy:i64 y):doW 15 0 y=doW 16 (doW 16 y 0) 0:=by
 rw [do15,QwU,QwU,wU_0]
 unfold i64 at hy
 have e:0<IntKind.u64.wrap y↔¬ y=0:=by rw [QgE]; omega
 by_cases h:y=0
 ·simp [h,wU_0]
 ·rw [if_pos (e.2 h),if_neg h,if_pos rfl]
theorem QSM (h:op=12∨op=13):doW op a c=doW op a (c % 64):=by
 have e:Qcb .i64 (c % 64) 63=Qcb .i64 c 63:=by rw [QtO,QtO]; omega
 rcases h with rfl | rfl
 ·show IntKind.i64.wrap ((IntKind.u64.wrap a).fdiv (2 ^ min (Qcb .i64 c 63).toNat 64))=IntKind.i64.wrap ((IntKind.u64.wrap a).fdiv (2 ^ min (Qcb .i64 (c % 64) 63).toNat 64))
  rw [e]
 ·show a.fdiv (2 ^ min (Qcb .i64 c 63).toNat 64)=a.fdiv (2 ^ min (Qcb .i64 (c % 64) 63).toNat 64)
  rw [e]
theorem do_shl:doW 11 a c=doW 3 a (IntKind.i64.wrap (2 ^ (c % 64).toNat)):=by
 show IntKind.i64.wrap (a * 2 ^ min (Qcb .i64 c 63).toNat 64)=_
 rw [QtO,Nat.min_eq_left (by omega),do3]
 exact Qun (cg.mul (cg.refl _) (Qyc _).symm)
def Qk6 (c:Int):Option Nat:=(List.range 64).find? fun k=>decide (IntKind.u64.wrap c=2 ^ k)
variable {k:Nat}
theorem Qbt (h:Qk6 c=some k):k<64∧IntKind.u64.wrap c=2 ^ k:=by
 have h1:=List.find?_some h
 have h2:=List.mem_of_find?_eq_some h
 simp at h1 h2
 exact ⟨h2,h1⟩
theorem QEq (hk:k<64):IntKind.u64.wrap a % 2 ^ k=a % 2 ^ k:=by
 rw [QgE]
 refine Int.emod_emod_of_dvd a ⟨2 ^ (64 - k),?_⟩
 rw [← Int.pow_add,show k+(64 - k)=64 by omega]; rfl
theorem QSP (h:Qk6 c=some k):doW 6 a c=doW 12 a k:=by
 obtain ⟨hk,hc⟩:=Qbt h
 have hp:=QpL k
 have hc0:c≠0:=by
  intro e; rw [e,wU_0] at hc; omega
 show divN a c=IntKind.i64.wrap ((IntKind.u64.wrap a).fdiv (2 ^ min (Qcb .i64 k 63).toNat 64))
 have e:(Qcb .i64 (k:Int) 63).toNat=k:=by rw [QtO]; omega
 rw [divN,if_neg hc0,hc,e,Nat.min_eq_left (by omega),Int.tdiv_eq_ediv_of_nonneg (QEp a).1,Int.fdiv_eq_ediv_of_nonneg _ (by omega)]
 exact Qun (QFP _)
theorem QEP (hc:i64 c) (h:Qk6 c=some k):IntKind.i64.wrap (c - 1)=2 ^ k - 1:=by
 obtain ⟨hk,hcp⟩:=Qbt h
 have hp:=QpL k
 have hp2:=Qwl (k:=k+1) (by omega)
 rw [Int.pow_succ] at hp2
 rw [QgE] at hcp
 unfold i64 at hc
 rw [IntKind.wrap_i64]
 omega
theorem QSK (ha:i64 a) (hc:i64 c) (h:Qk6 c=some k):doW 7 a c=doW 8 a (IntKind.i64.wrap (c - 1)):=by
 obtain ⟨hk,hcp⟩:=Qbt h
 have hp:=QpL k
 have hp2:=Qwl (k:=k+1) (by omega)
 rw [Int.pow_succ] at hp2
 have hc0:c≠0:=by
  intro e; rw [e,wU_0] at hcp; omega
 rw [QEP hc h]
 show QBR a c=Qcb .i64 a (2 ^ k - 1)
 have e:Qcb .i64 a (2 ^ k - 1)=a % 2 ^ k:=QgC .i64 k a _ rfl hk
 have hm:=QEq (a:=a) hk
 have h0:=Int.emod_nonneg a (show (2:Int) ^ k≠0 by omega)
 have h1:=Int.emod_lt_of_pos a hp
 rw [e,QBR,if_neg hc0,hcp,Int.tmod_eq_emod_of_nonneg (QEp a).1,hm]
 exact Qrj (by unfold i64; omega)
def two (v:Int):Prop:=v=0∨v=1
theorem QRp (h:op=14∨op=15∨op=16):two (doW op a b):=by
 rcases h with rfl | rfl | rfl
 ·rw [do14]; split <;> simp [two]
 ·rw [do15]; split <;> simp [two]
 ·rw [QwU]; split <;> simp [two]
theorem QBv {v:Int} (h:two v):doW 8 v c=if c % 2=1 then v else 0:=by
 rw [QC9 (by decide)]
 rcases h with rfl | rfl
 ·rw [QsK (by omega)]; split <;> rfl
 ·have e:doW 8 c 1=c % 2:=QgC .i64 1 c 1 rfl (by decide)
  rw [e]; split <;> omega
theorem QRo {v:Int} (h:two v):doW 16 v 1=v:=by
 rcases h with rfl | rfl <;> rfl
theorem QRn {v:Int} (h:two v) (h0:c≠0) (h1:c≠1):doW 16 v c=0:=by
 rw [QwU,if_neg]
 rcases h with rfl | rfl
 ·exact fun e=>h0 e.symm
 ·exact fun e=>h1 e.symm
theorem QRm {v:Int} (h:two v):doW 16 v 0=doW 10 v 1:=by
 rcases h with rfl | rfl <;> decide
theorem QRl {v:Int} (h:two v):doW 10 v c=doW 10 (doW 16 v 0) (doW 10 c 1):=by
 rw [QRm h]
 simp only [QFJ,Qdt]
 congr 1
 rw [BitVec.xor_assoc,BitVec.xor_comm (bv 1),BitVec.xor_assoc,BitVec.xor_self,BitVec.xor_zero]
theorem QEr {x:Int} (h:two x):doW 16 (doW 16 x 0) 0=x:=by
 rcases h with rfl | rfl <;> rfl
theorem Qgv (ha:i64 a) (hb:i64 b):i64 (doW op a b):=QDc ha hb
end Go.Proofs.YtbdhjeojcpgblaaGreatDoor
