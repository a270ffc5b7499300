/- The document's operations are the program's. -/
import Derived.Test.YtpdeoalocejodaaGreatDoorJ4
import Derived.Test.YtpdeoalocejodaaGreatDoorJ3
open Nat renaming reduceEqDiff → rq, reduceAdd → rA, reduceLeDiff → rL, reduceLT → rT, zero_add → zA, le_refl → lR, zero_le → zL, add_zero → aZ
open List renaming length_cons → lC, length_nil → lN, take_succ_cons → tSq, length_append → lA, nil_append → nA, cons_append → cA, append_assoc → aA, take_nil → tN, take_zero → tZ, length_map → lM
open Bool renaming not_false → nF, not_true → nT
namespace Go.Proofs.YtpdeoalocejodaaGreatDoor
open Go Go.Am
set_option maxRecDepth 100000
variable {P : Program} {G : Nat → Option V}
set_option maxHeartbeats 1000000
theorem QGO {a b : Int} (hb0 : b ≠ 0) : IntKind.i64.wrap (a.tdiv b) = Qw4 a b := by
 rw [Qw4, if_neg hb0]
 split
 ·rename_i h
  rw [h, show (-1 : Int) = -(1 : Int) from rfl, Int.tdiv_neg, Int.tdiv_one, Int.zero_sub]
 ·rfl
theorem QFV {a b : Int} (ha : i64 a) (hb0 : b ≠ 0) : IntKind.i64.wrap (a.tmod b) = QpP a b := by
 have e : a.tmod b = QpP a b := by
  rw [QpP, if_neg hb0]
  split
  ·rename_i h
   rw [h, show (-1 : Int) = -(1 : Int) from rfl, Int.tmod_neg, Int.tmod_one]
  ·rfl
 rw [e]
 have h : i64 (QpP a b) := by
  rw [← e]
  have h1 := Int.natAbs_tmod a b
  have h2 : (a.tmod b).natAbs ≤ a.natAbs := by rw [h1]; exact Nat.mod_le _ _
  unfold i64 at *
  by_cases h : 0 ≤ a
  ·have := Int.tmod_nonneg b h
   omega
  ·have := Int.tmod_nonneg b (a := -a) (by omega)
   rw [Int.neg_tmod] at this
   omega
 exact wrap_i64 h.1 h.2
theorem QGP {a b : Int} (hb0 : b ≠ 0) : IntKind.i64.wrap (IntKind.u64.wrap a / IntKind.u64.wrap b) = divN a b := by
 rw [divN, if_neg hb0, Int.tdiv_eq_ediv_of_nonneg (Qje a).1]
 exact QfF (QmN _).symm
theorem QFW {a b : Int} (hb0 : b ≠ 0) : IntKind.i64.wrap (IntKind.u64.wrap a % IntKind.u64.wrap b) = QrX a b := by
 rw [QrX, if_neg hb0, Int.tmod_eq_emod_of_nonneg (Qje a).1]
def quoW (op a b : Int) : Int := if op = 4 then Qw4 a b else if op = 5 then QpP a b else if op = 6 then divN a b else QrX a b
theorem QdO (hT : Qj P tab) (op a b : Int) (ho : op = 4 ∨ op = 5 ∨ op = 6 ∨ op = 7) (ha : i64 a) (hb : i64 b) : Pure P G Zq [.int .u8 op, .int .i64 a, .int .i64 b] fun v => v = .int .i64 (quoW op a b) := by
 intro t
 refine Ql 0 (zL _) (Qx hT Xb (by simp [Qp]) (Qs 1000 ?_))
 by_cases h0 : b = 0
 ·subst h0
  rcases ho with rfl | rfl | rfl | rfl
  ·simp -implicitDefEqProofs (disch := omega) only [go_sem, ↓reduceIte, reduceCtorEq, rA, rq, zA, lR, beq_self_eq_true, Qp, Qg7, Qg6, Qg5, Qg4, Qg3, Qg2, Qg1, Qg0, QgZ, QgY, Qdh, true_and]; rfl
  ·simp -implicitDefEqProofs (disch := omega) only [go_sem, ↓reduceIte, reduceCtorEq, rA, rq, Int.reduceEq, zA, lR, beq_self_eq_true, Qp, Qg7, Qg6, Qg5, Qg4, Qg3, Qg2, Qg1, Qg0, QgZ, QgY, Qdh, false_implies, true_implies, true_and, not_false_eq_true]; rfl
  ·simp -implicitDefEqProofs (disch := omega) only [go_sem, ↓reduceIte, reduceCtorEq, rA, rq, Int.reduceEq, zA, lR, beq_self_eq_true, Qp, Qg7, Qg6, Qg5, Qg4, Qg3, Qg2, Qg1, Qg0, QgZ, QgY, Qdh, false_implies, true_implies, true_and, not_false_eq_true]; rfl
  ·simp -implicitDefEqProofs (disch := omega) only [go_sem, ↓reduceIte, reduceCtorEq, rA, rq, Int.reduceEq, zA, lR, beq_self_eq_true, Qp, Qg7, Qg6, Qg5, Qg4, Qg3, Qg2, Qg1, Qg0, QgZ, QgY, Qdh, false_implies, true_implies, true_and, not_false_eq_true]; rfl
 ·have hd := Qsx (P := P) (G := G) hT a b hb h0
  have hs := Qza (P := P) (G := G) hT a b ha hb h0
  rw [QGP h0, QFW h0] at hd
  rw [QGO h0, QFV ha h0] at hs
  rcases ho with rfl | rfl | rfl | rfl
  ·refine yo ?_
   refine Qd hT QL hd rfl 1000 ?_
   refine ya ?_
   refine Qd hT YK hs rfl 1000 ?_
   simp -implicitDefEqProofs (disch := omega) only [go_sem, ↓reduceIte, reduceCtorEq, rA, rq, rT, zA, lR, beq_self_eq_true, true_and]; rfl
  ·refine yo ?_
   refine Qd hT QL hd rfl 1000 ?_
   simp -implicitDefEqProofs (disch := omega) only [go_sem, ↓reduceIte, reduceCtorEq, rA, rq, rT, Int.reduceEq, zA, beq_self_eq_true, false_implies, true_implies, true_and, not_false_eq_true]
   refine Qd hT YK hs rfl 1000 ?_
   simp -implicitDefEqProofs (disch := omega) only [go_sem, ↓reduceIte, reduceCtorEq, rA, rq, rT, Int.reduceEq, zA, lR, false_implies, true_implies, true_and, not_false_eq_true]; rfl
  ·refine yo ?_
   refine Qd hT QL hd rfl 1000 ?_
   simp -implicitDefEqProofs (disch := omega) only [go_sem, ↓reduceIte, reduceCtorEq, rA, rq, rT, Int.reduceEq, zA, lR, beq_self_eq_true, false_implies, true_implies, true_and, not_false_eq_true]; rfl
  ·refine yo ?_
   refine Qd hT QL hd rfl 1000 ?_
   simp -implicitDefEqProofs (disch := omega) only [go_sem, ↓reduceIte, reduceCtorEq, rA, rq, rT, Int.reduceEq, zA, lR, false_implies, true_implies, true_and, not_false_eq_true]; rfl
theorem and63U (x : Int) : IntKind.i64.wrap (QaO .u64 (IntKind.u64.wrap x) 63) = x % 64 := by
 have h : QaO .u64 (IntKind.u64.wrap x) 63 = IntKind.u64.wrap x % 64 := QgW .u64 6 _ 63 rfl (by decide)
 rw [h, Zd, IntKind.wrap_i64]
 omega
theorem QhV (x : Int) : QaO .i64 x 63 = x % 64 := QgW .i64 6 _ 63 rfl (by decide)
theorem c_shl (hT : Qj P tab) (a b : Int) : Pure P G XG [.int .i64 a, .bool true, .int .u64 0, .int .i64 (b % 64)] fun v => v = .int .i64 (doW 11 a b) := by
 obtain ⟨m, hm⟩ : ∃ m : Nat, b % 64 = m := ⟨(b % 64).toNat, by omega⟩
 have h := Qq3 (P := P) (G := G) hT a true 0 m (by omega) (a * 2 ^ m) (fun k hk => by rw [if_pos rfl]; exact bit_up)
 have e : doW 11 a b = IntKind.i64.wrap (a * 2 ^ m) := by
  show IntKind.i64.wrap (a * 2 ^ min (QaO .i64 b 63).toNat 64) = _
  rw [QhV, hm, Int.toNat_natCast, Nat.min_eq_left (by omega)]
 rw [hm, e]; exact h
theorem c_shr (hT : Qj P tab) (a b : Int) : Pure P G XG [.int .i64 a, .bool false, .int .u64 0, .int .i64 (b % 64)] fun v => v = .int .i64 (doW 12 a b) := by
 obtain ⟨m, hm⟩ : ∃ m : Nat, b % 64 = m := ⟨(b % 64).toNat, by omega⟩
 have h := Qq3 (P := P) (G := G) hT a false 0 m (by omega) (IntKind.u64.wrap a / 2 ^ m) (fun k hk => by
  rw [if_neg (by simp), QsB]
  split
  ·rename_i h; exact QHo h
  ·rw [Qx5 a (by omega)]; rfl)
 have e : doW 12 a b = IntKind.i64.wrap (IntKind.u64.wrap a / 2 ^ m) := by
  show IntKind.i64.wrap ((IntKind.u64.wrap a).fdiv (2 ^ min (QaO .i64 b 63).toNat 64)) = _
  rw [QhV, hm, Int.toNat_natCast, Nat.min_eq_left (by omega), Int.fdiv_eq_ediv_of_nonneg _ (Int.le_of_lt (Xr m))]
 rw [hm, e]; exact h
theorem c_sar (hT : Qj P tab) (a b : Int) (ha : i64 a) : Pure P G XG [.int .i64 a, .bool false, .int .u64 (a / 2 ^ 63 % 2), .int .i64 (b % 64)] fun v => v = .int .i64 (doW 13 a b) := by
 obtain ⟨m, hm⟩ : ∃ m : Nat, b % 64 = m := ⟨(b % 64).toNat, by omega⟩
 have h := Qq3 (P := P) (G := G) hT a false (a / 2 ^ 63 % 2) m (by omega) (a / 2 ^ m) (fun k hk => by
  rw [if_neg (by simp), QsB]
  split
  ·rfl
  ·rw [Qsr ha (k := k + m) (by omega), Qsr ha (k := 63) (by omega)])
 have hp := Xr m
 have e : doW 13 a b = IntKind.i64.wrap (a / 2 ^ m) := by
  have hr : i64 (a / 2 ^ m) := by
   unfold i64 at *
   have h1 := Int.ediv_le_ediv hp (a := a) (b := 9223372036854775807) (by omega)
   have h2 := Int.ediv_le_ediv hp (a := -9223372036854775808) (b := a) (by omega)
   have h3 : (9223372036854775807 : Int) / 2 ^ m ≤ 9223372036854775807 := Int.ediv_le_self _ (by omega)
   have h4 : -9223372036854775808 ≤ (-9223372036854775808 : Int) / 2 ^ m := by
    rw [Int.le_ediv_iff_mul_le hp]
    omega
   omega
  rw [wrap_i64 hr.1 hr.2]
  show a.fdiv (2 ^ min (QaO .i64 b 63).toNat 64) = _
  rw [QhV, hm, Int.toNat_natCast, Nat.min_eq_left (by omega), Int.fdiv_eq_ediv_of_nonneg _ (Int.le_of_lt (Xr m))]
 rw [hm, e]; exact h
theorem c_rDo (hT : Qj P tab) (op a b : Int) (ho : 0 ≤ op ∧ op ≤ 255) (ha : i64 a) (hb : i64 b) : Pure P G QbN [.int .u8 op, .int .i64 a, .int .i64 b] fun v => v = .int .i64 (doW op a b) := by
 intro t
 refine Ql 0 (zL _) (Qx hT Xn (by simp [Qm]) (Qs 1000 ?_))
 have h63 := and63U b
 have hadd := fun x => Qzc (P := P) (G := G) hT a x
 have hsub : IntKind.i64.wrap (a + IntKind.i64.wrap (-b)) = doW 2 a b := QfF (cg.add (cg.refl _) (QhO _))
 by_cases h1 : op = 1
 ·subst h1
  simp -implicitDefEqProofs (disch := omega) only [go_sem, ↓reduceIte, reduceCtorEq, rA, rq, zA, beq_self_eq_true, Qm, Qee, Qed, Qec, Qeb, Qea, Qd9, Qd8, Qd7, Qd6, Qd5, QaG, QaF, QaE, QaD, QaC, QaB, QaA, Qaz, Qay, Qax, Qaw, Qav, Qau, Qat, Qas, Qar, Qaq, Qap, Qao, Qan, Qam, Qal, Qak, h63]
  refine Qd hT Xc (hadd b) rfl 1000 ?_
  simp -implicitDefEqProofs (disch := omega) only [go_sem, ↓reduceIte, reduceCtorEq, rq, lR, true_and]; rfl
 by_cases h2 : op = 2
 ·subst h2
  refine yc ?_
  refine Qd hT QC (Qxj hT b) rfl 1000 ?_
  refine ya ?_
  refine Qd hT Xc (hadd _) rfl 1000 ?_
  simp -implicitDefEqProofs (disch := omega) only [go_sem, ↓reduceIte, reduceCtorEq, rq, lR, and_true, hsub]
 by_cases h3 : op = 3
 ·subst h3
  refine yc ?_
  refine Qd hT Qbi (c_mul hT a b) rfl 1000 ?_
  simp -implicitDefEqProofs (disch := omega) only [go_sem, ↓reduceIte, reduceCtorEq, rq, lR, true_and]; rfl
 by_cases h4 : op = 4
 ·subst h4
  refine yc ?_
  refine Qd hT Xb (QdO hT 4 a b (by omega) ha hb) rfl 1000 ?_
  simp -implicitDefEqProofs (disch := omega) only [go_sem, ↓reduceIte, reduceCtorEq, rq, lR, true_and]; rfl
 by_cases h5 : op = 5
 ·subst h5
  refine yc ?_
  refine Qd hT Xb (QdO hT 5 a b (by omega) ha hb) rfl 1000 ?_
  simp -implicitDefEqProofs (disch := omega) only [go_sem, ↓reduceIte, reduceCtorEq, rq, lR, true_and]; rfl
 by_cases h6 : op = 6
 ·subst h6
  refine yc ?_
  refine Qd hT Xb (QdO hT 6 a b (by omega) ha hb) rfl 1000 ?_
  simp -implicitDefEqProofs (disch := omega) only [go_sem, ↓reduceIte, reduceCtorEq, rq, lR, true_and]; rfl
 by_cases h7 : op = 7
 ·subst h7
  refine yc ?_
  refine Qd hT Xb (QdO hT 7 a b (by omega) ha hb) rfl 1000 ?_
  simp -implicitDefEqProofs (disch := omega) only [go_sem, ↓reduceIte, reduceCtorEq, rq, lR, true_and]; rfl
 by_cases h8 : op = 8
 ·subst h8
  simp -implicitDefEqProofs (disch := omega) only [go_sem, ↓reduceIte, reduceCtorEq, rA, rq, Int.reduceEq, zA, lR, beq_self_eq_true, Qm, Qee, Qed, Qec, Qeb, Qea, Qd9, Qd8, Qd7, Qd6, Qd5, QaG, QaF, QaE, QaD, QaC, QaB, QaA, Qaz, Qay, Qax, Qaw, Qav, Qau, Qat, Qas, Qar, Qaq, Qap, Qao, Qan, Qam, Qal, Qak, false_implies, true_implies, true_and, not_false_eq_true, h63]; rfl
 by_cases h9 : op = 9
 ·subst h9
  simp -implicitDefEqProofs (disch := omega) only [go_sem, ↓reduceIte, reduceCtorEq, rA, rq, Int.reduceEq, zA, lR, beq_self_eq_true, Qm, Qee, Qed, Qec, Qeb, Qea, Qd9, Qd8, Qd7, Qd6, Qd5, QaG, QaF, QaE, QaD, QaC, QaB, QaA, Qaz, Qay, Qax, Qaw, Qav, Qau, Qat, Qas, Qar, Qaq, Qap, Qao, Qan, Qam, Qal, Qak, false_implies, true_implies, true_and, not_false_eq_true, h63]; rfl
 by_cases h10 : op = 10
 ·subst h10
  simp -implicitDefEqProofs (disch := omega) only [go_sem, ↓reduceIte, reduceCtorEq, rA, rq, Int.reduceEq, zA, lR, beq_self_eq_true, Qm, Qee, Qed, Qec, Qeb, Qea, Qd9, Qd8, Qd7, Qd6, Qd5, QaG, QaF, QaE, QaD, QaC, QaB, QaA, Qaz, Qay, Qax, Qaw, Qav, Qau, Qat, Qas, Qar, Qaq, Qap, Qao, Qan, Qam, Qal, Qak, false_implies, true_implies, true_and, not_false_eq_true, h63]; rfl
 by_cases h11 : op = 11
 ·subst h11
  refine yc ?_
  refine Qd hT Yg (c_shl hT a b) rfl 1000 ?_
  exact yh
 by_cases h12 : op = 12
 ·subst h12
  refine yc ?_
  refine Qd hT Yg (c_shr hT a b) rfl 1000 ?_
  exact yh
 by_cases h13 : op = 13
 ·subst h13
  refine yc ?_
  refine Qd hT Qi (Qld hT a (show 63 < 64 by omega)) rfl 1000 ?_
  refine ya ?_
  refine Qd hT Yg (c_sar hT a b ha) rfl 1000 ?_
  exact yh
 by_cases h14 : op = 14
 ·subst h14
  have hbl := Qq4 (P := P) (G := G) hT (QsJ .i64 a (-9223372036854775808)) (QsJ .i64 b (-9223372036854775808))
  rw [Qvz ha, Qvz hb] at hbl
  have e : decide (a + 9223372036854775808 < b + 9223372036854775808) = decide (a < b) := by rw [Bool.eq_iff_iff, decide_eq_true_eq, decide_eq_true_eq]; omega
  rw [e] at hbl
  have e2 : (if decide (a < b) = true then (1 : Int) else 0) = doW 14 a b := by
   show _ = (if a < b then 1 else 0)
   by_cases h : a < b <;> simp [h]
  refine yc ?_
  refine Qd hT XD hbl rfl 1000 ?_
  refine ya ?_
  refine Qd hT Yz (QG1 hT _) rfl 1000 ?_
  refine yk ?_
  rfl
 by_cases h15 : op = 15
 ·subst h15
  have e2 : (if decide (IntKind.u64.wrap a < IntKind.u64.wrap b) = true then (1 : Int) else 0) = doW 15 a b := by
   show _ = (if IntKind.u64.wrap a < IntKind.u64.wrap b then 1 else 0)
   by_cases h : IntKind.u64.wrap a < IntKind.u64.wrap b <;> simp [h]
  refine yc ?_
  refine Qd hT XD (Qq4 hT a b) rfl 1000 ?_
  refine ya ?_
  refine Qd hT Yz (QG1 hT _) rfl 1000 ?_
  refine yk ?_
  rfl
 by_cases h16 : op = 16
 ·subst h16
  have e2 : (if (a == b) = true then (1 : Int) else 0) = doW 16 a b := by
   show _ = (if a = b then 1 else 0)
   by_cases h : a = b <;> simp [h]
  refine yc ?_
  refine Qd hT Yz (QG1 hT _) rfl 1000 ?_
  refine yk ?_
  rfl
 have e : doW op a b = 0 := by simp [doW, h1, h2, h3, h4, h5, h6, h7, h8, h9, h10, h11, h12, h13, h14, h15, h16]
 simp -implicitDefEqProofs (disch := omega) only [go_sem, ↓reduceIte, reduceCtorEq, rA, rq, zA, lR, Qm, Qee, Qed, Qec, Qeb, Qea, Qd9, Qd8, Qd7, Qd6, Qd5, QaG, QaF, QaE, QaD, QaC, QaB, QaA, Qaz, Qay, Qax, Qaw, Qav, Qau, Qat, Qas, Qar, Qaq, Qap, Qao, Qan, Qam, Qal, Qak, false_implies, true_implies, true_and, and_true, not_false_eq_true, h63, h1, h2, h3, h4, h5, h6, h7, h8, h9, h10, h11, h12, h13, h14, h15, h16, e]
end Go.Proofs.YtpdeoalocejodaaGreatDoor
namespace Go.Proofs.YtpdeoalocejodaaGreatDoor
open Go Go.Am
set_option maxRecDepth 100000
set_option maxHeartbeats 1000000
abbrev bv (a : Int) : BitVec 64 := BitVec.ofInt 64 a
theorem Qn0 (v : BitVec 64) : IntKind.i64.wrap (v.toNat : Int) = v.toInt := by
 have h := v.isLt
 rw [IntKind.wrap_i64, BitVec.toInt_eq_toNat_cond]
 split <;> omega
theorem Qcd {a : Int} (h : i64 a) : (bv a).toInt = a := by
 unfold i64 at h
 rw [BitVec.toInt_ofInt, Int.bmod_def]
 have e : (((2 : Nat) ^ 64 : Nat) : Int) = 18446744073709551616 := rfl
 simp only [e]
 split <;> omega
theorem Qcr (v : BitVec 64) : bv v.toInt = v := by simp [bv]
theorem QHe (a b : Int) : QaO .i64 a b = (bv a &&& bv b).toInt := Qn0 _
theorem orI_bv (a b : Int) : orI .i64 a b = (bv a ||| bv b).toInt := Qn0 _
theorem QFG (a b : Int) : QsJ .i64 a b = (bv a ^^^ bv b).toInt := Qn0 _
theorem QEl {a b : Int} (ha : i64 a) (hb : i64 b) (h : bv a = bv b) : a = b := by rw [← Qcd ha, ← Qcd hb, h]
theorem do1 (a b : Int) : doW 1 a b = IntKind.i64.wrap (a + b) := rfl
theorem do2 (a b : Int) : doW 2 a b = IntKind.i64.wrap (a - b) := rfl
theorem do3 (a b : Int) : doW 3 a b = IntKind.i64.wrap (a * b) := rfl
theorem do8 (a b : Int) : doW 8 a b = (bv a &&& bv b).toInt := QHe a b
theorem do9 (a b : Int) : doW 9 a b = (bv a ||| bv b).toInt := orI_bv a b
theorem Qw3 (a b : Int) : doW 10 a b = (bv a ^^^ bv b).toInt := QFG a b
theorem do14 (a b : Int) : doW 14 a b = if a < b then 1 else 0 := rfl
theorem do15 (a b : Int) : doW 15 a b = if IntKind.u64.wrap a < IntKind.u64.wrap b then 1 else 0 := rfl
theorem Qst (a b : Int) : doW 16 a b = if a = b then 1 else 0 := rfl
theorem QlW {a : Int} (h : i64 a) : IntKind.i64.wrap a = a := wrap_i64 h.1 h.2
def QaK (op : Int) : Bool := decide (op = 1 ∨ op = 3 ∨ op = 8 ∨ op = 9 ∨ op = 10 ∨ op = 16)
def XB (op : Int) : Bool := decide (op = 1 ∨ op = 3 ∨ op = 8 ∨ op = 9 ∨ op = 10)
def QQ (op : Int) : Option Int :=
 if op = 1 ∨ op = 2 ∨ op = 5 ∨ op = 7 ∨ op = 9 ∨ op = 10 ∨ op = 11 ∨ op = 12 ∨ op = 13 then some 0
 else if op = 3 ∨ op = 4 ∨ op = 6 then some 1 else if op = 8 then some (-1) else none
theorem QdH {op a b : Int} (h : QaK op = true) : doW op a b = doW op b a := by
 simp only [QaK, decide_eq_true_eq] at h
 rcases h with rfl | rfl | rfl | rfl | rfl | rfl
 ·rw [do1, do1, Int.add_comm]
 ·rw [do3, do3, Int.mul_comm]
 ·rw [do8, do8, BitVec.and_comm]
 ·rw [do9, do9, BitVec.or_comm]
 ·rw [Qw3, Qw3, BitVec.xor_comm]
 ·rw [Qst, Qst]; simp only [eq_comm]
theorem Qbs {op a b c : Int} (h : XB op = true) : doW op (doW op a b) c = doW op a (doW op b c) := by
 simp only [XB, decide_eq_true_eq] at h
 rcases h with rfl | rfl | rfl | rfl | rfl
 ·simp only [do1]
  exact QfF ((cg.add (QhO _) (cg.refl _)).trans (by rw [Int.add_assoc]; exact (cg.add (cg.refl _) (QhO _)).symm))
 ·simp only [do3]
  exact QfF ((cg.mul (QhO _) (cg.refl _)).trans (by rw [Int.mul_assoc]; exact (cg.mul (cg.refl _) (QhO _)).symm))
 ·simp only [do8, Qcr, BitVec.and_assoc]
 ·simp only [do9, Qcr, BitVec.or_assoc]
 ·simp only [Qw3, Qcr, BitVec.xor_assoc]
theorem bv0 : bv 0 = 0#64 := by decide
theorem bvm1 : bv (-1) = BitVec.allOnes 64 := by decide
theorem wU_1 : IntKind.u64.wrap 1 = 1 := by decide
theorem wU_0 : IntKind.u64.wrap 0 = 0 := by decide
theorem shl0 (a : Int) : doW 11 a 0 = IntKind.i64.wrap a := by
 show IntKind.i64.wrap (a * 2 ^ min (QaO .i64 0 63).toNat 64) = _
 rw [show (2 : Int) ^ min (QaO .i64 0 63).toNat 64 = 1 by decide, Int.mul_one]
theorem Qag {op a c : Int} (ha : i64 a) (h : QQ op = some c) : doW op a c = a := by
 unfold QQ at h
 split at h
 ·rename_i h1
  cases h
  rcases h1 with rfl | rfl | rfl | rfl | rfl | rfl | rfl | rfl | rfl
  ·rw [do1, Int.add_zero, QlW ha]
  ·rw [do2, Int.sub_zero, QlW ha]
  ·show QpP a 0 = a
   rw [QpP, if_pos rfl]
  ·show QrX a 0 = a
   rw [QrX, if_pos rfl]
  ·rw [do9, bv0, BitVec.or_zero, Qcd ha]
  ·rw [Qw3, bv0, BitVec.xor_zero, Qcd ha]
  ·rw [shl0, QlW ha]
  ·show IntKind.i64.wrap ((IntKind.u64.wrap a).fdiv (2 ^ min (QaO .i64 0 63).toNat 64)) = a
   rw [show (2 : Int) ^ min (QaO .i64 0 63).toNat 64 = 1 by decide, Int.fdiv_one]
   exact (QfF (QmN a)).trans (QlW ha)
  ·show a.fdiv (2 ^ min (QaO .i64 0 63).toNat 64) = a
   rw [show (2 : Int) ^ min (QaO .i64 0 63).toNat 64 = 1 by decide, Int.fdiv_one]
 ·split at h
  ·rename_i h1
   cases h
   rcases h1 with rfl | rfl | rfl
   ·rw [do3, Int.mul_one, QlW ha]
   ·show Qw4 a 1 = a
    rw [Qw4, if_neg (by decide), if_neg (by decide), Int.tdiv_one, QlW ha]
   ·show divN a 1 = a
    rw [divN, if_neg (by decide), wU_1, Int.tdiv_one]
    exact (QfF ((QmN _).trans (QmN a))).trans (QlW ha)
  ·split at h
   ·rename_i h1
    cases h
    rw [h1, do8, bvm1, BitVec.and_allOnes, Qcd ha]
   ·cases h
theorem QhH {op a : Int} (h : op = 3 ∨ op = 8 ∨ op = 15) : doW op a 0 = 0 := by
 rcases h with rfl | rfl | rfl
 ·rw [do3, Int.mul_zero]; rfl
 ·rw [do8, bv0, BitVec.and_zero]; rfl
 ·rw [do15, wU_0, if_neg (by have := (Qje a).1; omega)]
theorem QjO (a : Int) : doW 9 a (-1) = -1 := by
 rw [do9, bvm1, BitVec.or_allOnes]; decide
theorem QwY {op a : Int} (h : op = 5 ∨ op = 7) : doW op a 1 = 0 := by
 rcases h with rfl | rfl
 ·show QpP a 1 = 0
  rw [QpP, if_neg (by decide), if_neg (by decide), Int.tmod_one]
 ·show QrX a 1 = 0
  rw [QrX, if_neg (by decide), wU_1, Int.tmod_one]; rfl
theorem QqT {op a : Int} (ha : i64 a) : (op = 2 ∨ op = 10 ∨ op = 14 ∨ op = 15 → doW op a a = 0) ∧ (op = 16 → doW op a a = 1) ∧ (op = 8 ∨ op = 9 → doW op a a = a) := by
 refine ⟨?_, ?_, ?_⟩
 ·rintro (rfl | rfl | rfl | rfl)
  ·rw [do2, Int.sub_self]; rfl
  ·rw [Qw3, BitVec.xor_self]; rfl
  ·rw [do14, if_neg (by omega)]
  ·rw [do15, if_neg (by omega)]
 ·rintro rfl; rw [Qst, if_pos rfl]
 ·rintro (rfl | rfl)
  ·rw [do8, BitVec.and_self, Qcd ha]
  ·rw [do9, BitVec.or_self, Qcd ha]
theorem do_sub {a c : Int} : doW 2 a c = doW 1 a (IntKind.i64.wrap (-c)) := by
 rw [do2, do1]
 exact QfF (by rw [Int.sub_eq_add_neg]; exact cg.add (cg.refl _) (QhO _).symm)
theorem QoV {y d c : Int} (hy : i64 y) (hc : i64 c) : doW 16 (doW 1 y d) c = doW 16 y (IntKind.i64.wrap (c - d)) := by
 rw [Qst, Qst, do1]
 unfold i64 at *
 have e : IntKind.i64.wrap (y + d) = c ↔ y = IntKind.i64.wrap (c - d) := by
  rw [IntKind.wrap_i64, IntKind.wrap_i64]; omega
 simp only [e]
theorem QoU {y z : Int} (hy : i64 y) (hz : i64 z) : doW 16 (doW 2 y z) 0 = doW 16 y z := by
 rw [Qst, Qst, do2]
 unfold i64 at *
 have e : IntKind.i64.wrap (y - z) = 0 ↔ y = z := by rw [IntKind.wrap_i64]; omega
 simp only [e]
theorem Qn8 (v : BitVec 64) : i64 v.toInt := by rw [← Qn0]; exact Qq _
theorem QoT {y d c : Int} (hy : i64 y) (hc : i64 c) : doW 16 (doW 10 y d) c = doW 16 y (doW 10 c d) := by
 rw [Qst, Qst, Qw3, Qw3]
 have e : (bv y ^^^ bv d).toInt = c ↔ y = (bv c ^^^ bv d).toInt := by
  constructor
  ·intro h
   refine QEl hy (Qn8 _) ?_
   rw [Qcr, ← h, Qcr, BitVec.xor_assoc, BitVec.xor_self, BitVec.xor_zero]
  ·intro h
   refine QEl (Qn8 _) hc ?_
   rw [Qcr, h, Qcr, BitVec.xor_assoc, BitVec.xor_self, BitVec.xor_zero]
 simp only [e]
theorem Qit {y z : Int} (hy : i64 y) (hz : i64 z) : doW 16 (doW 10 y z) 0 = doW 16 y z := by
 rw [QoT hy (by unfold i64; omega), Qw3, bv0, BitVec.zero_xor, Qcd hz]
theorem Qw0 (a : Int) (ha : i64 a) : doW 15 a 1 = doW 16 a 0 := by
 rw [do15, Qst, wU_1]
 unfold i64 at ha
 have e : IntKind.u64.wrap a < 1 ↔ a = 0 := by rw [Zd]; omega
 simp only [e]
theorem Qw1 (y : Int) (hy : i64 y) : doW 15 0 y = doW 16 (doW 16 y 0) 0 := by
 rw [do15, Qst, Qst, wU_0]
 unfold i64 at hy
 have e : 0 < IntKind.u64.wrap y ↔ ¬ y = 0 := by rw [Zd]; omega
 by_cases h : y = 0
 ·simp [h, wU_0]
 ·rw [if_pos (e.2 h), if_neg h, if_pos rfl]
theorem QwZ {op a c : Int} (h : op = 12 ∨ op = 13) : doW op a c = doW op a (c % 64) := by
 have e : QaO .i64 (c % 64) 63 = QaO .i64 c 63 := by rw [QhV, QhV]; omega
 rcases h with rfl | rfl
 ·show IntKind.i64.wrap ((IntKind.u64.wrap a).fdiv (2 ^ min (QaO .i64 c 63).toNat 64)) = IntKind.i64.wrap ((IntKind.u64.wrap a).fdiv (2 ^ min (QaO .i64 (c % 64) 63).toNat 64))
  rw [e]
 ·show a.fdiv (2 ^ min (QaO .i64 c 63).toNat 64) = a.fdiv (2 ^ min (QaO .i64 (c % 64) 63).toNat 64)
  rw [e]
theorem do_shl {a c : Int} : doW 11 a c = doW 3 a (IntKind.i64.wrap (2 ^ (c % 64).toNat)) := by
 show IntKind.i64.wrap (a * 2 ^ min (QaO .i64 c 63).toNat 64) = _
 rw [QhV, Nat.min_eq_left (by omega), do3]
 exact QfF (cg.mul (cg.refl _) (QhO _).symm)
def QeS (c : Int) : Option Nat := (List.range 64).find? fun k => decide (IntKind.u64.wrap c = 2 ^ k)
theorem Yf {c : Int} {k : Nat} (h : QeS c = some k) : k < 64 ∧ IntKind.u64.wrap c = 2 ^ k := by
 have h1 := List.find?_some h
 have h2 := List.mem_of_find?_eq_some h
 simp at h1 h2
 exact ⟨h2, h1⟩
theorem Qx4 {a : Int} {k : Nat} (hk : k < 64) : IntKind.u64.wrap a % 2 ^ k = a % 2 ^ k := by
 rw [Zd]
 refine Int.emod_emod_of_dvd a ⟨2 ^ (64 - k), ?_⟩
 rw [← Int.pow_add, show k + (64 - k) = 64 by omega]; rfl
theorem Qw2 {a c : Int} {k : Nat} (h : QeS c = some k) : doW 6 a c = doW 12 a k := by
 obtain ⟨hk, hc⟩ := Yf h
 have hp := Xr k
 have hc0 : c ≠ 0 := by
  intro e; rw [e, wU_0] at hc; omega
 show divN a c = IntKind.i64.wrap ((IntKind.u64.wrap a).fdiv (2 ^ min (QaO .i64 k 63).toNat 64))
 have e : (QaO .i64 (k : Int) 63).toNat = k := by rw [QhV]; omega
 rw [divN, if_neg hc0, hc, e, Nat.min_eq_left (by omega), Int.tdiv_eq_ediv_of_nonneg (Qje a).1, Int.fdiv_eq_ediv_of_nonneg _ (by omega)]
 exact QfF (QmN _)
theorem Qyr {c : Int} {k : Nat} (hc : i64 c) (h : QeS c = some k) : IntKind.i64.wrap (c - 1) = 2 ^ k - 1 := by
 obtain ⟨hk, hcp⟩ := Yf h
 have hp := Xr k
 have hp2 := Qdp (k := k + 1) (by omega)
 rw [Int.pow_succ] at hp2
 rw [Zd] at hcp
 unfold i64 at hc
 rw [IntKind.wrap_i64]
 omega
theorem QwX {a c : Int} {k : Nat} (ha : i64 a) (hc : i64 c) (h : QeS c = some k) : doW 7 a c = doW 8 a (IntKind.i64.wrap (c - 1)) := by
 obtain ⟨hk, hcp⟩ := Yf h
 have hp := Xr k
 have hp2 := Qdp (k := k + 1) (by omega)
 rw [Int.pow_succ] at hp2
 have hc0 : c ≠ 0 := by
  intro e; rw [e, wU_0] at hcp; omega
 rw [Qyr hc h]
 show QrX a c = QaO .i64 a (2 ^ k - 1)
 have e : QaO .i64 a (2 ^ k - 1) = a % 2 ^ k := QgW .i64 k a _ rfl hk
 have hm := Qx4 (a := a) hk
 have h0 := Int.emod_nonneg a (show (2 : Int) ^ k ≠ 0 by omega)
 have h1 := Int.emod_lt_of_pos a hp
 rw [e, QrX, if_neg hc0, hcp, Int.tmod_eq_emod_of_nonneg (Qje a).1, hm]
 exact QlW (by unfold i64; omega)
def two (v : Int) : Prop := v = 0 ∨ v = 1
theorem Qqb {op a b : Int} (h : op = 14 ∨ op = 15 ∨ op = 16) : two (doW op a b) := by
 rcases h with rfl | rfl | rfl
 ·rw [do14]; split <;> simp [two]
 ·rw [do15]; split <;> simp [two]
 ·rw [Qst]; split <;> simp [two]
theorem Qqc {v c : Int} (h : two v) : doW 8 v c = if c % 2 = 1 then v else 0 := by
 rw [QdH (by decide)]
 rcases h with rfl | rfl
 ·rw [QhH (by omega)]; split <;> rfl
 ·have e : doW 8 c 1 = c % 2 := QgW .i64 1 c 1 rfl (by decide)
  rw [e]; split <;> omega
theorem QvM {v : Int} (h : two v) : doW 16 v 1 = v := by
 rcases h with rfl | rfl <;> rfl
theorem QvL {v c : Int} (h : two v) (h0 : c ≠ 0) (h1 : c ≠ 1) : doW 16 v c = 0 := by
 rw [Qst, if_neg]
 rcases h with rfl | rfl
 ·exact fun e => h0 e.symm
 ·exact fun e => h1 e.symm
theorem QvK {v : Int} (h : two v) : doW 16 v 0 = doW 10 v 1 := by
 rcases h with rfl | rfl <;> decide
theorem QFK {v c : Int} (h : two v) : doW 10 v c = doW 10 (doW 16 v 0) (doW 10 c 1) := by
 rw [QvK h]
 simp only [Qw3, Qcr]
 congr 1
 rw [BitVec.xor_assoc, BitVec.xor_comm (bv 1), BitVec.xor_assoc, BitVec.xor_self, BitVec.xor_zero]
theorem QrL {x : Int} (h : two x) : doW 16 (doW 16 x 0) 0 = x := by
 rcases h with rfl | rfl <;> rfl
theorem Xz {op a b : Int} (ha : i64 a) (hb : i64 b) : i64 (doW op a b) := QqU ha hb
def inG (L : List Nd) (x : Int) : Prop := 0 ≤ x ∧ x < L.length
instance {L : List Nd} {x : Int} : Decidable (inG L x) := by unfold inG; infer_instance
def QE (L : List Nd) (x : Int) : Option Int := if inG L x ∧ (nd L x).kind = 1 then some (nd L x).n else none
def Yt (L : List Nd) (x : Int) : Bool := decide (inG L x ∧ (((nd L x).kind = 4 ∧ ((nd L x).op = 14 ∨ (nd L x).op = 15 ∨ (nd L x).op = 16)) ∨ ((nd L x).kind = 1 ∧ ((nd L x).n = 0 ∨ (nd L x).n = 1))))
def ofI (L : List Nd) (x op : Int) : Option (Int × Int) := if inG L x ∧ (nd L x).kind = 4 ∧ (nd L x).op = op then some ((nd L x).x, (nd L x).y) else none
def Xw (L : List Nd) (x op : Int) : Option (Int × Int) := (ofI L x op).bind fun p => (QE L p.2).map fun c => (p.1, c)
abbrev GR := Int × List Nd
abbrev ZR := List Nd → Int → Int → Int → Option GR
def numN (L : List Nd) (n : Int) : GR := addN L ⟨1, n, 0, 0, 0, 0⟩
def withN (bin : ZR) (L : List Nd) (op x n : Int) : Option GR := bin (numN L n).2 op x (numN L n).1
def ZI (L : List Nd) (op x : Int) : GR :=
 if op = 2 ∨ op = 10 ∨ op = 14 ∨ op = 15 then numN L 0 else if op = 16 then numN L 1 else if op = 8 ∨ op = 9 then (x, L) else (-1, L)
def QT (L : List Nd) (op x c : Int) : GR :=
 if QQ op = some c then (x, L)
 else if (op = 3 ∨ op = 8 ∨ op = 15) ∧ c = 0 then numN L 0
 else if op = 9 ∧ c = -1 then numN L (-1)
 else if (op = 5 ∨ op = 7) ∧ c = 1 then numN L 0
 else (-1, L)
def Xm (bin : ZR) (L : List Nd) (op x c : Int) : Option GR :=
 if op = 2 then withN bin L 1 x (IntKind.i64.wrap (-c))
 else if op = 11 then withN bin L 3 x (IntKind.i64.wrap (2 ^ (c % 64).toNat))
 else if (op = 12 ∨ op = 13) ∧ c ≠ c % 64 then withN bin L op x (c % 64)
 else if op = 6 ∧ (QeS c).isSome = true then withN bin L 12 x ((QeS c).getD 0 : Nat)
 else if op = 7 ∧ (QeS c).isSome = true then withN bin L 8 x (IntKind.i64.wrap (c - 1))
 else if op = 15 ∧ c = 1 then withN bin L 16 x 0
 else some (-1, L)
def Xv (bin : ZR) (L : List Nd) (op b c : Int) : Option GR :=
 if Yt L b = false then some (-1, L)
 else if (op = 8 ∧ c % 2 = 1) ∨ (op = 16 ∧ c = 1) then some (b, L)
 else if op = 8 ∨ (op = 16 ∧ c ≠ 0) then some (numN L 0)
 else if op = 10 ∧ c % 2 = 1 then (withN bin L 16 b 0).bind fun r => withN bin r.2 10 r.1 (doW 10 c 1)
 else match Xw L b 16 with
  | some (x, d) => if op = 16 ∧ d = 0 ∧ Yt L x = true then some (x, L) else some (-1, L)
  | none => some (-1, L)
def Xf (bin : ZR) (L : List Nd) (op x c : Int) : Option GR :=
 match Xw L x op with
 | some (y, d) => if XB op = true then withN bin L op y (doW op d c) else some (-1, L)
 | none => some (-1, L)
def Q6 (bin : ZR) (L : List Nd) (op x c : Int) : Option GR :=
 if op ≠ 16 then some (-1, L) else
 match Xw L x 1 with
 | some (y, d) => withN bin L 16 y (IntKind.i64.wrap (c - d))
 | none => match Xw L x 10 with
   | some (y, d) => withN bin L 16 y (doW 10 c d)
   | none => match ofI L x 10 with
     | some (y, z) => if c = 0 then bin L 16 y z else some (-1, L)
     | none => match ofI L x 2 with
       | some (y, z) => if c = 0 then bin L 16 y z else some (-1, L)
       | none => some (-1, L)
def X2 (r : Option GR) (k : List Nd → Option GR) : Option GR := r.bind fun r => if r.1 ≠ -1 then some r else k r.2
def QU (bin : ZR) (L : List Nd) (op x c : Int) : Option GR :=
 X2 (some (QT L op x c)) fun L => X2 (Xm bin L op x c) fun L => X2 (Xv bin L op x c) fun L => X2 (Xf bin L op x c) fun L => Q6 bin L op x c
def XA (bin : ZR) (L : List Nd) (op x y : Int) (p q : Option Int) : Option GR :=
 if x = y then some (ZI L op x)
 else match q with
  | some b => QU bin L op x b
  | none => if p = some 0 ∧ op = 15 then (bin L 16 y x).bind fun r => bin r.2 16 r.1 x else some (-1, L)
def Y4 (bin : ZR) (L : List Nd) (op x y : Int) (p q : Option Int) : Option GR := X2 (XA bin L op x y p q) fun L => some (addN L ⟨4, 0, 0, op, x, y⟩)
def QcB (bin : ZR) (L : List Nd) (op x y : Int) : Option GR :=
 match QE L x, QE L y with
 | some a, some b => some (numN L (doW op a b))
 | p, q => if QaK op = true ∧ (p.isSome = true ∨ (q = none ∧ y < x)) then Y4 bin L op y x q p else Y4 bin L op x y p q
def XM : Nat → ZR
 | 0 => fun _ _ _ _ => none
 | f + 1 => QcB (XM f)
-- values
theorem XF {L L' : List Nd} (h : L <+: L') {x : Int} (hx : inG L x) : inG L' x ∧ nd L' x = nd L x := by
 obtain ⟨r, rfl⟩ := h
 unfold inG at *
 refine ⟨by simp; omega, ?_⟩
 unfold nd
 rw [List.getD_eq_getElem?_getD, List.getD_eq_getElem?_getD, List.getElem?_append_left (by omega)]
theorem YZ {S : List Int} {C : List Cl} {L L' : List Nd} (h : L <+: L') {x : Int} (hx : inG L x) : val S C L' x = val S C L x := by
 obtain ⟨r, rfl⟩ := h
 unfold inG at hx
 unfold val
 have := QlX (S := S) (C := C) (L := L ++ r) (n := L.length) (i := x.toNat) (by omega) (by simp)
 rw [List.take_left] at this
 exact this.symm
theorem QqA {d : Nd} : ∀ {L : List Nd} {i : Nat}, idx d L = some i → L[i]? = some d
 | e :: L, i, h => by
   unfold idx at h
   split at h
   ·rename_i he; cases h; rw [he]; rfl
   ·cases hi : idx d L with
    | none => rw [hi] at h; cases h
    | some j =>
      rw [hi] at h
      simp only [Option.map_some, Option.some.injEq] at h
      subst h
      simpa using QqA hi
theorem QhX {L : List Nd} {d : Nd} (hm : d.may L.length = true) : inG (addN L d).2 (addN L d).1 ∧ nd (addN L d).2 (addN L d).1 = d := by
 unfold addN
 rw [if_pos hm]
 cases h : idx d L with
 | some i =>
   have hg := QqA h
   have hlt := (List.getElem?_eq_some_iff.1 hg).1
   refine ⟨⟨?_, ?_⟩, ?_⟩
   ·show (0 : Int) ≤ (i : Int); omega
   ·show (i : Int) < (L.length : Int); omega
   ·show nd L (i : Int) = d
    simp [nd, List.getD_eq_getElem?_getD, hg]
 | none =>
   refine ⟨⟨?_, ?_⟩, ?_⟩
   ·show (0 : Int) ≤ (L.length : Int); omega
   ·show (L.length : Int) < ((L ++ [d]).length : Int); simp; omega
   ·show nd (L ++ [d]) (L.length : Int) = d
    simp [nd, List.getD_eq_getElem?_getD]
variable {S : List Int} {C : List Cl}
structure Made1 (S : List Int) (C : List Cl) (L : List Nd) (w : Int) (r : GR) : Prop where
 pre : L <+: r.2
 ok : okN r.2
 val : r.1 ≠ -1 → inG r.2 r.1 ∧ val S C r.2 r.1 = w
theorem Made1.none {L : List Nd} (hok : okN L) (w : Int) : Made1 S C L w (-1, L) := ⟨List.prefix_rfl, hok, fun h => absurd rfl h⟩
theorem Made1.here {L : List Nd} (hok : okN L) {x w : Int} (hx : inG L x) (h : Go.Proofs.YtpdeoalocejodaaGreatDoor.val S C L x = w) : Made1 S C L w (x, L) := ⟨List.prefix_rfl, hok, fun _ => ⟨hx, h⟩⟩
theorem Qmb (n : Int) (k : Nat) : Nd.may ⟨1, n, 0, 0, 0, 0⟩ k = true := by simp [Nd.may]
theorem Qa0 {L : List Nd} (hok : okN L) {n : Int} (hn : i64 n) : Made1 S C L n (numN L n) ∧ (numN L n).1 ≠ -1 := by
 obtain ⟨h1, h2⟩ := QhX (Qmb n L.length)
 have hok2 : okN (numN L n).2 := Xs hok hn (show i64 0 by unfold i64; omega)
 refine ⟨⟨Qcu _ _, hok2, fun _ => ⟨h1, ?_⟩⟩, ?_⟩
 ·refine (Qg9 hok2.wf (Qgg hok2) h1.1 h1.2).trans ?_
  show QeO S C _ (nd (addN L _).2 (addN L _).1) = n
  rw [h2]
  simp [QeO]
 ·have := h1.1
  show (addN L _).1 ≠ -1
  omega
theorem Xo {L : List Nd} (hok : okN L) {x n : Int} (h : QE L x = some n) : val S C L x = n ∧ i64 n := by
 unfold QE at h
 split at h
 ·rename_i hc
  cases h
  refine ⟨?_, QDW hok x⟩
  rw [Qg9 hok.wf (Qgg hok) hc.1.1 hc.1.2, QeO, if_pos hc.2]
 ·cases h
theorem Qa7 {L : List Nd} (hok : okN L) {x op u v : Int} (h : ofI L x op = some (u, v)) : inG L u ∧ inG L v ∧ u < x ∧ v < x ∧ val S C L x = doW op (val S C L u) (val S C L v) := by
 unfold ofI at h
 split at h
 ·rename_i hc
  simp only [Option.some.injEq, Prod.mk.injEq] at h
  obtain ⟨rfl, rfl⟩ := h
  obtain ⟨hx, hk, ho⟩ := hc
  have hp := Qly hok.wf hx.1 hx.2
  have hpt : pts L x = [(nd L x).x, (nd L x).y] := by
   show (nd L x).parts = _
   simp [Nd.parts, hk]
  rw [hpt] at hp
  have h1 := hp (nd L x).x (by simp)
  have h2 := hp (nd L x).y (by simp)
  unfold inG at *
  refine ⟨by omega, by omega, h1.2, h2.2, ?_⟩
  rw [Qg9 hok.wf (Qgg hok) hx.1 hx.2, QeO]
  simp [hk, ho]
 ·cases h
theorem Q8 {L : List Nd} (hok : okN L) {x op y d : Int} (h : Xw L x op = some (y, d)) : inG L y ∧ y < x ∧ i64 d ∧ val S C L x = doW op (val S C L y) d := by
 unfold Xw at h
 cases ho : ofI L x op with
 | none => rw [ho] at h; cases h
 | some p =>
   obtain ⟨u, v⟩ := p
   rw [ho] at h
   cases hn : QE L v with
   | none => simp [hn] at h
   | some c =>
     simp only [Option.bind_some, hn, Option.map_some, Option.some.injEq, Prod.mk.injEq] at h
     obtain ⟨rfl, rfl⟩ := h
     obtain ⟨h1, h2, h3, h4, h5⟩ := Qa7 (S := S) (C := C) hok ho
     obtain ⟨n1, n2⟩ := Xo (S := S) (C := C) hok hn
     exact ⟨h1, h3, n2, by rw [h5, n1]⟩
theorem Qxp {L : List Nd} (hok : okN L) {x : Int} (h : Yt L x = true) : inG L x ∧ two (val S C L x) := by
 simp only [Yt, decide_eq_true_eq] at h
 obtain ⟨hx, h⟩ := h
 refine ⟨hx, ?_⟩
 rw [Qg9 hok.wf (Qgg hok) hx.1 hx.2, QeO]
 rcases h with ⟨hk, ho⟩ | ⟨hk, hn⟩
 ·simp only [hk]
  exact Qqb ho
 ·rw [if_pos hk]; exact hn
end Go.Proofs.YtpdeoalocejodaaGreatDoor
