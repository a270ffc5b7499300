/- Terms made plain: two-valued terms. -/
import Derived.Test.YtpdeoalocejodaaGreatDoorJ7
open Nat renaming reduceEqDiff → rq, reduceAdd → rA, reduceLeDiff → rL, reduceLT → rT, zero_add → zA, le_refl → lR, zero_le → zL, add_zero → aZ
open List renaming length_cons → lC, length_nil → lN, take_succ_cons → tSq, length_append → lA, nil_append → nA, cons_append → cA, append_assoc → aA, take_nil → tN, take_zero → tZ, length_map → lM
open Bool renaming not_false → nF, not_true → nT
namespace Go.Proofs.YtpdeoalocejodaaGreatDoor
open Go Go.Am
set_option maxRecDepth 100000
variable {P : Program} {G : Nat → Option V}
set_option maxHeartbeats 1000000
theorem QGq (hT : Qj P tab) (F : Fmt P G) {bin : ZR} (hK : Yy [] [] bin) (hB : Qzr P G F.fmt bin) {v0 v1 v2 v3 v4 t : Nat} {L : List Nd} {ex : List (Option Ob)} {op x c : Int} (hok : okN L) (hL : L.length ≤ 1000000) (ho : 1 ≤ op ∧ op ≤ 16) (hc : i64 c) {r : GR} (hr : r.2.length ≤ 1000000) (h : Xv bin L op x c = some r) :
 C P G 0 XT [mk v0, .int .u8 op, .int .i64 x, .int .i64 c] ⟨t, kG F.fmt v0 v1 v2 v3 v4 L ++ ex⟩ (Qbh F.fmt r v0 v1 ex t) := by
 refine Ql (5 + ex.length) (zL _) (Qx hT Qce (by simp [YP]) (Qs 1000 ?_))
 have i0 : i64 0 := by unfold i64; omega
 have e1 : QaO .i64 c 1 = c % 2 := QgW .i64 1 c 1 rfl (by decide)
 have ex1 : QsJ .i64 c 1 = doW 10 c 1 := rfl
 have hx1 : i64 (doW 10 c 1) := Xz hc (by unfold i64; omega)
 simp -implicitDefEqProofs (disch := omega) only [go_sem, ↓reduceIte, reduceCtorEq, rA, rq, zA, aZ, lR, YP, Qz6, Qz5, Qz4, Qz3, Qz2, Qz1, Qz0, QzZ, QzY, QzX, Quo, Qun, Qum, Qul, Quk, Qa, QB, lA, lC, lN, aA, true_implies, and_true]
 refine call hT YO (QlI hT (by simp)) 1000 fun v σ hv => ?_
 obtain ⟨rfl, t1, ht1, rfl⟩ := hv
 unfold Xv at h
 split at h
 ·rename_i hbo
  cases h
  simp -implicitDefEqProofs (disch := omega) only [go_sem, ↓reduceIte, reduceCtorEq, rq, zA, nF, Qa, Qh, lA, lC, lN, hbo]
  first | exact ⟨by omega, rfl, t1, v2, v3, v4, by omega, rfl⟩ | exact ⟨by omega, rfl, t1, v2, v3, v4, by omega, rfl, rfl⟩ | exact ⟨by omega, t1, v2, v3, v4, by omega, rfl⟩ | exact ⟨by omega, t1, v2, v3, v4, by omega, rfl, rfl⟩
 ·rename_i hbo
  have hbo : Yt L x = true := by simpa using hbo
  have hx' := X7 hbo
  split at h
  ·rename_i h1
   cases h
   rcases h1 with ⟨rfl, h2⟩ | ⟨rfl, rfl⟩
   ·simp -implicitDefEqProofs (disch := omega) only [go_sem, ↓reduceIte, reduceCtorEq, rA, rq, zA, nT, beq_self_eq_true, Qa, Qh, lA, lC, lN, hbo, e1, h2]
    first | exact ⟨by omega, rfl, t1, v2, v3, v4, by omega, rfl⟩ | exact ⟨by omega, rfl, t1, v2, v3, v4, by omega, rfl, rfl⟩ | exact ⟨by omega, t1, v2, v3, v4, by omega, rfl⟩ | exact ⟨by omega, t1, v2, v3, v4, by omega, rfl, rfl⟩
   ·refine yC ?_
    first | exact ⟨by omega, rfl, t1, v2, v3, v4, by omega, rfl⟩ | exact ⟨by omega, rfl, t1, v2, v3, v4, by omega, rfl, rfl⟩ | exact ⟨by omega, t1, v2, v3, v4, by omega, rfl⟩ | exact ⟨by omega, t1, v2, v3, v4, by omega, rfl, rfl⟩
  ·rename_i hn1
   split at h
   ·rename_i h1
    cases h
    rcases h1 with rfl | ⟨rfl, h2⟩
    ·have h3 : ¬ c % 2 = 1 := fun e => hn1 (.inl ⟨rfl, e⟩)
     simp -implicitDefEqProofs (disch := omega) only [go_sem, ↓reduceIte, reduceCtorEq, rA, rq, Int.reduceEq, zA, nT, lR, beq_self_eq_true, Qa, QB, Qh, lA, lC, lN, tSq, tN, false_implies, true_implies, true_and, and_true, not_false_eq_true, hbo, e1, h3]
     refine call hT Qo (Qdw hT F i0 hL) 1000 fun v σ hv => ?_
     obtain ⟨rfl, t', v2', v3', v4', ht, rfl⟩ := hv
     refine yd ?_
     first | exact ⟨by omega, rfl, t', v2', v3', v4', by omega, rfl⟩ | exact ⟨by omega, rfl, t', v2', v3', v4', by omega, rfl, rfl⟩ | exact ⟨by omega, t', v2', v3', v4', by omega, rfl⟩ | exact ⟨by omega, t', v2', v3', v4', by omega, rfl, rfl⟩
    ·have h3 : ¬ c = 1 := fun e => hn1 (.inr ⟨rfl, e⟩)
     simp -implicitDefEqProofs (disch := omega) only [go_sem, ↓reduceIte, reduceCtorEq, rA, rq, Int.reduceEq, zA, nT, lR, beq_self_eq_true, Qa, QB, Qh, lA, lC, lN, tSq, tN, false_implies, true_implies, true_and, and_true, not_false_eq_true, hbo, h2, h3]
     refine call hT Qo (Qdw hT F i0 hL) 1000 fun v σ hv => ?_
     obtain ⟨rfl, t', v2', v3', v4', ht, rfl⟩ := hv
     refine yd ?_
     first | exact ⟨by omega, rfl, t', v2', v3', v4', by omega, rfl⟩ | exact ⟨by omega, rfl, t', v2', v3', v4', by omega, rfl, rfl⟩ | exact ⟨by omega, t', v2', v3', v4', by omega, rfl⟩ | exact ⟨by omega, t', v2', v3', v4', by omega, rfl, rfl⟩
   ·rename_i hn2
    have n8 : ¬ op = 8 := fun e => hn2 (.inl e)
    split at h
    ·rename_i h1
     obtain ⟨rfl, hodd⟩ := h1
     cases hq : withN bin L 16 x 0 with
     | none => rw [hq] at h; cases h
     | some q =>
       rw [hq] at h
       simp only [Option.bind_some] at h
       obtain ⟨p1, p2, p3, p4, p5, p6, p7⟩ := Yc hK hok hx' (by omega) i0 hq
       obtain ⟨g1, g2⟩ := QK hK hok hx' (by omega) i0 hq
       obtain ⟨s1, s2, s3, s4, s5, s6, s7⟩ := Yc hK p6 (g1.val g2).1 (by omega) hx1 h
       simp -implicitDefEqProofs (disch := omega) only [go_sem, ↓reduceIte, reduceCtorEq, rA, rq, Int.reduceEq, zA, nT, lR, beq_self_eq_true, Qa, QB, Qh, lA, lC, lN, tSq, tN, false_implies, true_implies, true_and, and_true, not_false_eq_true, hbo, e1, hodd, ex1]
       (repeat' (first | with_reducible refine And.intro ?_ ?_ | with_reducible intro _)) <;> (
        refine call hT Qo (Qdw hT F i0 hL) 1000 fun v σ hv => ?_
        obtain ⟨rfl, t', v2', v3', v4', ht, rfl⟩ := hv
        refine yf ?_
        (repeat' (first | with_reducible refine And.intro ?_ ?_ | with_reducible intro _)) <;> (
         refine call hT Qy (hB _ _ _ _ _ _ _ _ _ _ _ _ p1 p2 p3 (by omega) (by omega) hq) 1000 fun v σ hv => ?_
         obtain ⟨rfl, t3, w2, w3, w4, ht3, rfl⟩ := hv
         refine yf ?_
         (repeat' (first | with_reducible refine And.intro ?_ ?_ | with_reducible intro _)) <;> (
          refine call hT Qo (Qdw hT F hx1 (by omega)) 1000 fun v σ hv => ?_
          obtain ⟨rfl, t4, y2, y3, y4, ht4, rfl⟩ := hv
          refine yf ?_
          (repeat' (first | with_reducible refine And.intro ?_ ?_ | with_reducible intro _)) <;> (
           refine call hT Qy (hB _ _ _ _ _ _ _ _ _ _ _ _ s1 s2 s3 (by omega) hr h) 1000 fun v σ hv => ?_
           obtain ⟨rfl, t5, z2, z3, z4, ht5, rfl⟩ := hv
           refine yd ?_
           first | exact ⟨by omega, rfl, t5, z2, z3, z4, by omega, rfl⟩ | exact ⟨by omega, rfl, t5, z2, z3, z4, by omega, rfl, rfl⟩ | exact ⟨by omega, t5, z2, z3, z4, by omega, rfl⟩ | exact ⟨by omega, t5, z2, z3, z4, by omega, rfl, rfl⟩))))
    ·rename_i hn3
     have hxo : (¬ op = 10 ∧ True) ∨ (op = 10 ∧ ¬ c % 2 = 1) := by
      by_cases e : op = 10
      ·exact .inr ⟨e, fun o => hn3 ⟨e, o⟩⟩
      ·exact .inl ⟨e, trivial⟩
     by_cases a16 : op = 16
     ·subst a16
      have hc0 : c = 0 := Decidable.byContradiction fun e => hn2 (.inr ⟨rfl, e⟩)
      subst hc0
      refine yC ?_
      refine call hT XJ (QlH hT (by simp)) 1000 fun v σ hv => ?_
      obtain ⟨htv, t9, ht9, rfl⟩ := hv
      rcases htv with ⟨y, d, hta, rfl⟩ | ⟨hta, y, d, rfl⟩
      ·rw [hta] at h
       simp only at h
       by_cases hd : d = 0
       ·subst hd
        refine yF ?_
        refine call hT YO (QlI hT (by simp)) 1000 fun v σ hv => ?_
        obtain ⟨rfl, t8, ht8, rfl⟩ := hv
        by_cases hby : Yt L y = true
        ·rw [if_pos (by simp [hby])] at h
         cases h
         simp -implicitDefEqProofs (disch := omega) only [go_sem, ↓reduceIte, reduceCtorEq, rq, zA, Qa, Qh, lA, lC, lN, hby]
         first | exact ⟨by omega, rfl, t8, v2, v3, v4, by omega, rfl⟩ | exact ⟨by omega, rfl, t8, v2, v3, v4, by omega, rfl, rfl⟩ | exact ⟨by omega, t8, v2, v3, v4, by omega, rfl⟩ | exact ⟨by omega, t8, v2, v3, v4, by omega, rfl, rfl⟩
        ·rw [if_neg fun e => hby e.2.2] at h
         cases h
         have hby' : Yt L y = false := by simpa using hby
         simp -implicitDefEqProofs (disch := omega) only [go_sem, ↓reduceIte, reduceCtorEq, rq, zA, Qa, Qh, lA, lC, lN, hby']
         first | exact ⟨by omega, rfl, t8, v2, v3, v4, by omega, rfl⟩ | exact ⟨by omega, rfl, t8, v2, v3, v4, by omega, rfl, rfl⟩ | exact ⟨by omega, t8, v2, v3, v4, by omega, rfl⟩ | exact ⟨by omega, t8, v2, v3, v4, by omega, rfl, rfl⟩
       ·rw [if_neg fun e => hd e.2.1] at h
        cases h
        simp -implicitDefEqProofs (disch := omega) only [go_sem, ↓reduceIte, reduceCtorEq, rA, rq, rT, zA, aZ, lR, beq_self_eq_true, Qa, QB, Qh, lA, lC, lN, false_implies, true_implies, true_and, and_true, not_false_eq_true, hd]
        first | exact ⟨by omega, rfl, t9, v2, v3, v4, by omega, rfl⟩ | exact ⟨by omega, rfl, t9, v2, v3, v4, by omega, rfl, rfl⟩ | exact ⟨by omega, t9, v2, v3, v4, by omega, rfl⟩ | exact ⟨by omega, t9, v2, v3, v4, by omega, rfl, rfl⟩
      ·rw [hta] at h
       cases h
       refine yd ?_
       first | exact ⟨by omega, rfl, t9, v2, v3, v4, by omega, rfl⟩ | exact ⟨by omega, rfl, t9, v2, v3, v4, by omega, rfl, rfl⟩ | exact ⟨by omega, t9, v2, v3, v4, by omega, rfl⟩ | exact ⟨by omega, t9, v2, v3, v4, by omega, rfl, rfl⟩
     ·have hrr : r = (-1, L) := by
       split at h
       ·rw [if_neg fun e => a16 e.1] at h; cases h; rfl
       ·cases h; rfl
      subst hrr
      rcases hxo with ⟨n10, _⟩ | ⟨rfl, hodd⟩
      ·simp -implicitDefEqProofs (disch := omega) only [go_sem, Qr, ↓reduceIte, reduceCtorEq, rA, rq, zA, nT, lR, Qa, QB, Qh, lA, lC, lN, tSq, tN, false_implies, true_implies, true_and, and_true, not_false_eq_true, hbo, n8, n10, a16]
       refine call hT XJ (QlH hT (by simp)) 1000 fun v σ hv => ?_
       obtain ⟨htv, t9, ht9, rfl⟩ := hv
       rcases htv with ⟨y, d, hta, rfl⟩ | ⟨hta, y, d, rfl⟩ <;> (
        simp -implicitDefEqProofs (disch := omega) only [go_sem, Qr, ↓reduceIte, reduceCtorEq, rA, rq, rT, zA, aZ, lR, Qa, QB, Qh, lA, lC, lN, false_implies, true_implies, true_and, and_true, not_false_eq_true, a16]
        first | exact ⟨by omega, rfl, t9, v2, v3, v4, by omega, rfl⟩ | exact ⟨by omega, rfl, t9, v2, v3, v4, by omega, rfl, rfl⟩ | exact ⟨by omega, t9, v2, v3, v4, by omega, rfl⟩ | exact ⟨by omega, t9, v2, v3, v4, by omega, rfl, rfl⟩)
      ·simp -implicitDefEqProofs (disch := omega) only [go_sem, ↓reduceIte, reduceCtorEq, rA, rq, Int.reduceEq, zA, nT, lR, beq_self_eq_true, Qa, QB, Qh, lA, lC, lN, tSq, tN, false_implies, true_implies, true_and, and_true, not_false_eq_true, hbo, e1, hodd]
       refine call hT XJ (QlH hT (by simp)) 1000 fun v σ hv => ?_
       obtain ⟨htv, t9, ht9, rfl⟩ := hv
       rcases htv with ⟨y, d, hta, rfl⟩ | ⟨hta, y, d, rfl⟩ <;> (
        simp -implicitDefEqProofs (disch := omega) only [go_sem, ↓reduceIte, reduceCtorEq, rA, rq, rT, Int.reduceEq, zA, aZ, lR, Qa, QB, Qh, lA, lC, lN, false_implies, true_implies, true_and, and_true, not_false_eq_true]
        first | exact ⟨by omega, rfl, t9, v2, v3, v4, by omega, rfl⟩ | exact ⟨by omega, rfl, t9, v2, v3, v4, by omega, rfl, rfl⟩ | exact ⟨by omega, t9, v2, v3, v4, by omega, rfl⟩ | exact ⟨by omega, t9, v2, v3, v4, by omega, rfl, rfl⟩)
theorem kx_m {fmt : Int → List UInt8} {v0 v1 v2 v3 v4 : Nat} {L : List Nd} {ex : List (Option Ob)} {m : Nat} {y : Option Ob} (h : ex[m]? = some y) : (kG fmt v0 v1 v2 v3 v4 L ++ ex)[5 + m]? = some y := by
 rw [List.getElem?_append_right (by rw [Qa]; omega), Qa, ← h]
 congr 1
 omega
theorem QjL {fmt : Int → List UInt8} {v0 v1 v2 v3 v4 : Nat} {L : List Nd} {ex : List (Option Ob)} : (kG fmt v0 v1 v2 v3 v4 L ++ ex).take (5 + ex.length) = kG fmt v0 v1 v2 v3 v4 L ++ ex := by
 rw [List.take_of_length_le (by rw [QD2]; omega)]
theorem QGt (hT : Qj P tab) (F : Fmt P G) {bin : ZR} (hK : Yy [] [] bin) (hB : Qzr P G F.fmt bin) {v0 v1 v2 v3 v4 t : Nat} {L : List Nd} {ex : List (Option Ob)} {op x c : Int} {m vm T : Nat} (hm : ex[m]? = some (some (.arr vm T [.ptr 1 v0 0]))) (hok : okN L) (ho : 1 ≤ op ∧ op ≤ 16) (hc : i64 c) {r : GR} (hr : r.2.length ≤ 1000000) (h : Xf bin L op x c = some r) :
 C P G 0 Xi [.int .u8 op, .int .i64 x, .int .i64 c, .ptr (5 + m) vm 0] ⟨t, kG F.fmt v0 v1 v2 v3 v4 L ++ ex⟩ (Qbh F.fmt r v0 v1 ex t) := by
 refine Ql (5 + ex.length) (zL _) (Qx hT QaJ (by simp [X0]) (Qs 1000 ?_))
 have hgr := Qsz (P := P) (G := G) hT ho
 have hmm : ∀ {v2 v3 v4 : Nat} {L : List Nd}, (kG F.fmt v0 v1 v2 v3 v4 L ++ ex)[5 + m]? = some (some (.arr vm T [.ptr 1 v0 0])) := kx_m hm
 simp -implicitDefEqProofs (disch := omega) only [go_sem, ↓reduceIte, reduceCtorEq, rA, rq, zA, lR, X0, QAL, QAK, QAJ, QAI, QAH, lC, lN, tSq, tN, false_implies, and_true, hmm]
 refine call hT XJ (QlH hT (by simp)) 1000 fun v σ hv => ?_
 obtain ⟨htv, t9, ht9, rfl⟩ := hv
 unfold Xf at h
 rcases htv with ⟨y, d, hta, rfl⟩ | ⟨hta, y, d, rfl⟩
 ·rw [hta] at h
  simp only at h
  refine ye ?_
  refine Qd hT Qdn hgr rfl 1000 ?_
  by_cases hg : XB op = true
  ·rw [if_pos hg] at h
   obtain ⟨hx', _, hd, _⟩ := Q8 (S := []) (C := []) hok hta
   have hn : i64 (doW op d c) := Xz hd hc
   have hdo := c_Do (P := P) (G := G) hT (op := op) (by omega) (by omega) hd hc
   obtain ⟨p1, p2, p3, p4, p5, _, _⟩ := Yc hK hok hx' (by omega) hn h
   rw [hg]
   simp -implicitDefEqProofs (disch := omega) only [go_sem, ↓reduceIte, reduceCtorEq, rq, zA, lR, Qa, lA, lC, lN, tSq, tN, false_implies, and_true, hmm]
   (repeat' (first | with_reducible refine And.intro ?_ ?_ | with_reducible intro _)) <;> (
    refine Qd hT QbC hdo rfl 1000 ?_
    refine yY ?_
    (repeat' (first | with_reducible refine And.intro ?_ ?_ | with_reducible intro _)) <;> (
     refine call hT Qo (Qdw hT F hn (by omega)) 1000 fun v σ hv => ?_
     obtain ⟨rfl, t', v2', v3', v4', ht, rfl⟩ := hv
     refine yY ?_
     (repeat' (first | with_reducible refine And.intro ?_ ?_ | with_reducible intro _)) <;> (
      refine call hT Qy (hB _ _ _ _ _ _ _ _ _ _ _ _ p1 p2 p3 (by omega) hr h) 1000 fun v σ hv => ?_
      obtain ⟨rfl, t2, w2, w3, w4, ht2, rfl⟩ := hv
      simp -implicitDefEqProofs (disch := omega) only [go_sem, ↓reduceIte, reduceCtorEq, rq, lR, Qa, lA, true_and, QjL]
      exact ⟨rfl, t2, w2, w3, w4, by omega, rfl⟩)))
  ·rw [if_neg hg] at h
   cases h
   have hg' : XB op = false := by simpa using hg
   rw [hg']
   simp -implicitDefEqProofs (disch := omega) only [go_sem, ↓reduceIte, reduceCtorEq, rq, lR, Qa, lA, true_and, QjL]
   exact ⟨rfl, t9, v2, v3, v4, by omega, rfl⟩
 ·rw [hta] at h
  cases h
  simp -implicitDefEqProofs (disch := omega) only [go_sem, ↓reduceIte, reduceCtorEq, rA, rq, rT, zA, lR, Qa, lA, lC, lN, true_and, QjL]
  exact ⟨rfl, t9, v2, v3, v4, by omega, rfl⟩
theorem QGv (hT : Qj P tab) (F : Fmt P G) {bin : ZR} (hK : Yy [] [] bin) (hB : Qzr P G F.fmt bin) {v0 v1 v2 v3 v4 t : Nat} {L : List Nd} {ex : List (Option Ob)} {x c : Int} (hok : okN L) (hc : i64 c) {r : GR} (hr : r.2.length ≤ 1000000) (h : Q6 bin L 16 x c = some r) :
 C P G 0 Qcm [mk v0, .int .i64 x, .int .i64 c] ⟨t, kG F.fmt v0 v1 v2 v3 v4 L ++ ex⟩ (Qbh F.fmt r v0 v1 ex t) := by
 refine Ql (5 + ex.length) (zL _) (Qx hT Qch (by simp [YS]) (Qs 1000 ?_))
 simp -implicitDefEqProofs (disch := omega) only [go_sem, ↓reduceIte, reduceCtorEq, rA, rq, zA, lR, YS, QAA, QAz, QAy, QAx, QAw, QAv, QAu, QAt, QAs, QAr, Quz, Quy, Qux, Quw, Quv, Qa, QB, lA, lC, lN, aA, tSq, tN, false_implies, and_true]
 unfold Q6 at h
 rw [if_neg (by simp)] at h
 refine call hT XJ (QlH hT (by simp)) 1000 fun v σ hv => ?_
 obtain ⟨htv8, t8, ht8, rfl⟩ := hv
 rcases htv8 with ⟨y, d, hta, rfl⟩ | ⟨hta, y, d, rfl⟩
 ·rw [hta] at h
  simp only at h
  obtain ⟨hx', _, hd, _⟩ := Q8 (S := []) (C := []) hok hta
  refine yf ?_
  obtain ⟨p1, p2, p3, p4, p5, _, _⟩ := Yc hK hok hx' (by omega) (Qq _) h
  (repeat' (first | with_reducible refine And.intro ?_ ?_ | with_reducible intro _)) <;> (
   refine call hT Qo (Qdw hT F (Qq _) (by omega)) 1000 fun v σ hv => ?_
   obtain ⟨rfl, t', v2', v3', v4', ht, rfl⟩ := hv
   refine yf ?_
   (repeat' (first | with_reducible refine And.intro ?_ ?_ | with_reducible intro _)) <;> (
    refine call hT Qy (hB _ _ _ _ _ _ _ _ _ _ _ _ p1 p2 p3 (by omega) hr h) 1000 fun v σ hv => ?_
    obtain ⟨rfl, t2, w2, w3, w4, ht2, rfl⟩ := hv
    refine yd ?_
    first | exact ⟨by omega, rfl, t2, w2, w3, w4, by omega, rfl⟩ | exact ⟨by omega, rfl, t2, w2, w3, w4, by omega, rfl, rfl⟩ | exact ⟨by omega, t2, w2, w3, w4, by omega, rfl⟩ | exact ⟨by omega, t2, w2, w3, w4, by omega, rfl, rfl⟩))
 ·rw [hta] at h
  simp only at h
  refine yf ?_
  refine call hT XJ (QlH hT (by simp)) 1000 fun v σ hv => ?_
  obtain ⟨htv9, t9, ht9, rfl⟩ := hv
  rcases htv9 with ⟨y, d, htb, rfl⟩ | ⟨htb, y, d, rfl⟩
  ·rw [htb] at h
   simp only at h
   obtain ⟨hx', _, hd, _⟩ := Q8 (S := []) (C := []) hok htb
   have hn : i64 (doW 10 c d) := Xz hc hd
   have exr : QsJ .i64 c d = doW 10 c d := rfl
   simp -implicitDefEqProofs (disch := omega) only [go_sem, ↓reduceIte, reduceCtorEq, rA, rq, rT, zA, lR, QB, lC, lN, tSq, tN, false_implies, and_true, exr]
   obtain ⟨p1, p2, p3, p4, p5, _, _⟩ := Yc hK hok hx' (by omega) hn h
   (repeat' (first | with_reducible refine And.intro ?_ ?_ | with_reducible intro _)) <;> (
    refine call hT Qo (Qdw hT F hn (by omega)) 1000 fun v σ hv => ?_
    obtain ⟨rfl, t', v2', v3', v4', ht, rfl⟩ := hv
    refine yf ?_
    (repeat' (first | with_reducible refine And.intro ?_ ?_ | with_reducible intro _)) <;> (
     refine call hT Qy (hB _ _ _ _ _ _ _ _ _ _ _ _ p1 p2 p3 (by omega) hr h) 1000 fun v σ hv => ?_
     obtain ⟨rfl, t2, w2, w3, w4, ht2, rfl⟩ := hv
     refine yd ?_
     first | exact ⟨by omega, rfl, t2, w2, w3, w4, by omega, rfl⟩ | exact ⟨by omega, rfl, t2, w2, w3, w4, by omega, rfl, rfl⟩ | exact ⟨by omega, t2, w2, w3, w4, by omega, rfl⟩ | exact ⟨by omega, t2, w2, w3, w4, by omega, rfl, rfl⟩))
  ·rw [htb] at h
   simp only at h
   refine yg ?_
   have hA : ∀ o u w, (o = 10 ∨ (o = 2 ∧ (ofI L x 10 = none ∨ ¬ c = 0))) → ofI L x o = some (u, w) → c = 0 → bin L 16 u w = some r := by
    intro o u w ho hs hz
    rcases ho with rfl | ⟨rfl, hq⟩
    ·rw [hs] at h; simp only at h; rwa [if_pos hz] at h
    ·rcases hq with hq | hq
     ·rw [hq, hs] at h; simp only at h; rwa [if_pos hz] at h
     ·exact absurd hz hq
   have hN : (ofI L x 10 = none ∨ ¬ c = 0) → (ofI L x 2 = none ∨ ¬ c = 0) → r = (-1, L) := by
    intro h1 h2
    cases e1 : ofI L x 10 with
    | some p =>
      rw [e1] at h h1
      have hz : ¬ c = 0 := h1.resolve_left (by simp)
      simp only [if_neg hz] at h
      cases h; rfl
    | none =>
      rw [e1] at h
      simp only at h
      cases e2 : ofI L x 2 with
      | some p =>
        rw [e2] at h h2
        have hz : ¬ c = 0 := h2.resolve_left (by simp)
        simp only [if_neg hz] at h
        cases h; rfl
      | none => rw [e2] at h; cases h; rfl
   clear h
   refine Qcw [(10 : Int), 2] (fun i fr σ => ((1 ≤ i → ofI L x 10 = none ∨ ¬ c = 0) ∧ (2 ≤ i → ofI L x 2 = none ∨ ¬ c = 0)) ∧ Qt fr 1 = .int .i64 x ∧ Qt fr 2 = .int .i64 c ∧ Qt fr 3 = .ptr (5 + ex.length) t 0 ∧ Qt fr 50 = .lst 1 [.int .u8 10, .int .u8 2] true ∧ Qt fr 51 = .int .i64 2 ∧ Qt fr 52 = .int .i64 ((i : Nat) : Int) ∧ ∃ t', t ≤ t' ∧ σ = ⟨t', kG F.fmt v0 v1 v2 v3 v4 L ++ (ex ++ [some (.arr t 76 [.ptr 1 v0 0])])⟩)
    (fun e fr σ => (e = .ret ∧ Qt fr 6 = .int .i64 r.1 ∧ ∃ t' v2' v3' v4', t ≤ t' ∧ σ = ⟨t', kG F.fmt v0 v1 v2' v3' v4' r.2 ++ (ex ++ [some (.arr t 76 [.ptr 1 v0 0])])⟩) ∨ (e = .ex 0 ∧ r = (-1, L) ∧ ∃ t', t ≤ t' ∧ σ = ⟨t', kG F.fmt v0 v1 v2 v3 v4 L ++ (ex ++ [some (.arr t 76 [.ptr 1 v0 0])])⟩)) ⟨⟨fun h => by omega, fun h => by omega⟩, yb, yb, yb, yb, by simp -implicitDefEqProofs (disch := omega) only [go_sem, ↓reduceIte, reduceCtorEq, rq]; rfl, by simp -implicitDefEqProofs (disch := omega) only [go_sem, ↓reduceIte, reduceCtorEq, rq]; rfl, t9, by omega, rfl⟩ (fun i o hx fr σ hJ => ?_) (fun i hi fr σ hJ => ?_) (fun e fr σ hE => ?_)
   ·obtain ⟨⟨j1, j2⟩, f1, f2, f3, f50, f51, f52, t3, ht3, rfl⟩ := hJ
    have hio : (i = 0 ∧ o = 10) ∨ (i = 1 ∧ o = 2) := by
     rcases i with _ | _ | i
     ·simp at hx; exact .inl ⟨rfl, hx.symm⟩
     ·simp at hx; exact .inr ⟨rfl, hx.symm⟩
     ·simp at hx
    have hAo : o = 10 ∨ (o = 2 ∧ (ofI L x 10 = none ∨ ¬ c = 0)) := by
     rcases hio with ⟨_, e⟩ | ⟨e1, e⟩
     ·exact .inl e
     ·exact .inr ⟨e, j1 (by omega)⟩
    cases ho : ofI L x o with
    | none =>
      rcases hio with ⟨rfl, rfl⟩ | ⟨rfl, rfl⟩
      ·refine QA [(1, .int .i64 x), (2, .int .i64 c), (3, .ptr (5 + ex.length) t 0), (50, .lst 1 [.int .u8 10, .int .u8 2] true), (51, .int .i64 2), (52, .int .i64 0)] ⟨f1, f2, f3, f50, f51, f52, trivial⟩ 1000 ?_
       refine yj ?_
       refine call hT XO (QGr (base := 0) hT (zL _)) 1000 fun v σ hv => ?_
       obtain ⟨rfl, t4, ht4, rfl⟩ := hv
       rw [ho]
       simp -implicitDefEqProofs (disch := omega) only [go_sem, ↓reduceIte, rA, rq, rT, zA, lC, lN, true_and, QsX]
       exact ⟨_, _, Shift.refl _ _ _ _, yb, yb, yb, yb, yb, by simp -implicitDefEqProofs (disch := omega) only [go_sem, ↓reduceIte, rq]; rfl, t4, by omega, rfl⟩
      ·refine QA [(1, .int .i64 x), (2, .int .i64 c), (3, .ptr (5 + ex.length) t 0), (50, .lst 1 [.int .u8 10, .int .u8 2] true), (51, .int .i64 2), (52, .int .i64 1)] ⟨f1, f2, f3, f50, f51, f52, trivial⟩ 1000 ?_
       refine yj ?_
       refine call hT XO (QGr (base := 0) hT (zL _)) 1000 fun v σ hv => ?_
       obtain ⟨rfl, t4, ht4, rfl⟩ := hv
       rw [ho]
       simp -implicitDefEqProofs (disch := omega) only [go_sem, ↓reduceIte, rA, rq, rT, zA, lC, lN, and_true, QsX]
       exact ⟨_, _, Shift.refl _ _ _ _, j1 (by omega), yb, yb, yb, yb, yb, by simp -implicitDefEqProofs (disch := omega) only [go_sem, ↓reduceIte, rq]; rfl, t4, by omega, rfl⟩
    | some p =>
      obtain ⟨u, w⟩ := p
      by_cases hz : c = 0
      ·have hb := hA o u w hAo ho hz
       obtain ⟨q1, q2, _⟩ := Qa7 (S := []) (C := []) hok ho
       rcases hio with ⟨rfl, rfl⟩ | ⟨rfl, rfl⟩
       ·refine QA [(1, .int .i64 x), (2, .int .i64 c), (3, .ptr (5 + ex.length) t 0), (50, .lst 1 [.int .u8 10, .int .u8 2] true), (51, .int .i64 2), (52, .int .i64 0)] ⟨f1, f2, f3, f50, f51, f52, trivial⟩ 1000 ?_
        refine yj ?_
        refine call hT XO (QGr (base := 0) hT (zL _)) 1000 fun v σ hv => ?_
        obtain ⟨rfl, t4, ht4, rfl⟩ := hv
        rw [ho]
        refine yK ?_
        refine call hT Qy (hB _ _ _ _ _ _ _ _ _ _ _ _ hok q1 q2 (by omega) hr hb) 1000 fun v σ hv => ?_
        obtain ⟨rfl, t5, w2, w3, w4, ht5, rfl⟩ := hv
        refine yk ?_
        exact ⟨t5, w2, w3, w4, by omega, rfl, rfl⟩
       ·refine QA [(1, .int .i64 x), (2, .int .i64 c), (3, .ptr (5 + ex.length) t 0), (50, .lst 1 [.int .u8 10, .int .u8 2] true), (51, .int .i64 2), (52, .int .i64 1)] ⟨f1, f2, f3, f50, f51, f52, trivial⟩ 1000 ?_
        refine yj ?_
        refine call hT XO (QGr (base := 0) hT (zL _)) 1000 fun v σ hv => ?_
        obtain ⟨rfl, t4, ht4, rfl⟩ := hv
        rw [ho]
        refine yK ?_
        refine call hT Qy (hB _ _ _ _ _ _ _ _ _ _ _ _ hok q1 q2 (by omega) hr hb) 1000 fun v σ hv => ?_
        obtain ⟨rfl, t5, w2, w3, w4, ht5, rfl⟩ := hv
        refine yk ?_
        exact ⟨t5, w2, w3, w4, by omega, rfl, rfl⟩
      ·rcases hio with ⟨rfl, rfl⟩ | ⟨rfl, rfl⟩
       ·refine QA [(1, .int .i64 x), (2, .int .i64 c), (3, .ptr (5 + ex.length) t 0), (50, .lst 1 [.int .u8 10, .int .u8 2] true), (51, .int .i64 2), (52, .int .i64 0)] ⟨f1, f2, f3, f50, f51, f52, trivial⟩ 1000 ?_
        refine yj ?_
        refine call hT XO (QGr (base := 0) hT (zL _)) 1000 fun v σ hv => ?_
        obtain ⟨rfl, t4, ht4, rfl⟩ := hv
        rw [ho]
        refine yJ ?_
        exact ⟨_, _, Shift.refl _ _ _ _, yb, yb, yb, yb, yb, by simp -implicitDefEqProofs (disch := omega) only [go_sem, ↓reduceIte, rq]; rfl, t4, by omega, rfl⟩
       ·refine QA [(1, .int .i64 x), (2, .int .i64 c), (3, .ptr (5 + ex.length) t 0), (50, .lst 1 [.int .u8 10, .int .u8 2] true), (51, .int .i64 2), (52, .int .i64 1)] ⟨f1, f2, f3, f50, f51, f52, trivial⟩ 1000 ?_
        refine yj ?_
        refine call hT XO (QGr (base := 0) hT (zL _)) 1000 fun v σ hv => ?_
        obtain ⟨rfl, t4, ht4, rfl⟩ := hv
        rw [ho]
        refine yJ ?_
        exact ⟨_, _, Shift.refl _ _ _ _, yb, yb, yb, yb, yb, by simp -implicitDefEqProofs (disch := omega) only [go_sem, ↓reduceIte, rq]; rfl, t4, by omega, rfl⟩
   ·obtain ⟨⟨j1, j2⟩, f1, f2, f3, f50, f51, f52, t3, ht3, rfl⟩ := hJ
    subst hi
    refine QA [(1, .int .i64 x), (2, .int .i64 c), (3, .ptr (5 + ex.length) t 0), (50, .lst 1 [.int .u8 10, .int .u8 2] true), (51, .int .i64 2), (52, .int .i64 2)] ⟨f1, f2, f3, f50, f51, f52, trivial⟩ 1000 ?_
    simp -implicitDefEqProofs (disch := omega) only [go_sem, ↓reduceIte, reduceCtorEq, rq, Int.reduceLT, decide_false, true_and, and_true]
    exact ⟨hN (j1 (by simp)) (j2 (by simp)), t3, by omega, rfl⟩
   ·rcases hE with ⟨rfl, f6, t3, w2, w3, w4, ht3, rfl⟩ | ⟨rfl, rfl, t3, ht3, rfl⟩
    ·refine QI 1000 ?_
     simp -implicitDefEqProofs (disch := omega) only [go_sem, zA, f6, Qa, Qh, lA, lC, lN]
     exact ⟨by omega, rfl, t3, w2, w3, w4, by omega, rfl⟩
    ·refine QI 1000 ?_
     refine yd ?_
     exact ⟨by omega, rfl, t3, v2, v3, v4, by omega, rfl⟩
theorem Qpo {T : Nat → Option AF} (hT : Qj P T) {f : Nat} {A : AF} (hf : T f = some A) {n base base' : Nat} {Q : AE → Fr → H → Prop} {t : AT} {d : Option Nat} {dead : List Nat} {s : List KI} {fr : Fr} {first args cap : List V} {σ : H} {R : V → H → Prop}
 (h : C P G base' f (first ++ args ++ cap) σ R) (fuel : Nat) (k : ∀ v σ', R v σ' → run P G n base Q fuel (.at t dead :: s) .nrm (fput fr d v) σ') : CV P G base' (.fn (.func f) first cap) args σ (kC P G n base Q d t dead s fr) :=
 QsG hT hf (h.conseq fun v σ' hq => QI fuel (k v σ' hq))
theorem QlM {bin : ZR} (hb : Yy [] [] bin) {L : List Nd} (hok : okN L) {op x c : Int} (hc : i64 c) {r : GR} (h : Q6 bin L op x c = some r) : ZL L r := by
 unfold Q6 at h
 split at h
 ·cases h; exact .inr rfl
 split at h
 ·rename_i y d hta
  obtain ⟨t1, _, t3, _⟩ := Q8 (S := []) (C := []) hok hta
  exact .inl (QK hb hok t1 (by omega) (Qq _) h).2
 ·split at h
  ·rename_i y d hta
   obtain ⟨t1, _, t3, _⟩ := Q8 (S := []) (C := []) hok hta
   exact .inl (QK hb hok t1 (by omega) (Xz hc t3) h).2
  ·split at h
   ·rename_i y z hof
    obtain ⟨t1, t2, _⟩ := Qa7 (S := []) (C := []) hok hof
    split at h
    ·exact .inl (hb _ _ _ _ _ hok t1 t2 (by omega) h).2
    ·cases h; exact .inr rfl
   ·split at h
    ·rename_i y z hof
     obtain ⟨t1, t2, _⟩ := Qa7 (S := []) (C := []) hok hof
     split at h
     ·exact .inl (hb _ _ _ _ _ hok t1 t2 (by omega) h).2
     ·cases h; exact .inr rfl
    ·cases h; exact .inr rfl
def chain (L : List Nd) : List (Option GR) → Option GR
 | [] => some (-1, L)
 | q :: l => q.bind fun q => if q.1 ≠ -1 then some q else chain L l
theorem Qft {L : List Nd} {q : Option GR} {k : List Nd → Option GR} {l : List (Option GR)} {r : GR} (hn : ∀ r, q = some r → ZL L r) (hk : k L = some r → chain L l = some r) (h : X2 q k = some r) : chain L (q :: l) = some r := by
 unfold X2 at h
 cases q with
 | none => cases h
 | some q =>
   simp only [Option.bind_some, chain] at h ⊢
   by_cases h1 : q.1 ≠ -1
   ·rw [if_pos h1] at h ⊢; exact h
   ·rw [if_neg h1] at h ⊢
    rcases hn q rfl with h2 | h2
    ·exact absurd h2 h1
    ·rw [h2] at h; exact hk h
theorem Qoh {bin : ZR} (hb : Yy [] [] bin) {L : List Nd} (hok : okN L) {op x c : Int} (ho : 1 ≤ op ∧ op ≤ 16) (hx : inG L x) (hc : i64 c) {r : GR} (h : QU bin L op x c = some r) : chain L [some (QT L op x c), Xm bin L op x c, Xv bin L op x c, Xf bin L op x c, Q6 bin L op x c] = some r := by
 unfold QU at h
 refine Qft (fun r hr => ?_) (fun h => ?_) h
 ·cases hr; exact YY hx
 refine Qft (fun r hr => YW hb hok hx hc hr) (fun h => ?_) h
 refine Qft (fun r hr => YV hb hok hc hr) (fun h => ?_) h
 refine Qft (fun r hr => YX hb hok ho hc hr) (fun h => ?_) h
 rw [h]
 simp only [chain, Option.bind_some]
 by_cases h1 : r.1 ≠ -1
 ·rw [if_pos h1]
 ·rw [if_neg h1]
  rcases QlM hb hok hc h with h2 | h2
  ·exact absurd h2 h1
  ·rw [h2]
theorem Qda {L : List Nd} {q : Option GR} {l : List (Option GR)} {r : GR} (hn : ∀ r, q = some r → ZL L r) (h : chain L (q :: l) = some r) : ∃ s, q = some s ∧ ((s.1 ≠ -1 ∧ s = r) ∨ (s = (-1, L) ∧ chain L l = some r)) := by
 cases q with
 | none => cases h
 | some q =>
   simp only [chain, Option.bind_some] at h
   by_cases h1 : q.1 ≠ -1
   ·rw [if_pos h1] at h
    cases h
    exact ⟨_, rfl, .inl ⟨h1, rfl⟩⟩
   ·rw [if_neg h1] at h
    rcases hn q rfl with h2 | h2
    ·exact absurd h2 h1
    ·exact ⟨_, rfl, .inr ⟨h2, h⟩⟩
theorem k_S2 (hT : Qj P tab) (F : Fmt P G) {bin : ZR} (hK : Yy [] [] bin) (hB : Qzr P G F.fmt bin) {v0 v1 v2 v3 v4 t : Nat} {L : List Nd} {ex : List (Option Ob)} {op x c : Int} {m vm T : Nat} (hm : ex[m]? = some (some (.arr vm T [.ptr 1 v0 0]))) (hok : okN L) (hc : i64 c) {r : GR} (hr : r.2.length ≤ 1000000) (h : Q6 bin L op x c = some r) :
 C P G 0 Xh [.int .u8 op, .int .i64 x, .int .i64 c, .ptr (5 + m) vm 0] ⟨t, kG F.fmt v0 v1 v2 v3 v4 L ++ ex⟩ (Qbh F.fmt r v0 v1 ex t) := by
 refine Qx hT QaI (by simp [Xy]) (Qs 1000 ?_)
 have hmm : (kG F.fmt v0 v1 v2 v3 v4 L ++ ex)[5 + m]? = some (some (.arr vm T [.ptr 1 v0 0])) := kx_m hm
 by_cases h16 : op = 16
 ·subst h16
  simp -implicitDefEqProofs (disch := omega) only [go_sem, ↓reduceIte, reduceCtorEq, rA, rq, zA, lR, bne_self_eq_false, Xy, QuD, QuC, QuB, QuA, lC, lN, tSq, tN, false_implies, and_true, hmm]
  refine call hT Qch (QGv hT F hK hB hok hc hr h) 1000 fun v σ hv => ?_
  obtain ⟨rfl, t', v2', v3', v4', ht, rfl⟩ := hv
  refine ya ?_
  exact ⟨rfl, t', v2', v3', v4', ht, rfl⟩
 ·rw [Q6, if_pos h16] at h
  cases h
  simp -implicitDefEqProofs (disch := omega) only [go_sem, ↓reduceIte, reduceCtorEq, rA, rq, zA, Xy, QuD, QuC, QuB, QuA, false_implies, true_implies, and_true, not_false_eq_true, h16]
  exact ⟨rfl, t, v2, v3, v4, by omega, rfl⟩
theorem Qmo (hT : Qj P tab) (F : Fmt P G) (hP : Bits P G) {bin : ZR} (hK : Yy [] [] bin) (hB : Qzr P G F.fmt bin) {v0 v1 v2 v3 v4 t : Nat} {L : List Nd} {ex : List (Option Ob)} {op x c : Int} (hok : okN L) (hL : L.length ≤ 1000000) (hx' : inG L x) (ho : 1 ≤ op ∧ op ≤ 16) (hc : i64 c) {r : GR} (hr : r.2.length ≤ 1000000) (h : QU bin L op x c = some r) :
 C P G 0 QbR [mk v0, .int .u8 op, .int .i64 x, .int .i64 c] ⟨t, kG F.fmt v0 v1 v2 v3 v4 L ++ ex⟩ (Qbh F.fmt r v0 v1 ex t) := by
 refine Ql (5 + ex.length) (zL _) (Qx hT YN (by simp [YF]) (Qs 1000 ?_))
 replace h := Qoh hK hok ho hx' hc h
 simp -implicitDefEqProofs (disch := omega) only [go_sem, ↓reduceIte, reduceCtorEq, rA, rq, rL, zA, lR, YF, QBS, QBR, QBQ, QBP, QBO, QBN, QBM, QBL, QBK, QBJ, QuT, Qa, QB, lA, lC, lN, aA, cA, nA, tSq, tZ, tN, false_implies, and_true]
 have hbox : (ex ++ [some (.arr t 76 [.ptr 1 v0 0]), some (.arr (t + 1) 107 [.fn (.func XV) [mk v0] [], .fn (.func XU) [mk v0] [], .fn (.func XT) [mk v0] [], .fn (.func Xi) [] [.ptr (5 + ex.length) t 0], .fn (.func Xh) [] [.ptr (5 + ex.length) t 0]])])[ex.length]? = some (some (.arr t 76 [.ptr 1 v0 0])) := by simp
 refine Qcw [0, 1, 2, 3, 4] (fun i fr σ => chain L ([some (QT L op x c), Xm bin L op x c, Xv bin L op x c, Xf bin L op x c, Q6 bin L op x c].drop i) = some r ∧ Qt fr 1 = .int .u8 op ∧ Qt fr 2 = .int .i64 x ∧ Qt fr 3 = .int .i64 c ∧ Qt fr 24 = .sl (5 + (ex.length + 1)) (t + 1) 0 1 5 none ∧ Qt fr 25 = .int .i64 5 ∧ Qt fr 26 = .int .i64 ((i : Nat) : Int) ∧ ∃ t' v2' v3' v4', t ≤ t' ∧ σ = ⟨t', kG F.fmt v0 v1 v2' v3' v4' L ++ (ex ++ [some (.arr t 76 [.ptr 1 v0 0]), some (.arr (t + 1) 107 [.fn (.func XV) [mk v0] [], .fn (.func XU) [mk v0] [], .fn (.func XT) [mk v0] [], .fn (.func Xi) [] [.ptr (5 + ex.length) t 0], .fn (.func Xh) [] [.ptr (5 + ex.length) t 0]])])⟩)
  (fun e fr σ => (e = .ret ∧ Qt fr 8 = .int .i64 r.1 ∧ ∃ t' v2' v3' v4', t ≤ t' ∧ σ = ⟨t', kG F.fmt v0 v1 v2' v3' v4' r.2 ++ (ex ++ [some (.arr t 76 [.ptr 1 v0 0]), some (.arr (t + 1) 107 [.fn (.func XV) [mk v0] [], .fn (.func XU) [mk v0] [], .fn (.func XT) [mk v0] [], .fn (.func Xi) [] [.ptr (5 + ex.length) t 0], .fn (.func Xh) [] [.ptr (5 + ex.length) t 0]])])⟩) ∨ (e = .ex 0 ∧ r = (-1, L) ∧ ∃ t' v2' v3' v4', t ≤ t' ∧ σ = ⟨t', kG F.fmt v0 v1 v2' v3' v4' L ++ (ex ++ [some (.arr t 76 [.ptr 1 v0 0]), some (.arr (t + 1) 107 [.fn (.func XV) [mk v0] [], .fn (.func XU) [mk v0] [], .fn (.func XT) [mk v0] [], .fn (.func Xi) [] [.ptr (5 + ex.length) t 0], .fn (.func Xh) [] [.ptr (5 + ex.length) t 0]])])⟩)) ⟨h, yb, yb, yb, yb, by simp -implicitDefEqProofs (disch := omega) only [go_sem, ↓reduceIte, reduceCtorEq, rq]; rfl, by simp -implicitDefEqProofs (disch := omega) only [go_sem, ↓reduceIte, reduceCtorEq, rq]; rfl, _, v2, v3, v4, by omega, rfl⟩ (fun i o hx fr σ hJ => ?_) (fun i hi fr σ hJ => ?_) (fun e fr σ hE => ?_)
 ·obtain ⟨hch, f1, f2, f3, f24, f25, f26, t3, y2, y3, y4, ht3, rfl⟩ := hJ
  rcases i with _ | _ | _ | _ | _ | i
  ·have hch : chain L (some (QT L op x c) :: [Xm bin L op x c, Xv bin L op x c, Xf bin L op x c, Q6 bin L op x c]) = some r := hch
   obtain ⟨q, hq, hcase⟩ := Qda (fun r hr => by cases hr; exact YY hx') hch
   have hq2 : q.2.length ≤ 1000000 := by rcases hcase with ⟨_, rfl⟩ | ⟨rfl, _⟩; exact hr; exact hL
   refine QA [(1, .int .u8 op), (2, .int .i64 x), (3, .int .i64 c), (24, .sl (5 + (ex.length + 1)) (t + 1) 0 1 5 none), (25, .int .i64 5), (26, .int .i64 0)] ⟨f1, f2, f3, f24, f25, f26, trivial⟩ 1000 ?_
   refine yn ?_
   refine Qpo hT Qcg (QGu hT F ho hL) 1000 fun v σ hv => ?_
   obtain ⟨rfl, t4, w2, w3, w4, ht4, rfl⟩ := hv
   cases hq
   rcases hcase with ⟨hne, he⟩ | ⟨he, hch'⟩
   ·rw [he] at hne ⊢
    refine yq ?_
    exact ⟨t4, w2, w3, w4, by omega, rfl, rfl⟩
   ·rw [he]
    refine ya ?_
    exact ⟨_, _, Shift.refl _ _ _ _, hch', yb, yb, yb, yb, yb, by simp -implicitDefEqProofs (disch := omega) only [go_sem, ↓reduceIte, rq]; rfl, t4, w2, w3, w4, by omega, rfl⟩
  ·have hch : chain L (Xm bin L op x c :: [Xv bin L op x c, Xf bin L op x c, Q6 bin L op x c]) = some r := hch
   obtain ⟨q, hq, hcase⟩ := Qda (fun r hr => YW hK hok hx' hc hr) hch
   have hq2 : q.2.length ≤ 1000000 := by rcases hcase with ⟨_, rfl⟩ | ⟨rfl, _⟩; exact hr; exact hL
   refine QA [(1, .int .u8 op), (2, .int .i64 x), (3, .int .i64 c), (24, .sl (5 + (ex.length + 1)) (t + 1) 0 1 5 none), (25, .int .i64 5), (26, .int .i64 1)] ⟨f1, f2, f3, f24, f25, f26, trivial⟩ 1000 ?_
   refine yn ?_
   refine Qpo hT Qcf (QGs hT F hP hK hB hok hx' ho hc hq2 hq) 1000 fun v σ hv => ?_
   obtain ⟨rfl, t4, w2, w3, w4, ht4, rfl⟩ := hv
   rcases hcase with ⟨hne, rfl⟩ | ⟨rfl, hch'⟩
   ·refine yq ?_
    exact ⟨t4, w2, w3, w4, by omega, rfl, rfl⟩
   ·refine ya ?_
    exact ⟨_, _, Shift.refl _ _ _ _, hch', yb, yb, yb, yb, yb, by simp -implicitDefEqProofs (disch := omega) only [go_sem, ↓reduceIte, rq]; rfl, t4, w2, w3, w4, by omega, rfl⟩
  ·have hch : chain L (Xv bin L op x c :: [Xf bin L op x c, Q6 bin L op x c]) = some r := hch
   obtain ⟨q, hq, hcase⟩ := Qda (fun r hr => YV hK hok hc hr) hch
   have hq2 : q.2.length ≤ 1000000 := by rcases hcase with ⟨_, rfl⟩ | ⟨rfl, _⟩; exact hr; exact hL
   refine QA [(1, .int .u8 op), (2, .int .i64 x), (3, .int .i64 c), (24, .sl (5 + (ex.length + 1)) (t + 1) 0 1 5 none), (25, .int .i64 5), (26, .int .i64 2)] ⟨f1, f2, f3, f24, f25, f26, trivial⟩ 1000 ?_
   refine yn ?_
   refine Qpo hT Qce (QGq hT F hK hB hok hL ho hc hq2 hq) 1000 fun v σ hv => ?_
   obtain ⟨rfl, t4, w2, w3, w4, ht4, rfl⟩ := hv
   rcases hcase with ⟨hne, rfl⟩ | ⟨rfl, hch'⟩
   ·refine yq ?_
    exact ⟨t4, w2, w3, w4, by omega, rfl, rfl⟩
   ·refine ya ?_
    exact ⟨_, _, Shift.refl _ _ _ _, hch', yb, yb, yb, yb, yb, by simp -implicitDefEqProofs (disch := omega) only [go_sem, ↓reduceIte, rq]; rfl, t4, w2, w3, w4, by omega, rfl⟩
  ·have hch : chain L (Xf bin L op x c :: [Q6 bin L op x c]) = some r := hch
   obtain ⟨q, hq, hcase⟩ := Qda (fun r hr => YX hK hok ho hc hr) hch
   have hq2 : q.2.length ≤ 1000000 := by rcases hcase with ⟨_, rfl⟩ | ⟨rfl, _⟩; exact hr; exact hL
   refine QA [(1, .int .u8 op), (2, .int .i64 x), (3, .int .i64 c), (24, .sl (5 + (ex.length + 1)) (t + 1) 0 1 5 none), (25, .int .i64 5), (26, .int .i64 3)] ⟨f1, f2, f3, f24, f25, f26, trivial⟩ 1000 ?_
   refine yn ?_
   refine Qpo hT QaJ (QGt hT F hK hB hbox hok ho hc hq2 hq) 1000 fun v σ hv => ?_
   obtain ⟨rfl, t4, w2, w3, w4, ht4, rfl⟩ := hv
   rcases hcase with ⟨hne, rfl⟩ | ⟨rfl, hch'⟩
   ·refine yq ?_
    exact ⟨t4, w2, w3, w4, by omega, rfl, rfl⟩
   ·refine ya ?_
    exact ⟨_, _, Shift.refl _ _ _ _, hch', yb, yb, yb, yb, yb, by simp -implicitDefEqProofs (disch := omega) only [go_sem, ↓reduceIte, rq]; rfl, t4, w2, w3, w4, by omega, rfl⟩
  ·have hch : chain L (Q6 bin L op x c :: []) = some r := hch
   obtain ⟨q, hq, hcase⟩ := Qda (fun r hr => QlM hK hok hc hr) hch
   have hq2 : q.2.length ≤ 1000000 := by rcases hcase with ⟨_, rfl⟩ | ⟨rfl, _⟩; exact hr; exact hL
   refine QA [(1, .int .u8 op), (2, .int .i64 x), (3, .int .i64 c), (24, .sl (5 + (ex.length + 1)) (t + 1) 0 1 5 none), (25, .int .i64 5), (26, .int .i64 4)] ⟨f1, f2, f3, f24, f25, f26, trivial⟩ 1000 ?_
   refine yn ?_
   refine Qpo hT QaI (k_S2 hT F hK hB hbox hok hc hq2 hq) 1000 fun v σ hv => ?_
   obtain ⟨rfl, t4, w2, w3, w4, ht4, rfl⟩ := hv
   rcases hcase with ⟨hne, rfl⟩ | ⟨rfl, hch'⟩
   ·refine yq ?_
    exact ⟨t4, w2, w3, w4, by omega, rfl, rfl⟩
   ·refine ya ?_
    exact ⟨_, _, Shift.refl _ _ _ _, hch', yb, yb, yb, yb, yb, by simp -implicitDefEqProofs (disch := omega) only [go_sem, ↓reduceIte, rq]; rfl, t4, w2, w3, w4, by omega, rfl⟩
  ·simp at hx
 ·obtain ⟨hch, f1, f2, f3, f24, f25, f26, t3, y2, y3, y4, ht3, rfl⟩ := hJ
  subst hi
  have hch : some (-1, L) = some r := hch
  cases hch
  refine QA [(1, .int .u8 op), (2, .int .i64 x), (3, .int .i64 c), (24, .sl (5 + (ex.length + 1)) (t + 1) 0 1 5 none), (25, .int .i64 5), (26, .int .i64 5)] ⟨f1, f2, f3, f24, f25, f26, trivial⟩ 1000 ?_
  refine yk ?_
  exact ⟨t3, y2, y3, y4, by omega, rfl, rfl⟩
 ·rcases hE with ⟨rfl, f8, t3, w2, w3, w4, ht3, rfl⟩ | ⟨rfl, rfl, t3, w2, w3, w4, ht3, rfl⟩
  ·refine QI 1000 ?_
   simp -implicitDefEqProofs (disch := omega) only [go_sem, rA, zA, f8, Qa, Qh, lA, lC, lN]
   exact ⟨by omega, rfl, t3, w2, w3, w4, by omega, rfl⟩
  ·refine QI 1000 ?_
   refine yd ?_
   exact ⟨by omega, rfl, t3, w2, w3, w4, by omega, rfl⟩
end Go.Proofs.YtpdeoalocejodaaGreatDoor
