/- The law NormBin. -/
import Derived.Test.YtpdeoalocejodaaGreatDoorJ13
import Derived.Test.YtpdeoalocejodaaGreatDoorJ11
import Derived.Test.YtpdeoalocejodaaGreatDoorJ14
import Derived.Test.YtpdeoalocejodaaGreatDoorW21
import Derived.Test.YtpdeoalocejodaaGreatDoorJ15
open Nat renaming reduceEqDiff → rq, reduceAdd → rA, reduceLeDiff → rL, reduceLT → rT, zero_add → zA, le_refl → lR, zero_le → zL, add_zero → aZ
open List renaming length_cons → lC, length_nil → lN, take_succ_cons → tSq, length_append → lA, nil_append → nA, cons_append → cA, append_assoc → aA, take_nil → tN, take_zero → tZ, length_map → lM
open Bool renaming not_false → nF, not_true → nT
namespace Go.Proofs.YtpdeoalocejodaaGreatDoor
open Go Go.Am
set_option maxRecDepth 100000
variable {P : Program} {G : Nat → Option V}
set_option maxHeartbeats 4000000
theorem Qpr {L : List Nd} (hok : okN L) {op x y : Int} (hx : wt L x ≤ 2000) (hy : wt L y ≤ 2000) : ∃ r, QiC 4004 L op x y = some r ∧ r.2.length ≤ L.length + 16016 ∧ okN r.2 ∧ L <+: r.2 ∧ (¬ (inG L x ∧ inG L y ∧ (1 ≤ op ∧ op ≤ 16)) → r = (-1, L)) ∧ ((inG L x ∧ inG L y ∧ (1 ≤ op ∧ op ≤ 16)) → ∀ S C, (∀ x ∈ S, i64 x) → (∀ c ∈ C, i64 c.n) → inG r.2 r.1 ∧ val S C r.2 r.1 = doW op (val S C L x) (val S C L y)) := by
 by_cases h : inG L x ∧ inG L y ∧ (1 ≤ op ∧ op ≤ 16)
 ·have h1 := QqC op
  have he : 2 * max (wt L x) (wt L y) + Qm4 op < 4004 := by
   omega
  obtain ⟨r, hr⟩ := Option.isSome_iff_exists.1 (QmS 4004 L op x y hok h.1 h.2.1 h.2.2 he)
  have hg := QkW 4004 _ _ _ _ _ hok h.1 h.2.1 h.2.2 hr
  have hb : QiC 4004 L op x y = some r := by rw [QiC, if_pos h, hr]
  obtain ⟨_, l2, l3⟩ := Qaj hok hb
  refine ⟨r, hb, by omega, l2, l3, fun hn => absurd h hn, fun _ S C hS hC => ?_⟩
  obtain ⟨k1, k2⟩ := QdP (S := S) (C := C) (fun L hok x => Qcv hS hC (Qcx hok) x) 4004 _ _ _ _ _ hok h.1 h.2.1 h.2.2 hr
  exact k1.val k2
 ·have hb : QiC 4004 L op x y = some (-1, L) := by rw [QiC, if_neg h]
  exact ⟨_, hb, by show L.length ≤ _; omega, hok, List.prefix_rfl, fun _ => rfl, fun h' => absurd h' h⟩
theorem Qwa {L : List Nd} (hok : okN L) {x : Int} (hx : wt L x ≤ 2000) (hL : inG L x) : ∃ r, Qwb 4004 L x = some r ∧ r.2.length ≤ L.length + 16017 ∧ okN r.2 ∧ L <+: r.2 ∧ (∀ S C, (∀ x ∈ S, i64 x) → (∀ c ∈ C, i64 c.n) → inG r.2 r.1 ∧ val S C r.2 r.1 = doW 16 (val S C L x) 0) := by
 have i0 : i64 0 := by unfold i64; omega
 obtain ⟨h1, h2, h3, h4⟩ := QZ L 0
 have hok1 : okN (numN L 0).2 := Xs hok i0 i0
 have hx1 := (XF h3 hL).1
 have hl := Qab L 0
 obtain ⟨r, hr, g1, g2, g3, g4, g5⟩ := Qpr hok1 (op := 16) (x := x) (y := (numN L 0).1) (by rw [X8 h3 hL]; exact hx) (by rw [Xu h2]; omega)
 refine ⟨r, by rw [Qwb, if_pos hL]; exact hr, by omega, g2, h3.trans g3, fun S C hS hC => ?_⟩
 obtain ⟨k1, k2⟩ := g5 ⟨hx1, h1, by omega⟩ S C hS hC
 rw [YZ h3 hL, (Xo (S := S) (C := C) hok1 h2).1] at k2
 exact ⟨k1, k2⟩
theorem Qyy {f : Nat} {L : List Nd} {x : Int} (h : ¬ inG L x) : Qwb f L x = some (-1, L) := by rw [Qwb, if_neg h]
theorem QmQ {f : Nat} {L : List Nd} {op x y : Int} (h : ¬ (inG L x ∧ inG L y ∧ (1 ≤ op ∧ op ≤ 16))) : QiC f L op x y = some (-1, L) := by rw [QiC, if_neg h]
theorem Qxl (hT : Qj P tab) (F : Fmt P G) (SO : ZG P) (hP : Bits P G) (hW : Pure P G Qz [] fun v => v = .bool true) {t : Nat} (l : List Nd) (tl : Bool) (hl : ∀ d ∈ l, i64 d.n ∧ i64 d.a)
 (S : List Int) (tS : Bool) (C' : List Cl) (tC : Bool) (op x y : Int) (ho : 0 ≤ op ∧ op ≤ 255) (hS : ∀ x ∈ S, i64 x) (hCn : ∀ c ∈ C', i64 c.n) :
 C P G 0 YG [.lst 6 (l.map fun d => .agg d.cells) tl, Qfc S tS 4 C' tC, .int .u8 op, .int .i64 x, .int .i64 y] ⟨t, []⟩ fun v _ => v = .bool true := by
 have hA := Qmm l
 have hok := Qyw l hl
 have hfew := c_few (P := P) (G := G) hT S tS 4 C' tC
 refine Qx hT ZN (by simp [Xg]) (Qs 14 ?_)
 by_cases h1 : (40 : Int) < l.length
 ·have h1' : decide ((40 : Int) < l.length) = true := by simpa using h1
  simp -implicitDefEqProofs (disch := omega) only [go_sem, ↓reduceIte, reduceCtorEq, rA, rq, zA, decide_true, gt_iff_lt, Xg, QFl, QFk, QFj, QFi, QFh, QFg, QFf, QFe, QFd, QFc, Quj, Qui, Quh, Qug, Quf, Que, Qud, Quc, Qub, Qua, Qt9, Qfc, lM, lN, nA, and_true, h1]
  iterate 9 (try (refine QI 4 ?_; simp -implicitDefEqProofs (disch := omega) only [go_sem, ↓reduceIte, reduceCtorEq, rq]))
  refine Qd hT Qf hW rfl 1000 ?_
  exact yb
 ·have h1' : decide ((40 : Int) < l.length) = false := by simpa using h1
  simp -implicitDefEqProofs (disch := omega) only [go_sem, ↓reduceIte, reduceCtorEq, rA, rq, zA, decide_false, lR, gt_iff_lt, Xg, QFl, QFk, QFj, QFi, QFh, QFg, QFf, QFe, QFd, QFc, Quj, Qui, Quh, Qug, Quf, Que, Qud, Quc, Qub, Qua, Qt9, Qfc, lM, lC, lN, nA, tSq, tN, false_implies, and_true, h1]
  by_cases h2 : S.length ≤ 60 ∧ C'.length ≤ 60
  ·have h2' : decide (S.length ≤ 60 ∧ C'.length ≤ 60) = true := by simpa using h2
   rw [h2'] at hfew
   refine Qd hT XW hfew rfl 6 ?_
   refine ya ?_
   refine Z4 (Shift.freeze (k := 0) (v := t) (T := 48) (cs := [.lst 1 (Q7 S) tS, .lst 4 (C'.map Cl.v) tC]) (zL _) rfl rfl) ?_
   have hfp : Qc3 0 t [V.lst 1 (Q7 S) tS, .lst 4 (C'.map Cl.v) tC] (.ptr 0 t 0) = .ref (.agg [V.lst 1 (Q7 S) tS, .lst 4 (C'.map Cl.v) tC]) 0 := by simp [Qc3]
   simp only [hfp, List.set_cons_zero, Qij, QkF, QwC, QD7, QqF, X6, Option.map_none]
   refine Z4 (Shift.drop (o' := []) (t' := t + 1) (by simp [Qa5]) (lR _) (zL _)) (QI 1000 ?_)
   refine ya ?_
   refine call hT YM (Qxm hT F l tl hl (by omega)) 1000 fun v σ hv => ?_
   obtain ⟨v0, v1, v2, v3, v4, c1, u, hc1, rfl, rfl⟩ := hv
   obtain ⟨ex, hex⟩ : ∃ ex : List (Option Ob), ex = [] := ⟨_, rfl⟩
   rw [show kG F.fmt v0 v1 v2 v3 v4 (Qef l) = kG F.fmt v0 v1 v2 v3 v4 (Qef l) ++ ex by rw [hex, List.append_nil]]
   clear hex
   generalize Qef l = L at *
   refine ye ?_
   refine call hT Q0 (Qhz hT) 1000 fun v σ hv => ?_
   obtain ⟨rfl, c2, hc2, rfl⟩ := hv
   by_cases hz : L.length = 0
   ·have hni : ∀ x, ¬ inG L x := fun x h => by unfold inG at h; omega
    have hz' : ((L.length : Nat) : Int) = 0 := by omega
    simp -implicitDefEqProofs (disch := omega) only [go_sem, ↓reduceIte, reduceCtorEq, rq, beq_self_eq_true, hz']
    refine call hT Qe (QbU hT F hP 4004 hok ho (r := (-1, L)) (by show L.length ≤ _; omega) (QmQ fun h => hni _ h.1)) 1000 fun v σ hv => ?_
    obtain ⟨rfl, c3, w2, w3, w4, hc3, rfl⟩ := hv
    refine ya ?_
    refine call hT Zh (Qws hT F hP 4004 hok (r := (-1, L)) (by show L.length ≤ _; omega) (Qyy (hni _))) 1000 fun v σ hv => ?_
    obtain ⟨rfl, c4, u2, u3, u4, hc4, rfl⟩ := hv
    refine ya ?_
    refine Qd hT Qf hW rfl 1000 ?_
    exact yb
   ·have hz' : ¬ ((L.length : Nat) : Int) = 0 := by omega
    simp -implicitDefEqProofs (disch := omega) only [go_sem, ↓reduceIte, reduceCtorEq, rq, false_implies, true_implies, true_and, not_false_eq_true, hz']
    refine call hT XI (k_at hT (by simp) (by omega)) 1000 fun v σ hv => ?_
    obtain ⟨rfl, c3, hc3, rfl⟩ := hv
    refine ya ?_
    refine call hT XI (k_at hT (by simp) (by omega)) 1000 fun v σ hv => ?_
    obtain ⟨rfl, c4, hc4, rfl⟩ := hv
    have ha := Qkm (i := x) hz
    have hb := Qkm (i := y) hz
    generalize Qkn x L.length = a at *
    generalize Qkn y L.length = b at *
    have e1 : ofV S C' L a = .tup [.int .i64 (val S C' L a), .bool true] := by rw [ofV, if_pos (show 0 ≤ a ∧ a < (L.length : Int) from ha)]
    have e2 : ofV S C' L b = .tup [.int .i64 (val S C' L b), .bool true] := by rw [ofV, if_pos (show 0 ≤ b ∧ b < (L.length : Int) from hb)]
    refine yi ?_
    refine call hT YB (QxN hT SO (by omega) hok S hS tS C' (by omega) hCn tC a) 1000 fun v σ hv => ?_
    obtain ⟨rfl, c5, hc5, rfl⟩ := hv
    rw [e1]
    refine yi ?_
    refine call hT YB (QxN hT SO (by omega) hok S hS tS C' (by omega) hCn tC b) 1000 fun v σ hv => ?_
    obtain ⟨rfl, c6, hc6, rfl⟩ := hv
    rw [e2]
    refine ye ?_
    refine call hT Qu (Qfa hT) 1000 fun v σ hv => ?_
    obtain ⟨rfl, c7, hc7, rfl⟩ := hv
    have ha' : 0 ≤ a ∧ a < L.length := ha
    have i0 : i64 0 := by unfold i64; omega
    have hpi : i64 (val S C' L a) := Qcv hS hCn (Qcx hok) a
    have hqi : i64 (val S C' L b) := Qcv hS hCn (Qcx hok) b
    have wa : wt L a ≤ 2000 := by have := Qx0 hok a; have := ha.2; omega
    have wb : wt L b ≤ 2000 := by have := Qx0 hok b; have := hb.2; omega
    obtain ⟨r1, hr1, l1, k1, p1, n1, g1⟩ := Qpr hok (op := op) (x := a) (y := b) wa wb
    obtain ⟨r2, hr2, l2, k2, p2, g2⟩ := Qwa k1 (x := a) (by rw [X8 p1 ha]; exact wa) (XF p1 ha).1
    obtain ⟨g3, g4⟩ := g2 S C' hS hCn
    rw [YZ p1 ha] at g4
    have e4 : ofV S C' r2.2 r2.1 = .tup [.int .i64 (doW 16 (val S C' L a) 0), .bool true] := by rw [ofV, if_pos (show 0 ≤ r2.1 ∧ r2.1 < (r2.2.length : Int) from g3), g4]
    have hd16 := c_rDo (P := P) (G := G) hT 16 (val S C' L a) 0 (by omega) hpi i0
    have hdop := c_rDo (P := P) (G := G) hT op (val S C' L a) (val S C' L b) ho hpi hqi
    have hkn := Qsw (P := P) (G := G) hT op
    have o1 : QiC 4004 r2.2 op (-1) b = some (-1, r2.2) := QmQ fun h => by have := h.1.1; omega
    have o2 : QiC 4004 r2.2 op a (r2.2.length : Int) = some (-1, r2.2) := QmQ fun h => by have := h.2.1.2; omega
    have hlr : r2.2.length ≤ 1000000 := by omega
    have e3 : (¬ (1 ≤ op ∧ op ≤ 16) ∧ r1.1 = -1 ∧ ofV S C' r2.2 r1.1 = .tup [.int .i64 0, .bool false]) ∨ ((1 ≤ op ∧ op ≤ 16) ∧ ofV S C' r2.2 r1.1 = .tup [.int .i64 (doW op (val S C' L a) (val S C' L b)), .bool true]) := by
     by_cases hop : 1 ≤ op ∧ op ≤ 16
     ·obtain ⟨q1, q2⟩ := g1 ⟨ha, hb, hop⟩ S C' hS hCn
      right
      have q3 := (XF p2 q1).1
      rw [ofV, if_pos (show 0 ≤ r1.1 ∧ r1.1 < (r2.2.length : Int) from q3), YZ p2 q1, q2]
      exact ⟨hop, rfl⟩
     ·left
      have q1 := n1 fun h => hop h.2.2
      rw [q1]
      refine ⟨hop, rfl, ?_⟩
      rw [ofV, if_neg (by intro h; have := h.1; omega)]
    have e : L.getD a.toNat zeroNd = nd L a := rfl
    rw [if_pos ha', e]
    have hbe : Yt L a = decide (((nd L a).kind = 4 ∧ ((nd L a).op = 14 ∨ (nd L a).op = 15 ∨ (nd L a).op = 16)) ∨ ((nd L a).kind = 1 ∧ ((nd L a).n = 0 ∨ (nd L a).n = 1))) := by simp [Yt, ha]
    have hnu : Qjh L a = if (nd L a).kind = 1 then .tup [.int .i64 (nd L a).n, .bool true] else .tup [.int .i64 0, .bool false] := by
     unfold Qjh QE
     by_cases h : (nd L a).kind = 1
     ·rw [if_pos ⟨ha, h⟩, if_pos h]
     ·rw [if_neg fun q => h q.2, if_neg h]
    generalize nd L a = d at *
    have hpl := QG5 (P := P) (G := G) hT d
    have hrb := QG0 (P := P) (G := G) hT d
    rw [← hbe] at hrb
    refine yu ?_
    refine call hT Zg (QhA hT (by simp)) 1000 fun v σ hv => ?_
    obtain ⟨rfl, c8, hc8, rfl⟩ := hv
    rw [hnu]
    by_cases hk : d.kind = 1
    ·rw [if_pos hk]
     simp only [Nd.cells, hk] at hpl hrb
     simp -implicitDefEqProofs (disch := omega) only [go_sem, ↓reduceIte, reduceCtorEq, rA, rq, rL, rT, zA, aZ, nT, lR, beq_self_eq_true, bne_self_eq_false, nT, Qa, QB, lA, lC, lN, tSq, tN, false_implies, true_implies, and_true, hk, bne_self_eq_false, beq_self_eq_true]
     refine call hT YO (QlI hT (by simp)) 1000 fun v σ hv => ?_
     obtain ⟨rfl, c9, hc9, rfl⟩ := hv
     refine ya ?_
     refine Qd hT YC hpl rfl 1000 ?_
     refine ya ?_
     refine Qd hT Y9 hrb rfl 1000 ?_
     refine ya ?_
     refine call hT Qe (QbU hT F hP 4004 hok ho (by omega) hr1) 1000 fun v σ hv => ?_
     obtain ⟨rfl, d1, w2, w3, w4, hd1, rfl⟩ := hv
     refine ya ?_
     refine call hT Zh (Qws hT F hP 4004 k1 hlr hr2) 1000 fun v σ hv => ?_
     obtain ⟨rfl, d2, u2, u3, u4, hd2, rfl⟩ := hv
     refine yi ?_
     refine call hT YB (QxN hT SO hlr k2 S hS tS C' (by omega) hCn tC r1.1) 1000 fun v σ hv => ?_
     obtain ⟨rfl, d3, hd3, rfl⟩ := hv
     rcases e3 with ⟨hop, hr, e3⟩ | ⟨hop, e3⟩
     ·rw [e3]
      have hop' : decide (1 ≤ op ∧ op ≤ 16) = false := by simpa using hop
      rw [hop'] at hkn
      refine yi ?_
      refine call hT YB (QxN hT SO hlr k2 S hS tS C' (by omega) hCn tC r2.1) 1000 fun v σ hv => ?_
      obtain ⟨rfl, d4, hd4, rfl⟩ := hv
      rw [e4]
      refine ye ?_
      refine Qd hT Xn hd16 rfl 1000 ?_
      refine ya ?_
      refine call hT Qe (QbU hT F hP 4004 k2 ho (r := (-1, r2.2)) hlr o1) 1000 fun v σ hv => ?_
      obtain ⟨rfl, d5, x2, x3, x4, hd5, rfl⟩ := hv
      refine ya ?_
      refine call hT Q0 (Qhz hT) 1000 fun v σ hv => ?_
      obtain ⟨rfl, d6, hd6, rfl⟩ := hv
      refine ya ?_
      refine call hT Qe (QbU hT F hP 4004 k2 ho (r := (-1, r2.2)) hlr o2) 1000 fun v σ hv => ?_
      obtain ⟨rfl, d7, y2, y3, y4, hd7, rfl⟩ := hv
      refine ya ?_
      refine Qd hT Q1 hkn rfl 1000 ?_
      refine yZ ?_
      refine Qd hT Qf hW rfl 1000 ?_
      exact yb
     ·rw [e3]
      have hop' : decide (1 ≤ op ∧ op ≤ 16) = true := by simpa using hop
      rw [hop'] at hkn
      refine yi ?_
      refine call hT YB (QxN hT SO hlr k2 S hS tS C' (by omega) hCn tC r2.1) 1000 fun v σ hv => ?_
      obtain ⟨rfl, d4, hd4, rfl⟩ := hv
      rw [e4]
      refine ye ?_
      refine Qd hT Xn hd16 rfl 1000 ?_
      refine ya ?_
      refine call hT Qe (QbU hT F hP 4004 k2 ho (r := (-1, r2.2)) hlr o1) 1000 fun v σ hv => ?_
      obtain ⟨rfl, d5, x2, x3, x4, hd5, rfl⟩ := hv
      refine ya ?_
      refine call hT Q0 (Qhz hT) 1000 fun v σ hv => ?_
      obtain ⟨rfl, d6, hd6, rfl⟩ := hv
      refine ya ?_
      refine call hT Qe (QbU hT F hP 4004 k2 ho (r := (-1, r2.2)) hlr o2) 1000 fun v σ hv => ?_
      obtain ⟨rfl, d7, y2, y3, y4, hd7, rfl⟩ := hv
      refine ya ?_
      refine Qd hT Q1 hkn rfl 1000 ?_
      refine ya ?_
      refine Qd hT Xn hdop rfl 1000 ?_
      refine ya ?_
      refine Qd hT Qf hW rfl 1000 ?_
      exact yb
    ·rw [if_neg hk]
     have hkb : (d.kind == 1) = false := by simpa using hk
     simp -implicitDefEqProofs (disch := omega) only [go_sem, ↓reduceIte, reduceCtorEq, rA, rq, rL, rT, zA, aZ, nT, lR, bne_self_eq_false, nT, Qa, QB, lA, lC, lN, tSq, tN, false_implies, true_implies, and_true, hkb, bne_self_eq_false]
     refine call hT YO (QlI hT (by simp)) 1000 fun v σ hv => ?_
     obtain ⟨rfl, c9, hc9, rfl⟩ := hv
     refine ya ?_
     refine Qd hT YC hpl rfl 1000 ?_
     refine ya ?_
     refine Qd hT Y9 hrb rfl 1000 ?_
     refine ya ?_
     refine call hT Qe (QbU hT F hP 4004 hok ho (by omega) hr1) 1000 fun v σ hv => ?_
     obtain ⟨rfl, d1, w2, w3, w4, hd1, rfl⟩ := hv
     refine ya ?_
     refine call hT Zh (Qws hT F hP 4004 k1 hlr hr2) 1000 fun v σ hv => ?_
     obtain ⟨rfl, d2, u2, u3, u4, hd2, rfl⟩ := hv
     refine yi ?_
     refine call hT YB (QxN hT SO hlr k2 S hS tS C' (by omega) hCn tC r1.1) 1000 fun v σ hv => ?_
     obtain ⟨rfl, d3, hd3, rfl⟩ := hv
     rcases e3 with ⟨hop, hr, e3⟩ | ⟨hop, e3⟩
     ·rw [e3]
      have hop' : decide (1 ≤ op ∧ op ≤ 16) = false := by simpa using hop
      rw [hop'] at hkn
      refine yi ?_
      refine call hT YB (QxN hT SO hlr k2 S hS tS C' (by omega) hCn tC r2.1) 1000 fun v σ hv => ?_
      obtain ⟨rfl, d4, hd4, rfl⟩ := hv
      rw [e4]
      refine ye ?_
      refine Qd hT Xn hd16 rfl 1000 ?_
      refine ya ?_
      refine call hT Qe (QbU hT F hP 4004 k2 ho (r := (-1, r2.2)) hlr o1) 1000 fun v σ hv => ?_
      obtain ⟨rfl, d5, x2, x3, x4, hd5, rfl⟩ := hv
      refine ya ?_
      refine call hT Q0 (Qhz hT) 1000 fun v σ hv => ?_
      obtain ⟨rfl, d6, hd6, rfl⟩ := hv
      refine ya ?_
      refine call hT Qe (QbU hT F hP 4004 k2 ho (r := (-1, r2.2)) hlr o2) 1000 fun v σ hv => ?_
      obtain ⟨rfl, d7, y2, y3, y4, hd7, rfl⟩ := hv
      refine ya ?_
      refine Qd hT Q1 hkn rfl 1000 ?_
      refine yZ ?_
      refine Qd hT Qf hW rfl 1000 ?_
      exact yb
     ·rw [e3]
      have hop' : decide (1 ≤ op ∧ op ≤ 16) = true := by simpa using hop
      rw [hop'] at hkn
      refine yi ?_
      refine call hT YB (QxN hT SO hlr k2 S hS tS C' (by omega) hCn tC r2.1) 1000 fun v σ hv => ?_
      obtain ⟨rfl, d4, hd4, rfl⟩ := hv
      rw [e4]
      refine ye ?_
      refine Qd hT Xn hd16 rfl 1000 ?_
      refine ya ?_
      refine call hT Qe (QbU hT F hP 4004 k2 ho (r := (-1, r2.2)) hlr o1) 1000 fun v σ hv => ?_
      obtain ⟨rfl, d5, x2, x3, x4, hd5, rfl⟩ := hv
      refine ya ?_
      refine call hT Q0 (Qhz hT) 1000 fun v σ hv => ?_
      obtain ⟨rfl, d6, hd6, rfl⟩ := hv
      refine ya ?_
      refine call hT Qe (QbU hT F hP 4004 k2 ho (r := (-1, r2.2)) hlr o2) 1000 fun v σ hv => ?_
      obtain ⟨rfl, d7, y2, y3, y4, hd7, rfl⟩ := hv
      refine ya ?_
      refine Qd hT Q1 hkn rfl 1000 ?_
      refine ya ?_
      refine Qd hT Xn hdop rfl 1000 ?_
      refine ya ?_
      refine Qd hT Qf hW rfl 1000 ?_
      exact yb
  ·have h2' : decide (S.length ≤ 60 ∧ C'.length ≤ 60) = false := by simpa using h2
   rw [h2'] at hfew
   refine Qd hT XW hfew rfl 1000 ?_
   refine ya ?_
   refine Qd hT Qf hW rfl 1000 ?_
   exact yb
theorem Qh5 {f : FuncId} {args : List V} (h : ∀ t, C P G 0 f args ⟨t, []⟩ fun v _ => v = .bool true) : Pure P G f args fun v => v = .bool true := fun t => (h t).conseq fun v _ hv => by subst hv; exact ⟨rfl, rfl⟩
def kl : List Nd := [⟨2, 0, 0, 0, 0, 0⟩, ⟨2, 1, 0, 0, 0, 0⟩, ⟨1, 8, 0, 0, 0, 0⟩, ⟨4, 0, 0, 1, 0, 2⟩, ⟨4, 0, 0, 14, 0, 1⟩, ⟨1, 1, 0, 0, 0, 0⟩, ⟨4, 0, 0, 10, 0, 5⟩, ⟨4, 0, 0, 10, 4, 2⟩, ⟨4, 0, 0, 3, 2, 1⟩, ⟨3, 0, 1, 0, 0, 3⟩, ⟨1, -9223372036854775808, 0, 0, 0, 0⟩, ⟨4, 0, 0, 2, 1, 0⟩, ⟨1, -1, 0, 0, 0, 0⟩, ⟨4, 0, 0, 16, 4, 5⟩]
abbrev klV : V := .lst 6 (kl.map fun d => .agg d.cells) true
abbrev keV : V := Qfc [5, -3] true 4 [⟨1, 0, 13, 4⟩] true
def Qgx : List Int := [0, 1, -1, 2, 3, 64, 4611686018427387904, -9223372036854775808]
structure QxK (P : Program) (G : Nat → Option V) : Prop where
 bin : ∀ op x y : Int, 0 ≤ op ∧ op ≤ 255 → Pure P G YG [klV, keV, .int .u8 op, .int .i64 x, .int .i64 y] fun v => v = .bool true
 same : ∀ op x y c d : Int, 0 ≤ op ∧ op ≤ 255 → i64 c → i64 d → Pure P G Yv [klV, .int .u8 op, .int .i64 x, .int .i64 y, .int .i64 c, .int .i64 d] fun v => v = .bool true
 moved : ∀ x y c d : Int, i64 c → i64 d → Pure P G Yi [klV, .int .i64 x, .int .i64 y, .int .i64 c, .int .i64 d] fun v => v = .bool true
 truth : ∀ x y w c : Int, 0 ≤ w ∧ w ≤ 255 → i64 c → Pure P G Yh [klV, .int .i64 x, .int .i64 y, .int .u8 w, .int .i64 c] fun v => v = .bool true
 of1 : Pure P G X5 [klV, keV] fun v => v = .bool true
 of2 : Pure P G X5 [klV, .agg [.lst 0 [] true, .lst 0 [] true]] fun v => v = .bool true
 works : Pure P G Qz [] fun v => v = .bool true
theorem QlG : ∀ d ∈ kl, i64 d.n ∧ i64 d.a := by
 intro d hd
 simp only [kl, List.mem_cons, List.not_mem_nil, or_false] at hd
 unfold i64
 rcases hd with rfl | rfl | rfl | rfl | rfl | rfl | rfl | rfl | rfl | rfl | rfl | rfl | rfl | rfl <;> decide
theorem asked (hT : Qj P tab) (F : Fmt P G) (SO : ZG P) (hP : Bits P G) (hW : Pure P G Qz [] fun v => v = .bool true) : QxK P G := by
 have hS : ∀ x ∈ [(5 : Int), -3], i64 x := by
  intro x hx
  simp at hx
  unfold i64
  rcases hx with rfl | rfl <;> omega
 have hC : ∀ c ∈ [(⟨1, 0, 13, 4⟩ : Cl)], i64 c.n := by
  intro c hc
  simp at hc
  subst hc
  unfold i64; decide
 refine ⟨fun op x y ho => Qh5 fun t => Qxl hT F SO hP hW kl true QlG _ _ _ _ op x y ho hS hC, fun op x y c d ho hc hd => Qh5 fun t => QtF hT F SO hP hW kl true QlG op x y c d ho hc hd, fun x y c d hc hd => Qh5 fun t => Qq6 hT F SO hP hW kl true QlG x y c d hc hd, fun x y w c hw hc => Qh5 fun t => Qq5 hT F SO hP hW kl true QlG x y w c hw hc, Qh5 fun t => Qsy hT F SO hP hW kl true QlG _ _ _ _ hS hC, ?_, hW⟩
 refine Pure.args (args' := [klV, Qfc [] false 4 [] false]) ?_ (Qh5 fun t => Qsy hT F SO hP hW kl true QlG _ _ _ _ (by simp) (by simp))
 exact .cons _ _ _ _ (.refl _) (.cons _ _ _ _ (.agg _ _ (.cons _ _ _ _ (.lst _ _ _ _ _ .nil (.inl rfl)) (.cons _ _ _ _ (.lst _ _ _ _ _ .nil (.inl rfl)) .nil))) .nil)
abbrev QGf : V := .val (.pointer none)
theorem z_is (hT : Qj P tab) (i : Int) : Pure P G QbL [QGf, .int .i64 i] fun v => v = .bool false := by
 intro t
 refine Ql 0 (zL _) (Qx hT XN (by simp [YJ]) (Qs 1000 ?_))
 simp -implicitDefEqProofs (disch := omega) only [go_sem, ↓reduceIte, reduceCtorEq, rq, zA, nT, lR, YJ, Qu5, Qu4, lN, and_true]
theorem QrJ (hT : Qj P tab) (i : Int) : Pure P G Zj [QGf, .int .i64 i] fun v => v = .tup [.agg zeroNd.cells, .bool false] := by
 intro t
 refine Ql 0 (zL _) (Qx hT Qu (by simp [Yd]) (Qs 1000 ?_))
 simp -implicitDefEqProofs (disch := omega) only [go_sem, ↓reduceIte, reduceCtorEq, rq, zA, Yd, QEO, QEN, QEM, QEL, lN, and_true]
 refine Qd hT XN (z_is hT i) rfl 1000 ?_
 simp -implicitDefEqProofs (disch := omega) only [go_sem, ↓reduceIte, reduceCtorEq, rA, rq, zA, nF, lR, zL, lN, lC, false_implies, and_true, zeroNd, Nd.cells]
theorem z_Add (hT : Qj P tab) (d : Nd) : Pure P G ZH [QGf, .agg d.cells] fun v => v = .int .i64 (-1) := by
 intro t
 refine Ql 0 (zL _) (Qx hT Qw (by simp [Yu]) (Qs 1000 ?_))
 simp -implicitDefEqProofs (disch := omega) only [go_sem, ↓reduceIte, reduceCtorEq, rq, zA, nF, zL, Yu, Qvq, Qvp, Qvo, Qvn, Qvm, Qvl, Qvk, Qvj, Qvi, Qvh, Qp6, Qp5, Qp4, Qp3, Qp2, Qp1, lN, lC, and_true, Nd.cells]
theorem QFD (hT : Qj P tab) (n : Int) : Pure P G Qcn [QGf, .int .i64 n] fun v => v = .int .i64 (-1) := by
 intro t
 refine Ql 0 (zL _) (Qx hT QW (by simp [QaW]) (Qs 1000 ?_))
 simp -implicitDefEqProofs (disch := omega) only [go_sem, ↓reduceIte, reduceCtorEq, rA, rq, rL, zA, QaW, QE5, QE4, lN, lC, and_true]
 refine Qd hT Qw (z_Add hT ⟨1, n, 0, 0, 0, 0⟩) rfl 1000 ?_
 simp -implicitDefEqProofs (disch := omega) only [go_sem, ↓reduceIte, reduceCtorEq, rq, lR, lN, and_true]
theorem z_Of (hT : Qj P tab) (n : Int) : Pure P G Qkt [QGf, .int .i64 n] fun v => v = .int .i64 (-1) := by
 intro t
 refine Ql 0 (zL _) (Qx hT ZC (by simp [Qgs]) (Qs 1000 ?_))
 refine yU ?_
 refine Qd hT Qu (QrJ hT n) rfl 1000 ?_
 exact yG
theorem z_Bool (hT : Qj P tab) (n : Int) : Pure P G Qgw [QGf, .int .i64 n] fun v => v = .bool false := by
 intro t
 refine Ql 0 (zL _) (Qx hT YO (by simp [QbI]) (Qs 1000 ?_))
 simp -implicitDefEqProofs (disch := omega) only [go_sem, ↓reduceIte, reduceCtorEq, rq, zA, QbI, QEK, QEJ, QEI, QEH, QEG]
 refine Qd hT Qu (QrJ hT n) rfl 1000 ?_
 exact yG
theorem z_Bin (hT : Qj P tab) (x y : Int) : Pure P G Qfz [QGf, .int .u8 1, .int .i64 x, .int .i64 y] fun v => v = .int .i64 (-1) := by
 intro t
 refine Ql 0 (zL _) (Qx hT Qe (by simp [Qdq]) (Qs 1000 ?_))
 simp -implicitDefEqProofs (disch := omega) only [go_sem, ↓reduceIte, reduceCtorEq, rA, rq, zA, Qdq, QE3, QE2, QE1, QE0, QEZ, QEY]
 refine Qd hT Qu (QrJ hT x) rfl 1000 ?_
 simp -implicitDefEqProofs (disch := omega) only [go_sem, ↓reduceIte, reduceCtorEq, rA, rq, rT, zA, nF, lR, lN, lC, and_true, zeroNd, Nd.cells]
 refine Qd hT Qu (QrJ hT y) rfl 1000 ?_
 exact yG
theorem Qwo : (Q7 Qgx).length = 8 := rfl
theorem kl_l : kl.length = 14 := rfl
theorem Qot (i : Nat) (h : i < 8) : ∃ c, i64 c ∧ (Q7 Qgx).getD i .any = V.int .i64 c := by
 have : i = 0 ∨ i = 1 ∨ i = 2 ∨ i = 3 ∨ i = 4 ∨ i = 5 ∨ i = 6 ∨ i = 7 := by omega
 unfold i64
 rcases this with rfl | rfl | rfl | rfl | rfl | rfl | rfl | rfl
 ·exact ⟨0, by omega, rfl⟩
 ·exact ⟨1, by omega, rfl⟩
 ·exact ⟨-1, by omega, rfl⟩
 ·exact ⟨2, by omega, rfl⟩
 ·exact ⟨3, by omega, rfl⟩
 ·exact ⟨64, by omega, rfl⟩
 ·exact ⟨4611686018427387904, by omega, rfl⟩
 ·exact ⟨-9223372036854775808, by omega, rfl⟩
abbrev kJ0 (σ0 : H) : Nat → Fr → H → Prop := fun op fr σ => Qt fr 1 = klV ∧ Qt fr 2 = .ref keV 0 ∧ Qt fr 3 = .lst 1 (Q7 Qgx) true ∧ Qt fr 4 = .int .u8 ((op : Nat) : Int) ∧ σ = σ0
abbrev kJ1 (σ0 : H) (op : Nat) : Nat → Fr → H → Prop := fun i fr σ => Qt fr 1 = klV ∧ Qt fr 2 = .ref keV 0 ∧ Qt fr 3 = .lst 1 (Q7 Qgx) true ∧ Qt fr 4 = .int .u8 ((op : Nat) : Int) ∧ Qt fr 5 = .int .i64 ((i : Nat) : Int) ∧ σ = σ0
abbrev kJ2 (σ0 : H) (op i : Nat) : Nat → Fr → H → Prop := fun k fr σ => Qt fr 1 = klV ∧ Qt fr 2 = .ref keV 0 ∧ Qt fr 3 = .lst 1 (Q7 Qgx) true ∧ Qt fr 4 = .int .u8 ((op : Nat) : Int) ∧ Qt fr 5 = .int .i64 ((i : Nat) : Int) ∧ Qt fr 6 = .int .i64 ((k : Nat) : Int) ∧ σ = σ0
abbrev kE0 (σ0 : H) : AE → Fr → H → Prop := fun e fr σ => e = .ex 0 ∧ Qt fr 1 = klV ∧ Qt fr 2 = .ref keV 0 ∧ σ = σ0
abbrev kE1 (σ0 : H) (op : Nat) : AE → Fr → H → Prop := fun e fr σ => e = .ex 2 ∧ Qt fr 1 = klV ∧ Qt fr 2 = .ref keV 0 ∧ Qt fr 3 = .lst 1 (Q7 Qgx) true ∧ Qt fr 4 = .int .u8 ((op : Nat) : Int) ∧ σ = σ0
abbrev kE2 (σ0 : H) (op i : Nat) : AE → Fr → H → Prop := fun e fr σ => e = .ex 4 ∧ Qt fr 1 = klV ∧ Qt fr 2 = .ref keV 0 ∧ Qt fr 3 = .lst 1 (Q7 Qgx) true ∧ Qt fr 4 = .int .u8 ((op : Nat) : Int) ∧ Qt fr 5 = .int .i64 ((i : Nat) : Int) ∧ σ = σ0
theorem QGn (hT : Qj P tab) (hA : QxK P G) {σ0 : H} {op i : Nat} (ho : op < 18) (hi : i < 14) (k : Nat) (hk : k < 14) (fr : Fr) (σ : H) (hJ : kJ2 σ0 op i k fr σ) :
 W P G 131 0 (AC.seq (AC.seq (AC.reg Qnk [40, 41, 42])   (AC.cond (Arg.t 43)   AC.skip   (AC.exit 4)))   (AC.seq (AC.block 5 (AC.seq (AC.reg QiM [46, 47, 48, 49, 50, 51, 52, 53, 54, 55, 56, 57, 58, 59, 60])   (AC.seq (AC.reg QiL [61, 62, 63, 64, 65, 66, 67, 68, 69, 70, 71, 72, 73, 74, 75, 76, 77, 78, 79, 80, 81, 82, 83, 84, 85, 86, 87, 88, 89, 90, 91, 92, 93, 94, 95, 96, 97, 98])   (AC.cond (Arg.t 99)   (AC.seq (AC.reg QiK [])   AC.ret)   AC.skip))))   (AC.reg QiJ [44, 45]))) fr σ (Qjg (fun fr σ => ∃ fr' σ', Shift G 131 0 fr σ fr' σ' ∧ kJ2 σ0 op i (k + 1) fr' σ') (kE2 σ0 op i)) := by
 obtain ⟨f1, f2, f3, f4, f5, f6, rfl⟩ := hJ
 obtain ⟨c, hc, hgc⟩ := Qot ((i + k) % 8) (by omega)
 obtain ⟨d, hd, hgd⟩ := Qot ((i * 3 + k) % 8) (by omega)
 have e1 : IntKind.i64.wrap ((i : Int) + (k : Int)) = ((i + k : Nat) : Int) := by rw [wrap_i64 (by omega) (by omega)]; omega
 have e2 : Int.tmod ((i + k : Nat) : Int) 8 = (((i + k) % 8 : Nat) : Int) := by
  rw [Int.tmod_eq_emod_of_nonneg (by omega)]; rfl
 have e3 : IntKind.i64.wrap ((i : Int) * 3) = ((i * 3 : Nat) : Int) := by rw [wrap_i64 (by omega) (by omega)]; omega
 have e4 : IntKind.i64.wrap (((i * 3 : Nat) : Int) + (k : Int)) = ((i * 3 + k : Nat) : Int) := by rw [wrap_i64 (by omega) (by omega)]; omega
 have e5 : Int.tmod ((i * 3 + k : Nat) : Int) 8 = (((i * 3 + k) % 8 : Nat) : Int) := by
  rw [Int.tmod_eq_emod_of_nonneg (by omega)]; rfl
 have m1 : (i + k) % 8 < 8 := by omega
 have m2 : (i * 3 + k) % 8 < 8 := by omega
 have nx : IntKind.i64.wrap ((k : Int) + 1) = ((k + 1 : Nat) : Int) := by rw [wrap_i64 (by omega) (by omega)]; omega
 have hk' : (k : Int) < 14 := by omega
 generalize (i + k) % 8 = a1 at *
 generalize (i * 3 + k) % 8 = a2 at *
 refine QA [(1, klV), (2, .ref keV 0), (3, .lst 1 (Q7 Qgx) true), (4, .int .u8 ((op : Nat) : Int)), (5, .int .i64 ((i : Nat) : Int)), (6, .int .i64 ((k : Nat) : Int))] ⟨f1, f2, f3, f4, f5, f6, trivial⟩  1000 ?_
 simp -implicitDefEqProofs (disch := omega) only [go_sem, Qr, ↓reduceIte, reduceCtorEq, rA, rq, Int.reduceEq, zA, decide_true, lR, Qnk, QiM, QiL, QiK, QiJ, Qfc, kl_l, tSq, tZ, lM, lN, lC, false_implies, true_implies, and_true, not_false_eq_true, hk, Qwo, e1, e2, e3, e4, e5, m1, m2, hgc, hgd]
 refine Qd hT ZN (hA.bin _ _ _ (by omega)) rfl 1000 ?_
 refine ya ?_
 refine Qd hT ZB (hA.same _ _ _ _ _ (by omega) hc hd) rfl 1000 ?_
 by_cases h3 : op < 3
 ·have h3' : (op : Int) < 3 := by omega
  have h3b : decide ((op : Int) < 3) = true := by simpa using h3'
  simp -implicitDefEqProofs (disch := omega) only [go_sem, ↓reduceIte, rA, rq, decide_true, nT, h3']
  refine Qd hT Zp (hA.moved _ _ _ _ hc hd) rfl 1000 ?_
  refine ya ?_
  refine Qd hT Zo (hA.truth _ _ _ _ (by omega) hc) rfl 1000 ?_
  simp -implicitDefEqProofs (disch := omega) only [go_sem, ↓reduceIte, rA, rq, nT, nx]
  exact ⟨_, _, Shift.refl _ _ _ _, rfl, rfl, rfl, rfl, rfl, rfl, rfl⟩
 ·have h3' : ¬ (op : Int) < 3 := by omega
  have h3b : decide ((op : Int) < 3) = false := by simpa using h3'
  simp -implicitDefEqProofs (disch := omega) only [go_sem, ↓reduceIte, rA, rq, decide_false, nT, h3', nx]
  exact ⟨_, _, Shift.refl _ _ _ _, rfl, rfl, rfl, rfl, rfl, rfl, rfl⟩
theorem QGo (hT : Qj P tab) (hA : QxK P G) {σ0 : H} {op : Nat} (ho : op < 18) (i : Nat) (hi : i < 14) (fr : Fr) (σ : H) (hJ : kJ1 σ0 op i fr σ) :
 W P G 131 0 (AC.seq (AC.seq (AC.reg QsI [34, 35, 36])   (AC.cond (Arg.t 37)   AC.skip   (AC.exit 2)))   (AC.seq (AC.block 3 (AC.seq (AC.reg QsH [])   (AC.block 4 (AC.loop (AC.seq (AC.seq (AC.reg Qnk [40, 41, 42])   (AC.cond (Arg.t 43)   AC.skip   (AC.exit 4)))   (AC.seq (AC.block 5 (AC.seq (AC.reg QiM [46, 47, 48, 49, 50, 51, 52, 53, 54, 55, 56, 57, 58, 59, 60])   (AC.seq (AC.reg QiL [61, 62, 63, 64, 65, 66, 67, 68, 69, 70, 71, 72, 73, 74, 75, 76, 77, 78, 79, 80, 81, 82, 83, 84, 85, 86, 87, 88, 89, 90, 91, 92, 93, 94, 95, 96, 97, 98])   (AC.cond (Arg.t 99)   (AC.seq (AC.reg QiK [])   AC.ret)   AC.skip))))   (AC.reg QiJ [44, 45])))))))   (AC.reg Qlh [38, 39]))) fr σ (Qjg (fun fr σ => ∃ fr' σ', Shift G 131 0 fr σ fr' σ' ∧ kJ1 σ0 op (i + 1) fr' σ') (kE1 σ0 op)) := by
 obtain ⟨f1, f2, f3, f4, f5, rfl⟩ := hJ
 have nx : IntKind.i64.wrap ((i : Int) + 1) = ((i + 1 : Nat) : Int) := by rw [wrap_i64 (by omega) (by omega)]; omega
 have hi' : (i : Int) < 14 := by omega
 refine QA [(1, klV), (2, .ref keV 0), (3, .lst 1 (Q7 Qgx) true), (4, .int .u8 ((op : Nat) : Int)), (5, .int .i64 ((i : Nat) : Int))] ⟨f1, f2, f3, f4, f5, trivial⟩  1000 ?_
 simp -implicitDefEqProofs (disch := omega) only [go_sem, ↓reduceIte, rq, decide_true, QsI, QsH, Qnk, QiM, QiL, QiK, QiJ, Qlh, Qfc, kl_l, lM, hi]
 refine Qci 14 (kJ2 σ op i) (kE2 σ op i) ?_ (fun k hk fr σ hJ => QGn hT hA ho hi k hk fr σ hJ) (fun k hk fr σ hJ => ?_) (fun e fr σ hE => ?_)
 ·exact ⟨rfl, rfl, rfl, rfl, rfl, rfl, rfl⟩
 ·subst hk
  obtain ⟨f1, f2, f3, f4, f5, f6, rfl⟩ := hJ
  refine QA [(1, klV), (2, .ref keV 0), (3, .lst 1 (Q7 Qgx) true), (4, .int .u8 ((op : Nat) : Int)), (5, .int .i64 ((i : Nat) : Int)), (6, .int .i64 ((14 : Nat) : Int))] ⟨f1, f2, f3, f4, f5, f6, trivial⟩ 1000 ?_
  refine yX ?_
  exact ⟨rfl, rfl, rfl, rfl, rfl, rfl, rfl⟩
 ·obtain ⟨rfl, f1, f2, f3, f4, f5, rfl⟩ := hE
  refine QjE [(1, klV), (2, .ref keV 0), (3, .lst 1 (Q7 Qgx) true), (4, .int .u8 ((op : Nat) : Int)), (5, .int .i64 ((i : Nat) : Int))] ⟨f1, f2, f3, f4, f5, trivial⟩  1000 ?_
  simp -implicitDefEqProofs (disch := omega) only [go_sem, ↓reduceIte, rq, Qfc, nx]
  exact ⟨_, _, Shift.refl _ _ _ _, rfl, rfl, rfl, rfl, rfl, rfl⟩
theorem QGp (hT : Qj P tab) (hA : QxK P G) {σ0 : H} (op : Nat) (ho : op < 18) (fr : Fr) (σ : H) (hJ : kJ0 σ0 op fr σ) :
 W P G 131 0 (AC.seq (AC.seq (AC.reg QxX [30])   (AC.cond (Arg.t 31)   AC.skip   (AC.exit 0)))   (AC.seq (AC.block 1 (AC.seq (AC.reg QxW [])   (AC.block 2 (AC.loop (AC.seq (AC.seq (AC.reg QsI [34, 35, 36])   (AC.cond (Arg.t 37)   AC.skip   (AC.exit 2)))   (AC.seq (AC.block 3 (AC.seq (AC.reg QsH [])   (AC.block 4 (AC.loop (AC.seq (AC.seq (AC.reg Qnk [40, 41, 42])   (AC.cond (Arg.t 43)   AC.skip   (AC.exit 4)))   (AC.seq (AC.block 5 (AC.seq (AC.reg QiM [46, 47, 48, 49, 50, 51, 52, 53, 54, 55, 56, 57, 58, 59, 60])   (AC.seq (AC.reg QiL [61, 62, 63, 64, 65, 66, 67, 68, 69, 70, 71, 72, 73, 74, 75, 76, 77, 78, 79, 80, 81, 82, 83, 84, 85, 86, 87, 88, 89, 90, 91, 92, 93, 94, 95, 96, 97, 98])   (AC.cond (Arg.t 99)   (AC.seq (AC.reg QiK [])   AC.ret)   AC.skip))))   (AC.reg QiJ [44, 45])))))))   (AC.reg Qlh [38, 39])))))))   (AC.reg Qrj [32, 33]))) fr σ (Qjg (fun fr σ => ∃ fr' σ', Shift G 131 0 fr σ fr' σ' ∧ kJ0 σ0 (op + 1) fr' σ') (kE0 σ0)) := by
 obtain ⟨f1, f2, f3, f4, rfl⟩ := hJ
 have nx : IntKind.u8.wrap ((op : Int) + 1) = ((op + 1 : Nat) : Int) := by rw [IntKind.wrap_u8]; omega
 have ho' : (op : Int) < 18 := by omega
 refine QA [(1, klV), (2, .ref keV 0), (3, .lst 1 (Q7 Qgx) true), (4, .int .u8 ((op : Nat) : Int))] ⟨f1, f2, f3, f4, trivial⟩  1000 ?_
 simp -implicitDefEqProofs (disch := omega) only [go_sem, ↓reduceIte, rq, decide_true, QxX, QxW, QsI, QsH, Qnk, QiM, QiL, QiK, QiJ, Qlh, Qrj, Qfc, ho']
 refine Qci 14 (kJ1 σ op) (kE1 σ op) ?_ (fun i hi fr σ hJ => QGo hT hA ho i hi fr σ hJ) (fun i hi fr σ hJ => ?_) (fun e fr σ hE => ?_)
 ·exact ⟨rfl, rfl, rfl, rfl, rfl, rfl⟩
 ·subst hi
  obtain ⟨f1, f2, f3, f4, f5, rfl⟩ := hJ
  refine QA [(1, klV), (2, .ref keV 0), (3, .lst 1 (Q7 Qgx) true), (4, .int .u8 ((op : Nat) : Int)), (5, .int .i64 ((14 : Nat) : Int))] ⟨f1, f2, f3, f4, f5, trivial⟩ 1000 ?_
  refine yX ?_
  exact ⟨rfl, rfl, rfl, rfl, rfl, rfl⟩
 ·obtain ⟨rfl, f1, f2, f3, f4, rfl⟩ := hE
  refine QjE [(1, klV), (2, .ref keV 0), (3, .lst 1 (Q7 Qgx) true), (4, .int .u8 ((op : Nat) : Int))] ⟨f1, f2, f3, f4, trivial⟩  1000 ?_
  simp -implicitDefEqProofs (disch := omega) only [go_sem, ↓reduceIte, rq, Qfc, nx]
  exact ⟨_, _, Shift.refl _ _ _ _, rfl, rfl, rfl, rfl, rfl⟩
theorem Qq7 (hT : Qj P tab) (hA : QxK P G) {t : Nat} : C P G 0 Zr [] ⟨t, []⟩ fun v _ => v = .bool true := by
 refine Qx hT QbZ (by simp [Xq]) (Qs 1000 ?_)
 simp -implicitDefEqProofs (disch := omega) only [go_sem, ↓reduceIte, reduceCtorEq, rA, rq, rL, zA, nF, lR, Xq, zq5_0, zq5_1, zq5_2, zq5_3, zq5_4, QxX, QxW, QsI, QsH, Qnk, QiM, QiL, QiK, QiJ, Qlh, Qrj, Qzt, Qzs, tSq, tZ, lN, lC, nA, cA, and_true]
 refine Z4 (Shift.freeze (k := 0) (v := t) (T := 48) (cs := [.lst 1 (Q7 [5, -3]) true, .lst 4 ([⟨1, 0, 13, 4⟩].map Cl.v) true]) (zL _) rfl rfl) ?_
 have hfp : Qc3 0 t [.lst 1 (Q7 [5, -3]) true, .lst 4 ([⟨1, 0, 13, 4⟩].map Cl.v) true] (.ptr 0 t 0) = .ref keV 0 := by simp [Qc3, Qfc]
 simp only [List.set_cons_zero, Qij, QkF, QwC, QD7, QqF, X6, Option.map_none, List.map_cons, List.map_nil]
 refine Z4 (Shift.drop (o' := []) (t' := t + 1) (by simp [Qa5]) (lR _) (zL _)) ?_
 refine Qci 18 (kJ0 ⟨t + 1, []⟩) (kE0 ⟨t + 1, []⟩) ?_ (fun op ho fr σ hJ => QGp hT hA op ho fr σ hJ) (fun op ho fr σ hJ => ?_) (fun e fr σ hE => ?_)
 ·refine ⟨rfl, ?_, rfl, rfl, rfl⟩
  exact hfp
 ·subst ho
  obtain ⟨f1, f2, f3, f4, rfl⟩ := hJ
  refine QA [(1, klV), (2, .ref keV 0), (3, .lst 1 (Q7 Qgx) true), (4, .int .u8 ((18 : Nat) : Int))] ⟨f1, f2, f3, f4, trivial⟩ 1000 ?_
  simp -implicitDefEqProofs (disch := omega) only [go_sem, ↓reduceIte, rq, Int.reduceLT, decide_false, Qfc, show ((18 : Nat) : Int) = 18 from rfl]
  exact ⟨rfl, rfl, rfl, rfl⟩
 ·obtain ⟨rfl, f1, f2, rfl⟩ := hE
  refine QjE [(1, klV), (2, .ref keV 0)] ⟨f1, f2, trivial⟩ 1000 ?_
  simp -implicitDefEqProofs (disch := omega) only [go_sem, ↓reduceIte, reduceCtorEq, rA, rq, zA, lR, Qfc, tSq, tZ, lN, lC, false_implies, and_true]
  refine Qd hT YL hA.of1 rfl 1000 ?_
  refine ya ?_
  refine Qd hT YL hA.of2 rfl 1000 ?_
  refine ya ?_
  refine Qd hT QW (QFD hT 1) rfl 1000 ?_
  refine ya ?_
  refine Qd hT Qe (z_Bin hT 0 0) rfl 1000 ?_
  refine ya ?_
  refine Qd hT ZC (z_Of hT 0) rfl 1000 ?_
  refine ya ?_
  refine Qd hT YO (z_Bool hT 0) rfl 1000 ?_
  refine ya ?_
  refine Qd hT Qf hA.works rfl 1000 ?_
  exact yb
end Go.Proofs.YtpdeoalocejodaaGreatDoor
