/- Terms made plain: three plain terms of a graph. -/
import Derived.Test.YtpdeoalocejodaaGreatDoorJ13
open Nat renaming reduceEqDiff → rq, reduceAdd → rA, reduceLeDiff → rL, reduceLT → rT, zero_add → zA, le_refl → lR, zero_le → zL, add_zero → aZ
open List renaming length_cons → lC, length_nil → lN, take_succ_cons → tSq, length_append → lA, nil_append → nA, cons_append → cA, append_assoc → aA, take_nil → tN, take_zero → tZ, length_map → lM
open Bool renaming not_false → nF, not_true → nT
namespace Go.Proofs.YtpdeoalocejodaaGreatDoor
open Go Go.Am
set_option maxRecDepth 100000
variable {P : Program} {G : Nat → Option V}
set_option maxHeartbeats 4000000
theorem Ql6 {n base : Nat} {c : AC} {s : List KI} {Q : AE → Fr → H → Prop} {fr : Fr} {σ : H} (J : Fr → H → Prop) (h1 : W P G n base c fr σ fun e fr σ => e = .nrm ∧ J fr σ) (h2 : ∀ fr σ, J fr σ → sem P G n base Q s .nrm fr σ) : sem P G n base Q (.ac c :: s) .nrm fr σ :=
 h1.conseq fun e fr σ ⟨he, hJ⟩ => by subst he; exact h2 fr σ hJ
theorem StepO.get {L L' : List Nd} {id j : Int} {W : Nat} (h : StepO L id W j L') (hG : Gr L) (hin : inG L id) : L <+: L' ∧ Gr L' ∧ Pl L' j ∧ wt L' j ≤ 2 * wt L id ∧ L'.length ≤ L.length + (QN L [id]).length * (16 * W + 8) ∧ (∀ S C, (∀ x ∈ S, i64 x) → (∀ c ∈ C, i64 c.n) → val S C L' j = val S C L id) ∧ (Pl L id → j = id ∧ L' = L) := by
 obtain ⟨pv, hI, rfl⟩ := h.inn hin
 have hs := QeF hG.ok.wf hin.1 hin.2
 exact ⟨hI.pre, hI.gr, hI.pl _ hs, hI.dep _ hs, hI.len, hI.val _ hs, fun hp => ⟨hI.id _ hs hp, hI.same (hp.uses hG.ok)⟩⟩
theorem Qkl {L0 L L' : List Nd} {x j : Int} (h0 : okN L0) (hG : Gr L) (hp : L0 <+: L) (hx : inG L0 x) (hl : L0.length ≤ 30) (h : StepO L x 29 j L') : L <+: L' ∧ Gr L' ∧ Pl L' j ∧ wt L' j ≤ 60 ∧ L'.length ≤ L.length + 14160 := by
 obtain ⟨g1, g2⟩ := XF hp hx
 obtain ⟨a, b, c, d, e, _⟩ := h.get hG g1
 have h1 := QlZ hG.ok g1
 have h2 := Qx0 h0 x
 unfold inG at hx
 have h3 : (QN L [x]).length * (16 * 29 + 8) ≤ 30 * 472 := Nat.mul_le_mul (by omega) (by omega)
 rw [X8 hp hx] at d
 exact ⟨a, b, c, by omega, by omega⟩
theorem Qh6 {L0 L : List Nd} {x : Int} (hG : Gr L) (hp : L0 <+: L) (hx : inG L0 x) (hl : L0.length ≤ 30) (hL : L.length ≤ 900000) : Room L (QN L [x]) 29 := by
 unfold inG at hx
 have := hp.length_le
 have h := QrV hG (i := x.toNat) (W := 29) (by omega) (by omega) (by
  have : (x.toNat + 1) * (16 * 29 + 8) ≤ 30 * 472 := Nat.mul_le_mul (by omega) (by omega)
  omega)
 rw [show ((x.toNat : Nat) : Int) = x by omega] at h
 exact h
structure Plains (L : List Nd) (a b c : Int) : Prop where
 gr : Gr L
 pa : Pl L a
 pb : Pl L b
 pc : Pl L c
 wa : wt L a ≤ 60
 wb : wt L b ≤ 60
 wc : wt L c ≤ 60
 len : L.length ≤ 45000
theorem QmO (hT : Qj P tab) (F : Fmt P G) (SO : ZG P) (hP : Bits P G) {t : Nat} (l : List Nd) (tl : Bool) (hl : ∀ d ∈ l, i64 d.n ∧ i64 d.a) (hn : l.length ≤ 30) (x y z : Int) :
 C P G 0 Z9 [.lst 6 (l.map fun d => .agg d.cells) tl, .int .i64 x, .int .i64 y, .int .i64 z] ⟨t, []⟩ fun v σ => ∃ v0 v1 w2 w3 w4 t' L a b c ok, t ≤ t' ∧ v = .tup [.ptr 1 v0 0, .int .i64 a, .int .i64 b, .int .i64 c, .bool ok] ∧ σ = ⟨t', kG F.fmt v0 v1 w2 w3 w4 L ++ []⟩ ∧ (ok = true → Plains L a b c) := by
 have hA := Qmm l
 have hG := QwB l hl
 refine Ql 5 (zL _) (Qx hT X3 (by simp [XQ]) (Qs 1000 ?_))
 simp -implicitDefEqProofs (disch := omega) only [go_sem, ↓reduceIte, reduceCtorEq, rA, rq, zA, XQ, zq7_0, zq7_1, zq7_2, zq7_3, zq7_4, zq7_5]
 refine call hT YM (Qxm hT F l tl hl (by omega)) 1000 fun v σ hv => ?_
 obtain ⟨v0, v1, v2, v3, v4, c1, u, hc1, rfl, rfl⟩ := hv
 rw [show kG F.fmt v0 v1 v2 v3 v4 (Qef l) = kG F.fmt v0 v1 v2 v3 v4 (Qef l) ++ [] by rw [List.append_nil]]
 generalize Qef l = L at *
 refine ye ?_
 refine call hT Q0 (Qhz hT) 1000 fun v σ hv => ?_
 obtain ⟨rfl, c2, hc2, rfl⟩ := hv
 by_cases hz : L.length = 0
 ·have hz' : ((L.length : Nat) : Int) = 0 := by omega
  simp -implicitDefEqProofs (disch := omega) only [go_sem, ↓reduceIte, reduceCtorEq, rq, lR, beq_self_eq_true, Qa, true_and, hz']
  exact ⟨v0, v1, v2, v3, v4, c2, L, 0, 0, 0, false, by omega, rfl, ⟨rfl, rfl⟩, by simp⟩
 ·have hz' : ¬ ((L.length : Nat) : Int) = 0 := by omega
  simp -implicitDefEqProofs (disch := omega) only [go_sem, ↓reduceIte, reduceCtorEq, rq, lR, Qa, false_implies, true_implies, true_and, not_false_eq_true, hz']
  refine call hT XI (k_at hT (by simp) (by omega)) 1000 fun v σ hv => ?_
  obtain ⟨rfl, c3, hc3, rfl⟩ := hv
  refine ya ?_
  refine call hT XI (k_at hT (by simp) (by omega)) 1000 fun v σ hv => ?_
  obtain ⟨rfl, c4, hc4, rfl⟩ := hv
  refine ya ?_
  refine call hT XI (k_at hT (by simp) (by omega)) 1000 fun v σ hv => ?_
  obtain ⟨rfl, c5, hc5, rfl⟩ := hv
  have ha := Qkm (i := x) hz
  have hb := Qkm (i := y) hz
  have hc := Qkm (i := z) hz
  generalize Qkn x L.length = a at *
  generalize Qkn y L.length = b at *
  generalize Qkn z L.length = c at *
  refine ya ?_
  refine call hT ZC (Qqx hT F SO hP 29 hG (Qh6 hG List.prefix_rfl ha (by omega) (by omega))) 1000 fun v σ hv => ?_
  obtain ⟨j1, L1, hO1, rfl, c6, w2, w3, w4, hc6, rfl⟩ := hv
  obtain ⟨p1, G1, q1, d1, e1⟩ := Qkl hG.ok hG List.prefix_rfl ha (by omega) hO1
  refine ya ?_
  refine call hT ZC (Qqx hT F SO hP 29 G1 (Qh6 G1 p1 hb (by omega) (by omega))) 1000 fun v σ hv => ?_
  obtain ⟨j2, L2, hO2, rfl, c7, x2, x3, x4, hc7, rfl⟩ := hv
  obtain ⟨p2, G2, q2, d2, e2⟩ := Qkl hG.ok G1 p1 hb (by omega) hO2
  refine ya ?_
  refine call hT ZC (Qqx hT F SO hP 29 G2 (Qh6 G2 (p1.trans p2) hc (by omega) (by omega))) 1000 fun v σ hv => ?_
  obtain ⟨j3, L3, hO3, rfl, c8, y2, y3, y4, hc8, rfl⟩ := hv
  obtain ⟨p3, G3, q3, d3, e3⟩ := Qkl hG.ok G2 (p1.trans p2) hc (by omega) hO3
  simp -implicitDefEqProofs (disch := omega) only [go_sem, ↓reduceIte, reduceCtorEq, rq, lR, Qa, true_and]
  refine ⟨v0, v1, y2, y3, y4, c8, L3, j1, j2, j3, true, by omega, rfl, ⟨rfl, rfl⟩, fun _ => ⟨G3, (q1.up G1.ok p2).up G2.ok p3, q2.up G2.ok p3, q3, ?_, ?_, d3, by omega⟩⟩
  ·rw [X8 p3 (q1.up G1.ok p2).inn, X8 p2 q1.inn]; exact d1
  ·rw [X8 p3 q2.inn]; exact d2
theorem QGZ (hT : Qj P tab) (op : Int) : Pure P G Qa9 [.int .u8 op] fun v => v = .tup [.int .i64 ((Qgn op).getD 0), .bool (Qgn op).isSome] := by
 intro t
 refine Ql 0 (zL _) (Qx hT Qa4 (by simp [QP]) (Qs 1000 ?_))
 have hop : op = 2 ∨ op = 10 ∨ op = 14 ∨ op = 15 ∨ op = 16 ∨ (¬ op = 2 ∧ ¬ op = 10 ∧ ¬ op = 14 ∧ ¬ op = 15 ∧ ¬ op = 16) := by omega
 rcases hop with rfl | rfl | rfl | rfl | rfl | ⟨h1, h2, h3, h4, h5⟩
 ·simp -implicitDefEqProofs (disch := omega) only [go_sem, ↓reduceIte, reduceCtorEq, rq, lR, beq_self_eq_true, QP, Qp0, QpZ, QpY, QpX, QpW, QpV, QpU, QpT, QpS, QpR]; try simp [Qgn]
 ·simp -implicitDefEqProofs (disch := omega) only [go_sem, ↓reduceIte, reduceCtorEq, rq, Int.reduceEq, lR, beq_self_eq_true, QP, Qp0, QpZ, QpY, QpX, QpW, QpV, QpU, QpT, QpS, QpR]; try simp [Qgn]
 ·simp -implicitDefEqProofs (disch := omega) only [go_sem, ↓reduceIte, reduceCtorEq, rq, Int.reduceEq, lR, beq_self_eq_true, QP, Qp0, QpZ, QpY, QpX, QpW, QpV, QpU, QpT, QpS, QpR]; try simp [Qgn]
 ·simp -implicitDefEqProofs (disch := omega) only [go_sem, ↓reduceIte, reduceCtorEq, rq, Int.reduceEq, lR, beq_self_eq_true, QP, Qp0, QpZ, QpY, QpX, QpW, QpV, QpU, QpT, QpS, QpR]; try simp [Qgn]
 ·simp -implicitDefEqProofs (disch := omega) only [go_sem, ↓reduceIte, reduceCtorEq, rq, Int.reduceEq, lR, beq_self_eq_true, QP, Qp0, QpZ, QpY, QpX, QpW, QpV, QpU, QpT, QpS, QpR]; try simp [Qgn]
 ·simp -implicitDefEqProofs (disch := omega) only [go_sem, ↓reduceIte, reduceCtorEq, rq, lR, QP, Qp0, QpZ, QpY, QpX, QpW, QpV, QpU, QpT, QpS, QpR, h1, h2, h3, h4, h5]; try simp [Qgn, h1, h2, h3, h4, h5]
theorem Qzb (hT : Qj P tab) (op c : Int) : Pure P G QaL [.int .u8 op, .int .i64 c] fun v => v = .tup [.int .i64 ((Qtf op c).getD 0), .bool (Qtf op c).isSome] := by
 intro t
 refine Ql 0 (zL _) (Qx hT QaH (by simp [QJ]) (Qs 1000 ?_))
 have hop : op = 3 ∨ op = 8 ∨ op = 15 ∨ op = 9 ∨ op = 5 ∨ op = 7 ∨ (¬ op = 3 ∧ ¬ op = 8 ∧ ¬ op = 15 ∧ ¬ op = 9 ∧ ¬ op = 5 ∧ ¬ op = 7) := by omega
 have hc : c = 0 ∨ c = -1 ∨ c = 1 ∨ (¬ c = 0 ∧ ¬ c = -1 ∧ ¬ c = 1) := by omega
 rcases hop with rfl | rfl | rfl | rfl | rfl | rfl | ⟨h1, h2, h3, h4, h5, h6⟩
 ·rcases hc with rfl | rfl | rfl | ⟨c1, c2, c3⟩ <;> (simp only [Qtf]; simp -implicitDefEqProofs (disch := omega) only [go_sem, ↓reduceIte, reduceCtorEq, rA, rq, Int.reduceEq, zA, lR, beq_self_eq_true, Option.isSome_some, Option.isSome_none, Option.getD_some, Option.getD_none, QJ, Qnj, Qni, Qnh, Qng, Qnf, Qne, Qnd, Qnc]; try simp_all)
 ·rcases hc with rfl | rfl | rfl | ⟨c1, c2, c3⟩ <;> (simp only [Qtf]; simp -implicitDefEqProofs (disch := omega) only [go_sem, ↓reduceIte, reduceCtorEq, rA, rq, Int.reduceEq, zA, lR, beq_self_eq_true, Option.isSome_some, Option.isSome_none, Option.getD_some, Option.getD_none, QJ, Qnj, Qni, Qnh, Qng, Qnf, Qne, Qnd, Qnc]; try simp_all)
 ·rcases hc with rfl | rfl | rfl | ⟨c1, c2, c3⟩ <;> (simp only [Qtf]; simp -implicitDefEqProofs (disch := omega) only [go_sem, ↓reduceIte, reduceCtorEq, rA, rq, Int.reduceEq, zA, lR, beq_self_eq_true, Option.isSome_some, Option.isSome_none, Option.getD_some, Option.getD_none, QJ, Qnj, Qni, Qnh, Qng, Qnf, Qne, Qnd, Qnc]; try simp_all)
 ·rcases hc with rfl | rfl | rfl | ⟨c1, c2, c3⟩ <;> (simp only [Qtf]; simp -implicitDefEqProofs (disch := omega) only [go_sem, ↓reduceIte, reduceCtorEq, rA, rq, Int.reduceEq, zA, lR, beq_self_eq_true, Option.isSome_some, Option.isSome_none, Option.getD_some, Option.getD_none, QJ, Qnj, Qni, Qnh, Qng, Qnf, Qne, Qnd, Qnc]; try simp_all)
 ·rcases hc with rfl | rfl | rfl | ⟨c1, c2, c3⟩ <;> (simp only [Qtf]; simp -implicitDefEqProofs (disch := omega) only [go_sem, ↓reduceIte, reduceCtorEq, rA, rq, Int.reduceEq, zA, lR, beq_self_eq_true, Option.isSome_some, Option.isSome_none, Option.getD_some, Option.getD_none, QJ, Qnj, Qni, Qnh, Qng, Qnf, Qne, Qnd, Qnc]; try simp_all)
 ·rcases hc with rfl | rfl | rfl | ⟨c1, c2, c3⟩ <;> (simp only [Qtf]; simp -implicitDefEqProofs (disch := omega) only [go_sem, ↓reduceIte, reduceCtorEq, rA, rq, Int.reduceEq, zA, lR, beq_self_eq_true, Option.isSome_some, Option.isSome_none, Option.getD_some, Option.getD_none, QJ, Qnj, Qni, Qnh, Qng, Qnf, Qne, Qnd, Qnc]; try simp_all)
 ·simp only [Qtf]; simp -implicitDefEqProofs (disch := omega) only [go_sem, ↓reduceIte, reduceCtorEq, rA, rq, zA, lR, Option.isSome_none, Option.getD_none, QJ, Qnj, Qni, Qnh, Qng, Qnf, Qne, Qnd, Qnc, h1, h2, h3, h4, h5, h6]; try simp_all
structure ChI (op a : Int) (ns : List Int) (k i : Nat) (one oth : Int) (L : List Nd) : Prop where
 gr : Gr L
 pa : Pl L a
 p1 : Pl L one
 p2 : Pl L oth
 wa : wt L a ≤ 60
 w1 : wt L one ≤ 60 + 2 * i
 w2 : wt L oth ≤ 60 + 2 * i
 i1 : Isn op a (pro op (ns.take i)) L one
 i2 : Isn op a (pro op ((turned ns k).take i)) L oth
 len : L.length ≤ 45000 + 2000 * i
structure TrI (t n one zero num c : Int) (B : Nat) (L : List Nd) : Prop where
 gr : Gr L
 pt : Pl L t
 pn : Pl L n
 bt : Yt L t = true
 hn : Ec L 16 t 0 n
 n1 : QE L one = some 1
 n0 : QE L zero = some 0
 nc : QE L num = some c
 wt : Go.Proofs.YtpdeoalocejodaaGreatDoor.wt L t ≤ 62
 wn : Go.Proofs.YtpdeoalocejodaaGreatDoor.wt L n ≤ 64
 len : L.length ≤ B
theorem TrI.up {t n one zero num c : Int} {B B' : Nat} {L L' : List Nd} (h : TrI t n one zero num c B L) (hp : L <+: L') (hG : Gr L') (hl : L'.length ≤ B') : TrI t n one zero num c B' L' :=
 ⟨hG, h.pt.up h.gr.ok hp, h.pn.up h.gr.ok hp, by rw [Qcs hp h.pt.inn]; exact h.bt, QGM h.gr.ok h.pt.inn (by omega) h.hn hp, (Qg hp (QO h.n1)).trans h.n1, (Qg hp (QO h.n0)).trans h.n0, (Qg hp (QO h.nc)).trans h.nc, by rw [X8 hp h.pt.inn]; exact h.wt, by rw [X8 hp h.pn.inn]; exact h.wn, hl⟩
theorem Qq5 (hT : Qj P tab) (F : Fmt P G) (SO : ZG P) (hP : Bits P G) (hW : Pure P G Qz [] fun v => v = .bool true) {t : Nat} (l : List Nd) (tl : Bool) (hl : ∀ d ∈ l, i64 d.n ∧ i64 d.a)
 (x y w c : Int) (hw : 0 ≤ w ∧ w ≤ 255) (hc : i64 c) :
 C P G 0 Yh [.lst 6 (l.map fun d => .agg d.cells) tl, .int .i64 x, .int .i64 y, .int .u8 w, .int .i64 c] ⟨t, []⟩ fun v _ => v = .bool true := by
 have i0 : i64 0 := by unfold i64; omega
 have i1 : i64 1 := by unfold i64; omega
 refine Qx hT Zo (by simp [Q4]) (Qs 1000 ?_)
 by_cases h1 : (30 : Int) < l.length
 ·refine yN ?_
  refine Qd hT Qf hW rfl 1000 ?_
  exact yb
 ·refine yN ?_
  refine call hT X3 (QmO hT F SO hP l tl hl (by omega) x y 0) 1000 fun v σ hv => ?_
  obtain ⟨v0, v1, v2, v3, v4, c1, L, a, b, z, ok, hc1, rfl, rfl, hpl⟩ := hv
  cases ok with
  | false =>
    refine ye ?_
    refine Qd hT Qf hW rfl 1000 ?_
    exact yb
  | true =>
    have hpl := hpl rfl
    have hll := hpl.len
    have hwm : w.tmod 3 = 0 ∨ w.tmod 3 = 1 ∨ w.tmod 3 = 2 := by
     rw [Int.tmod_eq_emod_of_nonneg hw.1]; omega
    rcases hwm with hw5 | hw5 | hw5 <;> (
     simp -implicitDefEqProofs (disch := omega) only [go_sem, ↓reduceIte, reduceCtorEq, rA, rq, rL, rT, Int.reduceToNat, Int.reduceLE, Int.reduceEq, zA, nT, lR, lC, lN, cA, nA, tSq, tZ, true_implies, and_true, not_false_eq_true, hw5]
     refine call hT Qe (Xk hT F hP 60 hpl.gr (by omega) hpl.pa hpl.pb hpl.wa hpl.wb (by omega)) 1000 fun v σ hv => ?_
     obtain ⟨t', L1, s1, rfl, t1, x2, x3, x4, ht1, rfl⟩ := hv
     have l1 := s1.len
     have bt := QG9 s1.gr.ok (by omega) (hpl.pa.up hpl.gr.ok s1.pre).inn (hpl.pb.up hpl.gr.ok s1.pre).inn s1.bn
     refine ya ?_
     refine call hT QW (Qad hT F s1.gr i1 (by omega)) 1000 fun v σ hv => ?_
     obtain ⟨one, L2, s2, rfl, t2, y2, y3, y4, ht2, rfl⟩ := hv
     have l2 := s2.len
     refine ya ?_
     refine call hT QW (Qad hT F s2.gr i0 (by omega)) 1000 fun v σ hv => ?_
     obtain ⟨zero, L3, s3, rfl, t3, z2, z3, z4, ht3, rfl⟩ := hv
     have l3 := s3.len
     refine ya ?_
     refine call hT QW (Qad hT F s3.gr hc (by omega)) 1000 fun v σ hv => ?_
     obtain ⟨num, L4, s4, rfl, t4, u2, u3, u4, ht4, rfl⟩ := hv
     have l4 := s4.len
     have p14 := (s2.pre.trans s3.pre).trans s4.pre
     refine ya ?_
     refine call hT Zh (Qse hT F hP 62 s4.gr (s1.pl.up s1.gr.ok p14) (by rw [X8 p14 s1.pl.inn]; exact s1.dep) (by omega)) 1000 fun v σ hv => ?_
     obtain ⟨n, L5, s5, rfl, t5, q2, q3, q4, ht5, rfl⟩ := hv
     have l5 := s5.len
     have p15 := p14.trans s5.pre
     have hI : TrI t' n one zero num c 60000 L5 := ⟨s5.gr, s1.pl.up s1.gr.ok p15, s5.pl, by rw [Qcs p15 s1.pl.inn]; exact bt, s5.ec, (Qg ((s3.pre.trans s4.pre).trans s5.pre) (QO s2.num)).trans s2.num, (Qg (s4.pre.trans s5.pre) (QO s3.num)).trans s3.num, (Qg s5.pre (QO s4.num)).trans s4.num, by rw [X8 p15 s1.pl.inn]; exact s1.dep, s5.dep, by omega⟩
     have bn := Qxo hI.gr.ok hI.pt.inn hI.hn
     have hl := hI.len
     clear hpl hl s1 s2 s3 s4 s5 l1 l2 l3 l4 l5 p14 p15 bt
     refine ya ?_
     refine call hT YO (QlI hT (by simp)) 1000 fun v σ hv => ?_
     obtain ⟨rfl, t6, ht6, rfl⟩ := hv
     rw [hI.bt]
     refine ya ?_
     refine call hT YO (QlI hT (by simp)) 1000 fun v σ hv => ?_
     obtain ⟨rfl, t7, ht7, rfl⟩ := hv
     rw [bn]
     refine ya ?_
     have hlI := hI.len
     refine call hT Qe (Xk hT F hP 64 hI.gr (by omega) hI.pt (Pl.num hI.n1) (by have := hI.wt; omega) (by rw [Xu hI.n1]; omega) (by omega)) 1000 fun v σ hv => ?_
     obtain ⟨r1, M1, g1, rfl, a1, b2, b3, b4, ha1, rfl⟩ := hv
     have m1 := g1.len
     have hI1 := hI.up (B' := 61000) g1.pre g1.gr (by omega)
     have e1 := tr_1 hI1.gr.ok hI1.gr.one hI1.bt (Ec.of hI1.n1 g1.bn)
     subst e1
     refine ya ?_
     refine call hT Zh (Qse hT F hP 64 hI1.gr hI1.pn hI1.wn (by omega)) 1000 fun v σ hv => ?_
     obtain ⟨r2, M2, g2, rfl, a2, c2, c3, c4, ha2, rfl⟩ := hv
     have m2 := g2.len
     have hI2 := hI1.up (B' := 62000) g2.pre g2.gr (by omega)
     have e2 := tr_2 hI2.gr.ok hI2.gr.one hI2.pt hI2.bt hI2.hn g2.ec
     subst e2
     refine ya ?_
     refine call hT Qe (Xk hT F hP 64 hI2.gr (by omega) hI2.pt (Pl.num hI2.n1) (by have := hI2.wt; omega) (by rw [Xu hI2.n1]; omega) (by omega)) 1000 fun v σ hv => ?_
     obtain ⟨r3, M3, g3, rfl, a3, d2, d3, d4, ha3, rfl⟩ := hv
     have m3 := g3.len
     have hI3 := hI2.up (B' := 63000) g3.pre g3.gr (by omega)
     have e3 := tr_3 hI3.gr.ok hI3.gr.one hI3.pt hI3.bt (Ec.of hI3.n1 g3.bn) hI3.hn
     subst e3
     refine ya ?_
     refine call hT Qe (Xk hT F hP 64 hI3.gr (by omega) hI3.pt (Pl.num hI3.n1) (by have := hI3.wt; omega) (by rw [Xu hI3.n1]; omega) (by omega)) 1000 fun v σ hv => ?_
     obtain ⟨r4, M4, g4, rfl, a4, f2, f3, f4, ha4, rfl⟩ := hv
     have m4 := g4.len
     have hI4 := hI3.up (B' := 64000) g4.pre g4.gr (by omega)
     have e4 := tr_4 hI4.gr.ok hI4.gr.one hI4.bt (Ec.of hI4.n1 g4.bn)
     subst e4
     refine ya ?_
     refine call hT Qe (Xk hT F hP 64 hI4.gr (by omega) hI4.pt (Pl.num hI4.n0) (by have := hI4.wt; omega) (by rw [Xu hI4.n0]; omega) (by omega)) 1000 fun v σ hv => ?_
     obtain ⟨r5, M5, g5, rfl, a5, h2, h3, h4, ha5, rfl⟩ := hv
     have m5 := g5.len
     have hI5 := hI4.up (B' := 65000) g5.pre g5.gr (by omega)
     have e5 := (Ec.of hI5.n0 g5.bn).fn hI5.gr.ok hI5.gr.one hI5.hn
     subst e5
     by_cases c0 : c = 0
     ·simp -implicitDefEqProofs (disch := omega) only [go_sem, ↓reduceIte, reduceCtorEq, rA, rq, beq_self_eq_true, bne_self_eq_false, beq_self_eq_true, bne_self_eq_false, c0]
      refine Qd hT Qf hW rfl 1000 ?_
      exact yb
     ·by_cases c1' : c = 1
      ·simp -implicitDefEqProofs (disch := omega) only [go_sem, ↓reduceIte, reduceCtorEq, rA, rq, Int.reduceEq, beq_self_eq_true, bne_self_eq_false, false_implies, true_implies, true_and, not_false_eq_true, beq_self_eq_true, bne_self_eq_false, c1']
       refine Qd hT Qf hW rfl 1000 ?_
       exact yb
      ·simp -implicitDefEqProofs (disch := omega) only [go_sem, ↓reduceIte, reduceCtorEq, rA, rq, bne_self_eq_false, false_implies, true_implies, true_and, not_false_eq_true, bne_self_eq_false, c0, c1']
       refine call hT Qe (Xk hT F hP 64 hI5.gr (by omega) hI5.pt (Pl.num hI5.nc) (by have := hI5.wt; omega) (by rw [Xu hI5.nc]; omega) (by omega)) 1000 fun v σ hv => ?_
       obtain ⟨r6, M6, g6, rfl, a6, k2, k3, k4, ha6, rfl⟩ := hv
       have hI6 := hI5.up (B' := 66000) g6.pre g6.gr (by have := g6.len; omega)
       have e6 := QR hI6.gr.ok hI6.gr.one (tr_6 hI6.gr.ok hI6.bt c0 c1' (Ec.of hI6.nc g6.bn)) hI6.n0
       subst e6
       refine ya ?_
       refine Qd hT Qf hW rfl 1000 ?_
       simp -implicitDefEqProofs (disch := omega) only [go_sem, ↓reduceIte, reduceCtorEq, rq])
end Go.Proofs.YtpdeoalocejodaaGreatDoor
