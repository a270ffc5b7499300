/- The law NormSame. -/
import Derived.Test.YtpdeoalocejodaaGreatDoorJ14
import Derived.Test.YtpdeoalocejodaaGreatDoorJ13
open Nat renaming reduceEqDiff → rq, reduceAdd → rA, reduceLeDiff → rL, reduceLT → rT, zero_add → zA, le_refl → lR, zero_le → zL, add_zero → aZ
open List renaming length_cons → lC, length_nil → lN, take_succ_cons → tSq, length_append → lA, nil_append → nA, cons_append → cA, append_assoc → aA, take_nil → tN, take_zero → tZ, length_map → lM
open Bool renaming not_false → nF, not_true → nT
namespace Go.Proofs.YtpdeoalocejodaaGreatDoor
open Go Go.Am
set_option maxRecDepth 100000
variable {P : Program} {G : Nat → Option V}
set_option maxHeartbeats 4000000
structure SameI (a b p q c d : Int) (B : Nat) (L : List Nd) : Prop where
 gr : Gr L
 pa : Pl L a
 pb : Pl L b
 np : QE L p = some c
 nq : QE L q = some d
 wa : wt L a ≤ 60
 wb : wt L b ≤ 60
 len : L.length ≤ B
theorem SameI.up {a b p q c d : Int} {B B' : Nat} {L L' : List Nd} (h : SameI a b p q c d B L) (hp : L <+: L') (hG : Gr L') (hl : L'.length ≤ B') : SameI a b p q c d B' L' :=
 ⟨hG, h.pa.up h.gr.ok hp, h.pb.up h.gr.ok hp, (Qg hp (QO h.np)).trans h.np, (Qg hp (QO h.nq)).trans h.nq, by rw [X8 hp h.pa.inn]; exact h.wa, by rw [X8 hp h.pb.inn]; exact h.wb, hl⟩
abbrev saJ (fmt : Int → List UInt8) (v0 v1 : Nat) (op a b p q c d : Int) (B : Nat) : Fr → H → Prop := fun fr σ => ∃ t w2 w3 w4 L, SameI a b p q c d B L ∧ Qt fr 1 = .int .u8 op ∧ Qt fr 4 = .int .i64 c ∧ Qt fr 5 = .int .i64 d ∧ Qt fr 13 = .ptr 1 v0 0 ∧ Qt fr 14 = .int .i64 a ∧ Qt fr 15 = .int .i64 b ∧ Qt fr 18 = .int .i64 p ∧ Qt fr 19 = .int .i64 q ∧ σ = ⟨t, kG fmt v0 v1 w2 w3 w4 L ++ []⟩
theorem same_1 (hT : Qj P tab) (F : Fmt P G) (hP : Bits P G) {v0 v1 w2 w3 w4 t : Nat} {op a b p q c d : Int} (hop : 1 ≤ op ∧ op ≤ 16) (hc : i64 c) (hd : i64 d) {L : List Nd} {fr : Fr} (hI : SameI a b p q c d 45002 L) (hfr : Qt fr 1 = .int .u8 op ∧ Qt fr 4 = .int .i64 c ∧ Qt fr 5 = .int .i64 d ∧ Qt fr 13 = .ptr 1 v0 0 ∧ Qt fr 14 = .int .i64 a ∧ Qt fr 15 = .int .i64 b ∧ Qt fr 18 = .int .i64 p ∧ Qt fr 19 = .int .i64 q) :
 W P G 189 0 (AC.seq (AC.reg Qvu [56, 57, 58, 59, 60, 61, 62, 63, 64, 65, 66, 67, 68, 69, 70, 71, 72, 73, 74, 75, 76, 77, 78, 79, 80, 81, 82, 83])   (AC.cond (Arg.t 84)   (AC.seq (AC.reg Qvt [])   AC.ret)   AC.skip)) fr ⟨t, kG F.fmt v0 v1 w2 w3 w4 L ++ []⟩ fun e fr σ => e = .nrm ∧ saJ F.fmt v0 v1 op a b p q c d 50000 fr σ := by
 obtain ⟨f1, f4, f5, f13, f14, f15, f18, f19⟩ := hfr
 have hl := hI.len
 refine QA [(1, .int .u8 op), (4, .int .i64 c), (5, .int .i64 d), (13, .ptr 1 v0 0), (14, .int .i64 a), (15, .int .i64 b), (18, .int .i64 p), (19, .int .i64 q)] ⟨f1, f4, f5, f13, f14, f15, f18, f19, trivial⟩  1000 ?_
 simp -implicitDefEqProofs (disch := omega) only [go_sem, ↓reduceIte, rq, Qvu, Qvt]
 refine call hT Qe (Xk hT F hP 60 hI.gr hop (Pl.num hI.np) (Pl.num hI.nq) (by rw [Xu hI.np]; omega) (by rw [Xu hI.nq]; omega) (by omega)) 1000 fun v σ hv => ?_
 obtain ⟨i1, L1, s1, rfl, t1, x2, x3, x4, ht1, rfl⟩ := hv
 have hl1 := s1.len
 refine ya ?_
 refine Qd hT QbC (c_Do hT (by omega) (by omega) hc hd) rfl 1000 ?_
 refine ya ?_
 refine call hT QW (Qad hT F s1.gr (Xz hc hd) (by omega)) 1000 fun v σ hv => ?_
 obtain ⟨i2, L2, s2, rfl, t2, y2, y3, y4, ht2, rfl⟩ := hv
 have hl2 := s2.len
 have hI1 := hI.up (B' := 46000) s1.pre s1.gr (by omega)
 have hI2 := hI1.up (B' := 46000) s2.pre s2.gr (by omega)
 have e := QR s2.gr.ok s2.gr.one ((Qg s2.pre s1.pl.inn).trans (Qa2 hI1.np hI1.nq s1.bn)) s2.num
 subst e
 refine ya ?_
 refine Qd hT Qa3 (Qxk hT hop) rfl 1000 ?_
 cases hs : QaK op with
 | false =>
   refine yk ?_
   refine ⟨t2, y2, y3, y4, L2, hI2.up List.prefix_rfl hI2.gr (by omega), ?_⟩
   exact yh
 | true =>
   refine ya ?_
   refine call hT Qe (Xk hT F hP 60 hI2.gr hop hI2.pa hI2.pb hI2.wa hI2.wb (by omega)) 1000 fun v σ hv => ?_
   obtain ⟨i3, L3, s3, rfl, t3, z2, z3, z4, ht3, rfl⟩ := hv
   have hl3 := s3.len
   have hI3 := hI2.up (B' := 47000) s3.pre s3.gr (by omega)
   refine ya ?_
   refine call hT Qe (Xk hT F hP 60 hI3.gr hop hI3.pb hI3.pa hI3.wb hI3.wa (by omega)) 1000 fun v σ hv => ?_
   obtain ⟨i4, L4, s4, rfl, t4, u2, u3, u4, ht4, rfl⟩ := hv
   have hl4 := s4.len
   have hI4 := hI3.up (B' := 50000) s4.pre s4.gr (by omega)
   have e := (s3.bn.up s3.gr.ok hI3.pa.inn hI3.pb.inn hop s4.pre).fn (s4.bn.swap hs)
   subst e
   refine yk ?_
   refine ⟨t4, u2, u3, u4, L4, hI4, ?_⟩
   exact yh
theorem same_2 (hT : Qj P tab) (F : Fmt P G) (hP : Bits P G) {v0 v1 w2 w3 w4 t : Nat} {op a b p q c d : Int} (hop : 1 ≤ op ∧ op ≤ 16) (hc : i64 c) (hd : i64 d) {L : List Nd} {fr : Fr} (hI : SameI a b p q c d 50000 L) (hfr : Qt fr 1 = .int .u8 op ∧ Qt fr 4 = .int .i64 c ∧ Qt fr 5 = .int .i64 d ∧ Qt fr 13 = .ptr 1 v0 0 ∧ Qt fr 14 = .int .i64 a ∧ Qt fr 15 = .int .i64 b ∧ Qt fr 18 = .int .i64 p ∧ Qt fr 19 = .int .i64 q) :
 W P G 189 0 (AC.seq (AC.reg Qvs [85, 86, 87, 88, 89, 90, 91, 92, 93, 94, 95, 96, 97, 98, 99, 100, 101, 102, 103, 104, 105, 106, 107])   (AC.cond (Arg.t 108)   (AC.seq (AC.reg QnY [])   AC.ret)   AC.skip)) fr ⟨t, kG F.fmt v0 v1 w2 w3 w4 L ++ []⟩ fun e fr σ => e = .nrm ∧ saJ F.fmt v0 v1 op a b p q c d 60000 fr σ := by
 obtain ⟨f1, f4, f5, f13, f14, f15, f18, f19⟩ := hfr
 have hl := hI.len
 refine QA [(1, .int .u8 op), (4, .int .i64 c), (5, .int .i64 d), (13, .ptr 1 v0 0), (14, .int .i64 a), (15, .int .i64 b), (18, .int .i64 p), (19, .int .i64 q)] ⟨f1, f4, f5, f13, f14, f15, f18, f19, trivial⟩  1000 ?_
 simp -implicitDefEqProofs (disch := omega) only [go_sem, ↓reduceIte, rq, Qvs, QnY]
 refine Qd hT Qdn (Qsz hT hop) rfl 1000 ?_
 cases hg : XB op with
 | false =>
   refine yk ?_
   refine ⟨t, w2, w3, w4, L, hI.up List.prefix_rfl hI.gr (by omega), ?_⟩
   exact yh
 | true =>
   refine ya ?_
   refine call hT Qe (Xk hT F hP 60 hI.gr hop hI.pa (Pl.num hI.np) hI.wa (by rw [Xu hI.np]; omega) (by omega)) 1000 fun v σ hv => ?_
   obtain ⟨i1, L1, s1, rfl, t1, x2, x3, x4, ht1, rfl⟩ := hv
   have hl1 := s1.len
   have hI1 := hI.up (B' := 51000) s1.pre s1.gr (by omega)
   refine ya ?_
   refine call hT Qe (Xk hT F hP 62 hI1.gr hop s1.pl (Pl.num hI1.nq) s1.dep (by rw [Xu hI1.nq]; omega) (by omega)) 1000 fun v σ hv => ?_
   obtain ⟨i2, L2, s2, rfl, t2, y2, y3, y4, ht2, rfl⟩ := hv
   have hl2 := s2.len
   have hI2 := hI1.up (B' := 52000) s2.pre s2.gr (by omega)
   refine ya ?_
   refine Qd hT QbC (c_Do hT (by omega) (by omega) hc hd) rfl 1000 ?_
   refine ya ?_
   refine call hT QW (Qad hT F s2.gr (Xz hc hd) (by omega)) 1000 fun v σ hv => ?_
   obtain ⟨r, L3, s3, rfl, t3, z2, z3, z4, ht3, rfl⟩ := hv
   have hl3 := s3.len
   have hI3 := hI2.up (B' := 53000) s3.pre s3.gr (by omega)
   refine ya ?_
   refine call hT Qe (Xk hT F hP 60 hI3.gr hop hI3.pa s3.pl hI3.wa (by rw [Xu s3.num]; omega) (by omega)) 1000 fun v σ hv => ?_
   obtain ⟨i4, L4, s4, rfl, t4, u2, u3, u4, ht4, rfl⟩ := hv
   have hl4 := s4.len
   have hI4 := hI3.up (B' := 60000) s4.pre s4.gr (by omega)
   have p14 := (s2.pre.trans s3.pre).trans s4.pre
   have b1 : Bn L4 op a p i1 := s1.bn.up s1.gr.ok hI1.pa.inn (QO hI1.np) hop p14
   have b2 : Bn L4 op i1 q i2 := s2.bn.up s2.gr.ok (s1.pl.up s1.gr.ok s2.pre).inn (QO hI2.nq) hop (s3.pre.trans s4.pre)
   have e := QqD hI4.gr.ok hI4.gr.one hg (a.toNat + 1) a c d i1 i2 i4 (by omega) hI4.pa (Ec.of hI4.np b1) (Ec.of hI4.nq b2) (Ec.of ((Qg s4.pre (QO s3.num)).trans s3.num) s4.bn)
   subst e
   refine yk ?_
   refine ⟨t4, u2, u3, u4, L4, hI4, ?_⟩
   exact yh
theorem same_3 (hT : Qj P tab) (F : Fmt P G) (hP : Bits P G) {v0 v1 w2 w3 w4 t : Nat} {op a b p q c d : Int} (hop : 1 ≤ op ∧ op ≤ 16) {L : List Nd} {fr : Fr} (hI : SameI a b p q c d 60000 L) (hfr : Qt fr 1 = .int .u8 op ∧ Qt fr 4 = .int .i64 c ∧ Qt fr 5 = .int .i64 d ∧ Qt fr 13 = .ptr 1 v0 0 ∧ Qt fr 14 = .int .i64 a ∧ Qt fr 15 = .int .i64 b ∧ Qt fr 18 = .int .i64 p ∧ Qt fr 19 = .int .i64 q ∧ Qt fr 20 = .int .i64 ((QQ op).getD 0) ∧ Qt fr 21 = .bool (QQ op).isSome) :
 W P G 189 0 (AC.seq (AC.reg Qln [114, 115, 116, 117, 118, 119, 120, 121, 122, 123, 124])   (AC.cond (Arg.t 125)   (AC.seq (AC.reg Qlm [])   AC.ret)   AC.skip)) fr ⟨t, kG F.fmt v0 v1 w2 w3 w4 L ++ []⟩ fun e fr σ => e = .nrm ∧ saJ F.fmt v0 v1 op a b p q c d 70000 fr σ := by
 obtain ⟨f1, f4, f5, f13, f14, f15, f18, f19, f20, f21⟩ := hfr
 have hl := hI.len
 cases hk : QQ op with
 | none =>
   rw [hk] at f20 f21
   refine QA [(1, .int .u8 op), (4, .int .i64 c), (5, .int .i64 d), (13, .ptr 1 v0 0), (14, .int .i64 a), (15, .int .i64 b), (18, .int .i64 p), (19, .int .i64 q), (20, .int .i64 0), (21, .bool false)] ⟨f1, f4, f5, f13, f14, f15, f18, f19, f20, f21, trivial⟩ 1000 ?_
   simp -implicitDefEqProofs (disch := omega) only [go_sem, ↓reduceIte, rq, Qln, Qlm, true_and]
   refine ⟨t, w2, w3, w4, L, hI.up List.prefix_rfl hI.gr (by omega), ?_⟩
   exact yh
 | some n =>
   rw [hk] at f20 f21
   have hn : i64 n := by
    unfold QQ at hk
    unfold i64
    split at hk
    ·cases hk; omega
    ·split at hk
     ·cases hk; omega
     ·split at hk
      ·cases hk; omega
      ·cases hk
   refine QA [(1, .int .u8 op), (4, .int .i64 c), (5, .int .i64 d), (13, .ptr 1 v0 0), (14, .int .i64 a), (15, .int .i64 b), (18, .int .i64 p), (19, .int .i64 q), (20, .int .i64 n), (21, .bool true)] ⟨f1, f4, f5, f13, f14, f15, f18, f19, f20, f21, trivial⟩ 1000 ?_
   simp -implicitDefEqProofs (disch := omega) only [go_sem, ↓reduceIte, rA, rq, Qln, Qlm]
   refine call hT QW (Qad hT F hI.gr hn (by omega)) 1000 fun v σ hv => ?_
   obtain ⟨r, L3, s3, rfl, t3, z2, z3, z4, ht3, rfl⟩ := hv
   have hl3 := s3.len
   have hI3 := hI.up (B' := 61000) s3.pre s3.gr (by omega)
   refine ya ?_
   refine call hT Qe (Xk hT F hP 60 hI3.gr hop hI3.pa s3.pl hI3.wa (by rw [Xu s3.num]; omega) (by omega)) 1000 fun v σ hv => ?_
   obtain ⟨i4, L4, s4, rfl, t4, u2, u3, u4, ht4, rfl⟩ := hv
   have hl4 := s4.len
   have hI4 := hI3.up (B' := 70000) s4.pre s4.gr (by omega)
   have e := Qqw hI4.gr.ok hI4.gr.one hop hI4.pa.inn hk (Ec.of ((Qg s4.pre (QO s3.num)).trans s3.num) s4.bn)
   subst e
   refine yk ?_
   refine ⟨t4, u2, u3, u4, L4, hI4, ?_⟩
   exact yh
theorem same_4 (hT : Qj P tab) (F : Fmt P G) (hP : Bits P G) {v0 v1 w2 w3 w4 t : Nat} {op a b p q c d : Int} (hop : 1 ≤ op ∧ op ≤ 16) {L : List Nd} {fr : Fr} (hI : SameI a b p q c d 70000 L) (hfr : Qt fr 1 = .int .u8 op ∧ Qt fr 4 = .int .i64 c ∧ Qt fr 5 = .int .i64 d ∧ Qt fr 13 = .ptr 1 v0 0 ∧ Qt fr 14 = .int .i64 a ∧ Qt fr 15 = .int .i64 b ∧ Qt fr 18 = .int .i64 p ∧ Qt fr 19 = .int .i64 q ∧ Qt fr 22 = .int .i64 ((Qgn op).getD 0) ∧ Qt fr 23 = .bool (Qgn op).isSome) :
 W P G 189 0 (AC.seq (AC.reg QiO [131, 132, 133, 134, 135, 136, 137, 138, 139, 140, 141, 142, 143, 144, 145, 146, 147, 148, 149, 150, 151, 152, 153, 154, 155, 156, 157, 158])   (AC.cond (Arg.t 159)   (AC.seq (AC.reg QiN [])   AC.ret)   AC.skip)) fr ⟨t, kG F.fmt v0 v1 w2 w3 w4 L ++ []⟩ fun e fr σ => e = .nrm ∧ saJ F.fmt v0 v1 op a b p q c d 80000 fr σ := by
 obtain ⟨f1, f4, f5, f13, f14, f15, f18, f19, f22, f23⟩ := hfr
 have hl := hI.len
 cases hk : Qgn op with
 | none =>
   rw [hk] at f22 f23
   by_cases h8 : op = 8 ∨ op = 9
   ·have hc8 : (op = 8 ∧ (op == 8) = true) ∨ (¬ op = 8 ∧ op = 9 ∧ (op == 8) = false ∧ (op == 9) = true) := by
     rcases h8 with rfl | rfl
     ·exact .inl ⟨rfl, rfl⟩
     ·exact .inr ⟨by decide, rfl, rfl, rfl⟩
    refine QA [(1, .int .u8 op), (4, .int .i64 c), (5, .int .i64 d), (13, .ptr 1 v0 0), (14, .int .i64 a), (15, .int .i64 b), (18, .int .i64 p), (19, .int .i64 q), (22, .int .i64 0), (23, .bool false)] ⟨f1, f4, f5, f13, f14, f15, f18, f19, f22, f23, trivial⟩ 1000 ?_
    rcases hc8 with ⟨k1, k2⟩ | ⟨k0, k1, k2, k3⟩ <;> (
     first | simp -implicitDefEqProofs (disch := omega) only [go_sem, ↓reduceIte, rA, rq, Int.reduceEq, beq_self_eq_true, QiO, QiN, false_implies, true_implies, true_and, not_false_eq_true, k1] | simp -implicitDefEqProofs (disch := omega) only [go_sem, ↓reduceIte, rA, rq, beq_self_eq_true, QiO, QiN, k1]
     refine call hT Qe (Xk hT F hP 60 hI.gr (by omega) hI.pa hI.pa hI.wa hI.wa (by omega)) 1000 fun v σ hv => ?_
     obtain ⟨i4, L4, s4, rfl, t4, u2, u3, u4, ht4, rfl⟩ := hv
     have hl4 := s4.len
     have hI4 := hI.up (B' := 80000) s4.pre s4.gr (by omega)
     have e := QHb hI4.gr.ok hI4.gr.one (by omega) hI4.pa.inn s4.bn
     subst e
     refine yk ?_
     refine ⟨t4, u2, u3, u4, L4, hI4, ?_⟩
     simp -implicitDefEqProofs (disch := omega) only [go_sem, ↓reduceIte, rq, and_true])
   ·have k1 : ¬ op = 8 := fun h => h8 (.inl h)
    have k2 : ¬ op = 9 := fun h => h8 (.inr h)
    refine QA [(1, .int .u8 op), (4, .int .i64 c), (5, .int .i64 d), (13, .ptr 1 v0 0), (14, .int .i64 a), (15, .int .i64 b), (18, .int .i64 p), (19, .int .i64 q), (22, .int .i64 0), (23, .bool false)] ⟨f1, f4, f5, f13, f14, f15, f18, f19, f22, f23, trivial⟩ 1000 ?_
    simp -implicitDefEqProofs (disch := omega) only [go_sem, ↓reduceIte, rA, rq, QiO, QiN, false_implies, true_implies, true_and, not_false_eq_true, k1, k2]
    refine ⟨t, w2, w3, w4, L, hI.up List.prefix_rfl hI.gr (by omega), ?_⟩
    exact yh
 | some n =>
   rw [hk] at f22 f23
   have hn : i64 n ∧ ¬ op = 8 ∧ ¬ op = 9 := by
    unfold Qgn at hk
    unfold i64
    split at hk
    ·cases hk; omega
    ·split at hk
     ·cases hk; omega
     ·cases hk
   obtain ⟨hn, k1, k2⟩ := hn
   refine QA [(1, .int .u8 op), (4, .int .i64 c), (5, .int .i64 d), (13, .ptr 1 v0 0), (14, .int .i64 a), (15, .int .i64 b), (18, .int .i64 p), (19, .int .i64 q), (22, .int .i64 n), (23, .bool true)] ⟨f1, f4, f5, f13, f14, f15, f18, f19, f22, f23, trivial⟩ 1000 ?_
   simp -implicitDefEqProofs (disch := omega) only [go_sem, ↓reduceIte, rA, rq, QiO, QiN]
   refine call hT Qe (Xk hT F hP 60 hI.gr hop hI.pa hI.pa hI.wa hI.wa (by omega)) 1000 fun v σ hv => ?_
   obtain ⟨i4, L4, s4, rfl, t4, u2, u3, u4, ht4, rfl⟩ := hv
   have hl4 := s4.len
   have hI4 := hI.up (B' := 79000) s4.pre s4.gr (by omega)
   refine ya ?_
   refine call hT QW (Qad hT F hI4.gr hn (by omega)) 1000 fun v σ hv => ?_
   obtain ⟨r, L3, s3, rfl, t3, z2, z3, z4, ht3, rfl⟩ := hv
   have hl3 := s3.len
   have hI3 := hI4.up (B' := 80000) s3.pre s3.gr (by omega)
   have e := QR hI3.gr.ok hI3.gr.one ((Qg s3.pre s4.pl.inn).trans (QHa hI4.gr.ok hop hI4.pa.inn hk s4.bn)) s3.num
   subst e
   simp -implicitDefEqProofs (disch := omega) only [go_sem, ↓reduceIte, rA, rq, bne_self_eq_false, false_implies, true_implies, true_and, not_false_eq_true, bne_self_eq_false, k1, k2]
   refine ⟨t3, z2, z3, z4, L3, hI3, ?_⟩
   exact yh
structure SameL (a : Int) (B : Nat) (L : List Nd) : Prop where
 gr : Gr L
 pa : Pl L a
 wa : wt L a ≤ 60
 len : L.length ≤ B
theorem SameL.up {a : Int} {B B' : Nat} {L L' : List Nd} (h : SameL a B L) (hp : L <+: L') (hG : Gr L') (hl : L'.length ≤ B') : SameL a B' L' :=
 ⟨hG, h.pa.up h.gr.ok hp, by rw [X8 hp h.pa.inn]; exact h.wa, hl⟩
abbrev slJ (fmt : Int → List UInt8) (v0 v1 : Nat) (op a : Int) (ns : List Int) : Nat → Fr → H → Prop := fun i fr σ => ∃ t w2 w3 w4 L, SameL a (80000 + 10000 * i) L ∧ Qt fr 1 = .int .u8 op ∧ Qt fr 13 = .ptr 1 v0 0 ∧ Qt fr 14 = .int .i64 a ∧ Qt fr 161 = .lst 1 (Q7 ns) true ∧ Qt fr 162 = .int .i64 ns.length ∧ Qt fr 163 = .int .i64 ((i : Nat) : Int) ∧ σ = ⟨t, kG fmt v0 v1 w2 w3 w4 L ++ []⟩
abbrev slE : AE → Fr → H → Prop := fun e fr σ => e = .ex 0
theorem same_5 (hT : Qj P tab) (F : Fmt P G) (hP : Bits P G) {v0 v1 : Nat} {op a : Int} (hop : 1 ≤ op ∧ op ≤ 16) {ns : List Int} (hns : ∀ n ∈ ns, i64 n) (hnl : ns.length ≤ 10) (i : Nat) (m : Int) (hm : ns[i]? = some m) (fr : Fr) (σ : H) (hJ : slJ F.fmt v0 v1 op a ns i fr σ) :
 W P G 189 0 (AC.seq (AC.reg QnX [])   (AC.seq (AC.cond (Arg.t 164)   AC.skip   (AC.exit 0))   (AC.seq (AC.block 1 (AC.seq (AC.reg QnW [165, 166])   (AC.seq (AC.reg QnV [168, 169, 170, 167, 171, 172])   (AC.seq (AC.reg QnU [173, 174, 175, 176, 177, 178, 179, 180, 181, 182, 183, 184, 185])   (AC.cond (Arg.t 186)   (AC.seq (AC.reg QnT [])   AC.ret)   AC.skip)))))   (AC.reg QnS [187])))) fr σ (Qjg (fun fr σ => ∃ fr' σ', Shift G 189 0 fr σ fr' σ' ∧ slJ F.fmt v0 v1 op a ns (i + 1) fr' σ') slE) := by
 obtain ⟨t, w2, w3, w4, L, hI, f1, f13, f14, f161, f162, f163, rfl⟩ := hJ
 have hl := hI.len
 have hlt := (List.getElem?_eq_some_iff.1 hm).1
 have hg := QeU hm
 have e2 := QvF hlt (by omega)
 have hmi := hns m (List.mem_of_getElem? hm)
 refine QA [(1, .int .u8 op), (13, .ptr 1 v0 0), (14, .int .i64 a), (161, .lst 1 (Q7 ns) true), (162, .int .i64 ns.length), (163, .int .i64 ((i : Nat) : Int))] ⟨f1, f13, f14, f161, f162, f163, trivial⟩  1000 ?_
 simp -implicitDefEqProofs (disch := omega) only [go_sem, Qr, ↓reduceIte, rq, zA, decide_true, lR, QnX, QnW, QnV, QnU, QnT, QnS, lC, lN, true_implies, and_true, Xe, hlt, hg]
 refine Qd hT QaH (Qzb hT op m) rfl 1000 ?_
 cases hk : Qtf op m with
 | none =>
   simp -implicitDefEqProofs (disch := omega) only [go_sem, ↓reduceIte, rA, rq, rT, zA, Option.isSome_none, Option.getD_none, lC, lN, Option.getD_none, Option.isSome_none, e2]
   refine ⟨_, _, Shift.refl _ _ _ _, t, w2, w3, w4, L, hI.up List.prefix_rfl hI.gr (by omega), ?_⟩
   exact yh
 | some n =>
   have hn : i64 n := by
    unfold Qtf at hk
    unfold i64
    split at hk
    ·cases hk; omega
    ·split at hk
     ·cases hk; omega
     ·split at hk
      ·cases hk; omega
      ·cases hk
   refine ye ?_
   refine call hT QW (Qad hT F hI.gr hmi (by omega)) 1000 fun v σ hv => ?_
   obtain ⟨r, L3, s3, rfl, t3, z2, z3, z4, ht3, rfl⟩ := hv
   have hl3 := s3.len
   have hI3 := hI.up (B' := 80000 + 10000 * i + 1) s3.pre s3.gr (by omega)
   refine ya ?_
   refine call hT Qe (Xk hT F hP 60 hI3.gr hop hI3.pa s3.pl hI3.wa (by rw [Xu s3.num]; omega) (by omega)) 1000 fun v σ hv => ?_
   obtain ⟨i4, L4, s4, rfl, t4, u2, u3, u4, ht4, rfl⟩ := hv
   have hl4 := s4.len
   have hI4 := hI3.up (B' := 80000 + 10000 * i + 9000) s4.pre s4.gr (by omega)
   refine ya ?_
   refine call hT QW (Qad hT F hI4.gr hn (by omega)) 1000 fun v σ hv => ?_
   obtain ⟨r2, L5, s5, rfl, t5, y2, y3, y4, ht5, rfl⟩ := hv
   have hl5 := s5.len
   have hI5 := hI4.up (B' := 80000 + 10000 * (i + 1)) s5.pre s5.gr (by omega)
   have e := QR hI5.gr.ok hI5.gr.one ((Qg s5.pre s4.pl.inn).trans (fixE hI4.gr.ok hop hI4.pa.inn hk (Ec.of ((Qg s4.pre (QO s3.num)).trans s3.num) s4.bn))) s5.num
   subst e
   refine yy ?_
   refine ⟨_, _, Shift.refl _ _ _ _, t5, y2, y3, y4, L5, hI5, ?_⟩
   exact yh
theorem QtF (hT : Qj P tab) (F : Fmt P G) (SO : ZG P) (hP : Bits P G) (hW : Pure P G Qz [] fun v => v = .bool true) {t : Nat} (l : List Nd) (tl : Bool) (hl : ∀ d ∈ l, i64 d.n ∧ i64 d.a)
 (op x y c d : Int) (ho : 0 ≤ op ∧ op ≤ 255) (hc : i64 c) (hd : i64 d) :
 C P G 0 Yv [.lst 6 (l.map fun d => .agg d.cells) tl, .int .u8 op, .int .i64 x, .int .i64 y, .int .i64 c, .int .i64 d] ⟨t, []⟩ fun v _ => v = .bool true := by
 have hkn := Qsw (P := P) (G := G) hT op
 refine Qx hT ZB (by simp [Xa]) (Qs 1000 ?_)
 by_cases h1 : (30 : Int) < l.length
 ·refine yA ?_
  refine Qd hT Qf hW rfl 1000 ?_
  exact yb
 ·refine yA ?_
  refine call hT X3 (QmO hT F SO hP l tl hl (by omega) x y 0) 1000 fun v σ hv => ?_
  obtain ⟨v0, v1, v2, v3, v4, c1, L, a, b, z, ok, hc1, rfl, rfl, hpl⟩ := hv
  cases ok with
  | false =>
    refine ye ?_
    refine Qd hT Qf hW rfl 1000 ?_
    exact yb
  | true =>
    have hpl := hpl rfl
    by_cases hop : 1 ≤ op ∧ op ≤ 16
    ·rw [show decide (1 ≤ op ∧ op ≤ 16) = true by simpa using hop] at hkn
     refine ye ?_
     refine Qd hT Q1 hkn rfl 1000 ?_
     have hll := hpl.len
     refine ya ?_
     refine call hT QW (Qad hT F hpl.gr hc (by omega)) 1000 fun v σ hv => ?_
     obtain ⟨p, L1, s1, rfl, c2, w2, w3, w4, hc2, rfl⟩ := hv
     have hl1 := s1.len
     refine ya ?_
     refine call hT QW (Qad hT F s1.gr hd (by omega)) 4 fun v σ hv => ?_
     obtain ⟨q, L2, s2, rfl, c3, x2, x3, x4, hc3, rfl⟩ := hv
     have hl2 := s2.len
     refine ya ?_
     have hI2 : SameI a b p q c d 45002 L2 := ⟨s2.gr, (hpl.pa.up hpl.gr.ok s1.pre).up s1.gr.ok s2.pre, (hpl.pb.up hpl.gr.ok s1.pre).up s1.gr.ok s2.pre, (Qg s2.pre (QO s1.num)).trans s1.num, s2.num, by rw [X8 s2.pre (hpl.pa.up hpl.gr.ok s1.pre).inn, X8 s1.pre hpl.pa.inn]; exact hpl.wa, by rw [X8 s2.pre (hpl.pb.up hpl.gr.ok s1.pre).inn, X8 s1.pre hpl.pb.inn]; exact hpl.wb, by omega⟩
     refine Ql6 (saJ F.fmt v0 v1 op a b p q c d 50000) ?_ fun fr σ hJ => ?_
     ·refine same_1 hT F hP hop hc hd hI2 ?_
      exact yb
     obtain ⟨t1, w2, w3, w4, L, hI, f1, f4, f5, f13, f14, f15, f18, f19, rfl⟩ := hJ
     refine Qhm [(1, .int .u8 op), (4, .int .i64 c), (5, .int .i64 d), (13, .ptr 1 v0 0), (14, .int .i64 a), (15, .int .i64 b), (18, .int .i64 p), (19, .int .i64 q)] ⟨f1, f4, f5, f13, f14, f15, f18, f19, trivial⟩ (QI 1 ?_)
     refine ya ?_
     refine Ql6 (saJ F.fmt v0 v1 op a b p q c d 60000) ?_ fun fr σ hJ => ?_
     ·refine same_2 hT F hP hop hc hd hI ?_
      exact yb
     clear hI f1 f4 f5 f13 f14 f15 f18 f19
     obtain ⟨t2, w2, w3, w4, L, hI, f1, f4, f5, f13, f14, f15, f18, f19, rfl⟩ := hJ
     refine Qhm [(1, .int .u8 op), (4, .int .i64 c), (5, .int .i64 d), (13, .ptr 1 v0 0), (14, .int .i64 a), (15, .int .i64 b), (18, .int .i64 p), (19, .int .i64 q)] ⟨f1, f4, f5, f13, f14, f15, f18, f19, trivial⟩ (QI 1000 ?_)
     refine ya ?_
     refine Qd hT QeK (Qxn hT hop) rfl 7 ?_
     refine ye ?_
     refine Ql6 (saJ F.fmt v0 v1 op a b p q c d 70000) ?_ fun fr σ hJ => ?_
     ·refine same_3 hT F hP hop hI ?_
      exact yb
     clear hI f1 f4 f5 f13 f14 f15 f18 f19
     obtain ⟨t3, w2, w3, w4, L, hI, f1, f4, f5, f13, f14, f15, f18, f19, rfl⟩ := hJ
     refine Qhm [(1, .int .u8 op), (4, .int .i64 c), (5, .int .i64 d), (13, .ptr 1 v0 0), (14, .int .i64 a), (15, .int .i64 b), (18, .int .i64 p), (19, .int .i64 q)] ⟨f1, f4, f5, f13, f14, f15, f18, f19, trivial⟩ (QI 1000 ?_)
     refine ya ?_
     refine Qd hT Qa4 (QGZ hT op) rfl 7 ?_
     refine ye ?_
     refine Ql6 (saJ F.fmt v0 v1 op a b p q c d 80000) ?_ fun fr σ hJ => ?_
     ·refine same_4 hT F hP hop hI ?_
      exact yb
     clear hI f1 f4 f5 f13 f14 f15 f18 f19
     obtain ⟨t4, w2, w3, w4, L, hI, f1, f4, f5, f13, f14, f15, f18, f19, rfl⟩ := hJ
     refine Qhm [(1, .int .u8 op), (4, .int .i64 c), (5, .int .i64 d), (13, .ptr 1 v0 0), (14, .int .i64 a), (15, .int .i64 b), (18, .int .i64 p), (19, .int .i64 q)] ⟨f1, f4, f5, f13, f14, f15, f18, f19, trivial⟩ (QI 1000 ?_)
     refine yg ?_
     have hns : ∀ n ∈ [0, 1, -1, c], i64 n := by
      intro n hn
      simp at hn
      rcases hn with rfl | rfl | rfl | rfl
      ·unfold i64; omega
      ·unfold i64; omega
      ·unfold i64; omega
      ·exact hc
     refine Qcw [0, 1, -1, c] (slJ F.fmt v0 v1 op a [0, 1, -1, c]) slE ?_ (fun i m hm fr σ hJ => same_5 hT F hP hop hns (by simp) i m hm fr σ hJ) (fun i hi fr σ hJ => ?_) (fun e fr σ hE => ?_)
     ·refine ⟨t4, w2, w3, w4, L, ⟨hI.gr, hI.pa, hI.wa, by have := hI.len; omega⟩, ?_⟩
      simp -implicitDefEqProofs (disch := omega) only [go_sem, ↓reduceIte, rA, rq, zA, lC, lN, true_and, and_true]
      exact ⟨rfl, rfl⟩
     ·obtain ⟨t, w2, w3, w4, L, hI, f1, f13, f14, f161, f162, f163, rfl⟩ := hJ
      subst hi
      refine QA [(1, .int .u8 op), (13, .ptr 1 v0 0), (14, .int .i64 a), (161, .lst 1 (Q7 [0, 1, -1, c]) true), (162, .int .i64 ((4 : Nat) : Int)), (163, .int .i64 ((4 : Nat) : Int))] ⟨f1, f13, f14, f161, f162, f163, trivial⟩ 1000 ?_
      simp -implicitDefEqProofs (disch := omega) only [go_sem, ↓reduceIte, rq, decide_false, Nat.lt_irrefl]
     ·subst hE
      refine QI 1000 ?_
      refine ya ?_
      refine Qd hT Qf hW rfl 1000 ?_
      exact yb
    ·rw [show decide (1 ≤ op ∧ op ≤ 16) = false by simpa using hop] at hkn
     refine ye ?_
     refine Qd hT Q1 hkn rfl 1000 ?_
     refine ya ?_
     refine Qd hT Qf hW rfl 1000 ?_
     exact yb
abbrev noJ (fmt : Int → List UInt8) (v0 v1 t0 n : Nat) (ex : List (Option Ob)) (S : List Int) (tS : Bool) (C' : List Cl) (tC : Bool) : Nat → Fr → H → Prop := fun i fr σ => ∃ t w2 w3 w4 L, Gr L ∧ n ≤ L.length ∧ L.length ≤ 40 + tri i * 632 ∧ t0 ≤ t ∧ Qt fr 3 = .ref (.agg [.lst 1 (Q7 S) tS, .lst 4 (C'.map Cl.v) tC]) 0 ∧ Qt fr 5 = .ptr 1 v0 0 ∧ Qt fr 7 = .int .i64 (n : Int) ∧ Qt fr 8 = .int .i64 ((i : Nat) : Int) ∧ σ = ⟨t, kG fmt v0 v1 w2 w3 w4 L ++ ex⟩
abbrev noE (fmt : Int → List UInt8) (v0 v1 t0 : Nat) (ex : List (Option Ob)) : AE → Fr → H → Prop := fun e fr σ => e = .ex 0 ∧ ∃ t w2 w3 w4 L, Gr L ∧ L.length ≤ 1000000 ∧ t0 ≤ t ∧ Qt fr 5 = .ptr 1 v0 0 ∧ σ = ⟨t, kG fmt v0 v1 w2 w3 w4 L ++ ex⟩
theorem Qyz (hT : Qj P tab) (F : Fmt P G) (SO : ZG P) (hP : Bits P G) {v0 v1 t0 n i : Nat} {ex : List (Option Ob)} {S : List Int} {tS : Bool} {C' : List Cl} {tC : Bool} (hn : n ≤ 40) (hi : i < n) (hS : ∀ x ∈ S, i64 x) (hCn : ∀ c ∈ C', i64 c.n) (hSl : S.length ≤ 60) (hCl : C'.length ≤ 60)
 (fr : Fr) (σ : H) (hJ : noJ F.fmt v0 v1 t0 n ex S tS C' tC i fr σ) :
 W P G 83 0 (AC.seq (AC.seq (AC.reg Qt7 [30, 31])   (AC.cond (Arg.t 32)   AC.skip   (AC.exit 0)))   (AC.seq (AC.block 1 (AC.seq (AC.reg Qt6 [35, 36, 37])   (AC.seq (AC.reg Qt5 [39, 40, 41, 42, 38, 43, 44])   (AC.seq (AC.reg Qt4 [46, 47, 48, 49, 45, 50, 51])   (AC.seq (AC.reg Qnn [52, 53, 54, 55, 56, 57, 58, 59, 60, 61, 62, 63, 64, 65, 66, 67, 68])   (AC.cond (Arg.t 69)   (AC.seq (AC.reg Qnm [])   AC.ret)   AC.skip))))))   (AC.reg Qnl [33, 34]))) fr σ (Qjg (fun fr σ => ∃ fr' σ', Shift G 83 0 fr σ fr' σ' ∧ noJ F.fmt v0 v1 t0 n ex S tS C' tC (i + 1) fr' σ') (noE F.fmt v0 v1 t0 ex)) := by
 obtain ⟨t, w2, w3, w4, L, hG, hnL, hl, ht, f3, f5, f7, f8, rfl⟩ := hJ
 have e2 := QvF hi (by omega)
 have htr : tri (i + 1) ≤ 820 := QDN (show i + 1 ≤ 40 by omega)
 have htri : tri (i + 1) = tri i + (i + 1) := rfl
 have hin : inG L (i : Int) := ⟨by omega, by omega⟩
 have hroom := QrV hG (i := i) (W := 39) (by omega) (by omega) (by omega)
 have hfew := QlZ hG.ok hin
 refine QA [(3, .ref (.agg [.lst 1 (Q7 S) tS, .lst 4 (C'.map Cl.v) tC]) 0), (5, .ptr 1 v0 0), (7, .int .i64 (n : Int)), (8, .int .i64 ((i : Nat) : Int))] ⟨f3, f5, f7, f8, trivial⟩  1000 ?_
 simp -implicitDefEqProofs (disch := omega) only [go_sem, ↓reduceIte, rq, decide_true, Qt7, Qt6, Qt5, Qt4, Qnn, Qnm, Qnl, hi]
 refine call hT ZC (Qqx hT F SO hP 39 hG hroom) 1000 fun v σ hv => ?_
 obtain ⟨j, L1, hO, rfl, t1, x2, x3, x4, ht1, rfl⟩ := hv
 obtain ⟨p1, hG1, hp1, _, hl1, hv1, _⟩ := hO.get hG hin
 have hl1' : L1.length ≤ 40 + tri (i + 1) * 632 := by
  have : (QN L [(i : Int)]).length * (16 * 39 + 8) ≤ (i + 1) * 632 := Nat.mul_le_mul_right _ (by omega)
  rw [htri, Nat.add_mul]
  omega
 have hL1 : L1.length ≤ 1000000 := by omega
 have hin1 := (XF p1 hin).1
 have e1 : ofV S C' L1 j = .tup [.int .i64 (val S C' L (i : Int)), .bool true] := by rw [ofV, if_pos (show 0 ≤ j ∧ j < (L1.length : Int) from hp1.inn), hv1 S C' hS hCn]
 have e3 : ofV S C' L1 (i : Int) = .tup [.int .i64 (val S C' L (i : Int)), .bool true] := by rw [ofV, if_pos (show 0 ≤ (i : Int) ∧ (i : Int) < (L1.length : Int) from hin1), YZ p1 hin]
 refine yi ?_
 refine call hT YB (QxN hT SO hL1 hG1.ok S hS tS C' (by omega) hCn tC j) 1000 fun v σ hv => ?_
 obtain ⟨rfl, t2, ht2, rfl⟩ := hv
 rw [e1]
 refine yi ?_
 refine call hT YB (QxN hT SO hL1 hG1.ok S hS tS C' (by omega) hCn tC (i : Int)) 1000 fun v σ hv => ?_
 obtain ⟨rfl, t3, ht3, rfl⟩ := hv
 rw [e3]
 refine ye ?_
 refine call hT ZC (Qqx hT F SO hP 0 hG1 (QsU hG1 hp1 hL1 0)) 1000 fun v σ hv => ?_
 obtain ⟨j2, L2, hO2, rfl, t4, y2, y3, y4, ht4, rfl⟩ := hv
 obtain ⟨rfl, rfl⟩ := (hO2.get hG1 hp1.inn).2.2.2.2.2.2 hp1
 refine yy ?_
 refine ⟨_, _, Shift.refl _ _ _ _, t4, y2, y3, y4, _, hG1, by have := p1.length_le; omega, hl1', by omega, ?_⟩
 exact yh
theorem Qsy (hT : Qj P tab) (F : Fmt P G) (SO : ZG P) (hP : Bits P G) (hW : Pure P G Qz [] fun v => v = .bool true) {t : Nat} (l : List Nd) (tl : Bool) (hl : ∀ d ∈ l, i64 d.n ∧ i64 d.a)
 (S : List Int) (tS : Bool) (C' : List Cl) (tC : Bool) (hS : ∀ x ∈ S, i64 x) (hCn : ∀ c ∈ C', i64 c.n) :
 C P G 0 X5 [.lst 6 (l.map fun d => .agg d.cells) tl, Qfc S tS 4 C' tC] ⟨t, []⟩ fun v _ => v = .bool true := by
 have hA := Qmm l
 have hG0 := QwB l hl
 have hfew := c_few (P := P) (G := G) hT S tS 4 C' tC
 refine Qx hT YL (by simp [Xp]) (Qs 14 ?_)
 by_cases h1 : (40 : Int) < l.length
 ·have h1' : decide ((40 : Int) < l.length) = true := by simpa using h1
  simp -implicitDefEqProofs (disch := omega) only [go_sem, ↓reduceIte, reduceCtorEq, rq, zA, decide_true, gt_iff_lt, Xp, QFb, QFa, QE9, QE8, QE7, QE6, Qt7, Qt6, Qt5, Qt4, Qnn, Qnm, Qnl, Qt8, Qfc, lM, lN, nA, and_true, h1]
  iterate 9 (try (refine QI 4 ?_; simp -implicitDefEqProofs (disch := omega) only [go_sem, ↓reduceIte, reduceCtorEq, rq]))
  refine Qd hT Qf hW rfl 1000 ?_
  exact yb
 ·have h1' : decide ((40 : Int) < l.length) = false := by simpa using h1
  simp -implicitDefEqProofs (disch := omega) only [go_sem, ↓reduceIte, reduceCtorEq, rA, rq, zA, decide_false, lR, gt_iff_lt, Xp, QFb, QFa, QE9, QE8, QE7, QE6, Qt7, Qt6, Qt5, Qt4, Qnn, Qnm, Qnl, Qt8, Qfc, lM, lC, lN, nA, tSq, tN, false_implies, and_true, h1]
  by_cases h2 : S.length ≤ 60 ∧ C'.length ≤ 60
  ·have h2' : decide (S.length ≤ 60 ∧ C'.length ≤ 60) = true := by simpa using h2
   rw [h2'] at hfew
   refine Qd hT XW hfew rfl 6 ?_
   refine ya ?_
   refine Z4 (Shift.freeze (k := 0) (v := t) (T := 48) (cs := [.lst 1 (Q7 S) tS, .lst 4 (C'.map Cl.v) tC]) (zL _) rfl rfl) ?_
   have hfp : Qc3 0 t [V.lst 1 (Q7 S) tS, .lst 4 (C'.map Cl.v) tC] (.ptr 0 t 0) = .ref (.agg [V.lst 1 (Q7 S) tS, .lst 4 (C'.map Cl.v) tC]) 0 := by simp [Qc3]
   simp only [hfp, List.set_cons_zero, Qij, QkF, QwC, QqF, X6, Option.map_none]
   refine Z4 (Shift.drop (o' := []) (t' := t + 1) (by simp [Qa5]) (lR _) (zL _)) (QI 1000 ?_)
   refine ya ?_
   refine call hT YM (Qxm hT F l tl hl (by omega)) 1000 fun v σ hv => ?_
   obtain ⟨v0, v1, v2, v3, v4, c1, u, hc1, rfl, rfl⟩ := hv
   obtain ⟨ex, hex⟩ : ∃ ex : List (Option Ob), ex = [] := ⟨_, rfl⟩
   rw [show kG F.fmt v0 v1 v2 v3 v4 (Qef l) = kG F.fmt v0 v1 v2 v3 v4 (Qef l) ++ ex by rw [hex, List.append_nil]]
   clear hex
   generalize Qef l = L at *
   refine ye ?_
   refine call hT Q0 (Qhz hT) 1000 fun v σ hv => ?_
   obtain ⟨rfl, c2, hc2, rfl⟩ := hv
   refine ya ?_
   refine Qcw (List.range L.length) (noJ F.fmt v0 v1 c2 L.length ex S tS C' tC) (noE F.fmt v0 v1 c2 ex) ?_ (fun i x hx fr σ hJ => ?_) (fun i hi fr σ hJ => ?_) (fun e fr σ hE => ?_)
   ·refine ⟨c2, v2, v3, v4, L, hG0, lR _, by omega, lR _, ?_⟩
    simp -implicitDefEqProofs (disch := omega) only [go_sem, ↓reduceIte, reduceCtorEq, rq, true_and, and_true]
    rfl
   ·have hi : i < L.length := by have := (List.getElem?_eq_some_iff.1 hx).1; simpa using this
    exact Qyz hT F SO hP (by omega) hi hS hCn h2.1 h2.2 fr σ hJ
   ·have hi : i = L.length := by simpa using hi
    obtain ⟨t', w2, w3, w4, L', hG, hnL, hl', ht, f3, f5, f7, f8, rfl⟩ := hJ
    have htr : tri i ≤ 820 := QDN (show i ≤ 40 by omega)
    rw [← hi] at f7
    generalize hn : i = n at f7
    rw [hn] at f8
    refine QA [(3, .ref (.agg [.lst 1 (Q7 S) tS, .lst 4 (C'.map Cl.v) tC]) 0), (5, .ptr 1 v0 0), (7, .int .i64 (n : Int)), (8, .int .i64 (n : Int))] ⟨f3, f5, f7, f8, trivial⟩  1000 ?_
    simp -implicitDefEqProofs (disch := omega) only [go_sem, ↓reduceIte, rq, decide_false, Nat.lt_irrefl]
    exact ⟨rfl, t', w2, w3, w4, L', hG, by omega, ht, yb, rfl⟩
   ·obtain ⟨rfl, t', w2, w3, w4, L', hG, hl', ht, f5, rfl⟩ := hE
    refine QI 1000 ?_
    have n1 : ¬ inG L' (-1) := fun h => absurd h.1 (by decide)
    have n2 : ¬ inG L' (L'.length : Int) := fun h => absurd h.2 (by omega)
    have rm : ∀ x, ¬ inG L' x → Room L' (QN L' [x]) 0 := fun x hx => .inr ⟨fun y hy => absurd (QvI hG.ok hx y hy) (List.not_mem_nil), hl'⟩
    simp -implicitDefEqProofs (disch := omega) only [go_sem, ↓reduceIte, f5]
    refine call hT ZC (Qqx hT F SO hP 0 hG (rm _ n1)) 1000 fun v σ hv => ?_
    obtain ⟨j, L1, hO, rfl, t1, x2, x3, x4, ht1, rfl⟩ := hv
    obtain ⟨rfl, rfl⟩ := hO.out n1
    simp -implicitDefEqProofs (disch := omega) only [go_sem, ↓reduceIte, rA, rq, beq_self_eq_true, f5]
    refine call hT Q0 (Qhz hT) 1000 fun v σ hv => ?_
    obtain ⟨rfl, t2, ht2, rfl⟩ := hv
    refine ya ?_
    refine call hT ZC (Qqx hT F SO hP 0 hG (rm _ n2)) 1000 fun v σ hv => ?_
    obtain ⟨j2, L2, hO2, rfl, t3, y2, y3, y4, ht3, rfl⟩ := hv
    obtain ⟨rfl, rfl⟩ := hO2.out n2
    refine ya ?_
    refine Qd hT Qf hW rfl 1000 ?_
    exact yb
  ·have h2' : decide (S.length ≤ 60 ∧ C'.length ≤ 60) = false := by simpa using h2
   rw [h2'] at hfew
   refine Qd hT XW hfew rfl 1000 ?_
   refine ya ?_
   refine Qd hT Qf hW rfl 1000 ?_
   exact yb
end Go.Proofs.YtpdeoalocejodaaGreatDoor
