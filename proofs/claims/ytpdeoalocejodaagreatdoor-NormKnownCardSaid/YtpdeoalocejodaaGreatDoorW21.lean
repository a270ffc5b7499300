/- The law NormMoved. -/
import Derived.Test.YtpdeoalocejodaaGreatDoorJ14
open Nat renaming reduceEqDiff → rq, reduceAdd → rA, reduceLeDiff → rL, reduceLT → rT, zero_add → zA, le_refl → lR, zero_le → zL, add_zero → aZ
open List renaming length_cons → lC, length_nil → lN, take_succ_cons → tSq, length_append → lA, nil_append → nA, cons_append → cA, append_assoc → aA, take_nil → tN, take_zero → tZ, length_map → lM
open Bool renaming not_false → nF, not_true → nT
namespace Go.Proofs.YtpdeoalocejodaaGreatDoor
open Go Go.Am
set_option maxRecDepth 100000
variable {P : Program} {G : Nat → Option V}
set_option maxHeartbeats 4000000
structure MovI (a b : Int) (B : Nat) (L : List Nd) : Prop where
 gr : Gr L
 pa : Pl L a
 pb : Pl L b
 wa : wt L a ≤ 60
 wb : wt L b ≤ 60
 len : L.length ≤ B
theorem MovI.up {a b : Int} {B B' : Nat} {L L' : List Nd} (h : MovI a b B L) (hp : L <+: L') (hG : Gr L') (hl : L'.length ≤ B') : MovI a b B' L' :=
 ⟨hG, h.pa.up h.gr.ok hp, h.pb.up h.gr.ok hp, by rw [X8 hp h.pa.inn]; exact h.wa, by rw [X8 hp h.pb.inn]; exact h.wb, hl⟩
theorem ec_up {L M : List Nd} {op x c i : Int} (hok : okN L) (hx : inG L x) (ho : 1 ≤ op ∧ op ≤ 16) (h : Ec L op x c i) (hM : L <+: M) : Ec M op x c i := by
 obtain ⟨z, hz, hb⟩ := h
 exact ⟨z, (Qg hM (QO hz)).trans hz, hb.up hok hx (QO hz) ho hM⟩
def prV (rs : List Int) : List V := rs.map fun r => .agg [.int .i64 r, .int .i64 r]
theorem QvV (rs : List Int) : (prV rs).length = rs.length := by simp [prV]
theorem QsV (hW : Pure P G Qz [] fun v => v = .bool true) {rs : List Int} (hT : Qj P tab) (hr : ∀ r ∈ rs, -1 < r) (hl : rs.length ≤ 1000) (fr : Fr) (σ : H) (s : List KI) (h18 : Qt fr 18 = .lst 2 (prV rs) true) (h19 : Qt fr 19 = .int .i64 0) (hs : s = [KI.blk 0, KI.ac (.seq (.reg QnR [228]) .ret)]) :
 sem P G 229 0 (endK G [RV.tmp 10] fun v _ => v = V.bool true) (KI.ac (.loop (AC.seq (AC.seq (AC.reg Qll [203, 204, 205])   (AC.cond (Arg.t 206)   AC.skip   (AC.exit 0)))   (AC.seq (AC.block 1 (AC.seq (AC.reg Qlk [209, 210, 211, 212, 213, 214, 215, 216, 217, 218, 219, 220, 221, 222, 223, 224, 225, 226])   (AC.cond (Arg.t 227)   (AC.seq (AC.reg Qlj [])   AC.ret)   AC.skip)))   (AC.reg Qli [207, 208])))) :: s) .nrm fr σ := by
 subst hs
 refine Qcw rs (fun i fr σ' => Qt fr 18 = .lst 2 (prV rs) true ∧ Qt fr 19 = .int .i64 ((i : Nat) : Int) ∧ σ' = σ) (fun e fr σ' => e = .ex 0 ∧ σ' = σ) ⟨h18, h19, rfl⟩ (fun i r hx fr σ' hJ => ?_) (fun i hi fr σ' hJ => ?_) (fun e fr σ' hE => ?_)
 ·obtain ⟨f18, f19, rfl⟩ := hJ
  have hlt := (List.getElem?_eq_some_iff.1 hx).1
  have e2 := QvF hlt (by omega)
  have hg : (prV rs).getD i .any = .agg [.int .i64 r, .int .i64 r] := by simp [prV, List.getD_eq_getElem?_getD, hx]
  have hm := hr r (List.mem_of_getElem? hx)
  have hne : ¬ r = -1 := by omega
  have hb : (r == -1) = false := by simpa using hne
  refine QA [(18, .lst 2 (prV rs) true), (19, .int .i64 ((i : Nat) : Int))] ⟨f18, f19, trivial⟩  1000 ?_
  simp -implicitDefEqProofs (disch := omega) only [go_sem, Qr, ↓reduceIte, rA, rq, rL, rT, Int.reduceToNat, Int.reduceLE, zA, aZ, Nat.mul_one, decide_true, lR, bne_self_eq_false, Qll, Qlk, Qlj, Qli, lC, lN, true_implies, and_true, QvV, hlt, hg, bne_self_eq_false, hb, e2]
  refine ⟨_, _, Shift.refl _ _ _ _, ?_⟩
  exact yh
 ·obtain ⟨f18, f19, rfl⟩ := hJ
  subst hi
  refine QA [(18, .lst 2 (prV rs) true), (19, .int .i64 ((rs.length : Nat) : Int))] ⟨f18, f19, trivial⟩ 1000 ?_
  simp -implicitDefEqProofs (disch := omega) only [go_sem, ↓reduceIte, rq, decide_false, Qll, Qlk, Qlj, Qli, and_true, QvV, Nat.lt_irrefl]
 ·obtain ⟨rfl, rfl⟩ := hE
  refine QI 1000 ?_
  simp -implicitDefEqProofs (disch := omega) only [go_sem, ↓reduceIte, QnR]
  refine Qd hT Qf hW rfl 1000 ?_
  exact yb
theorem Qq6 (hT : Qj P tab) (F : Fmt P G) (SO : ZG P) (hP : Bits P G) (hW : Pure P G Qz [] fun v => v = .bool true) {t : Nat} (l : List Nd) (tl : Bool) (hl : ∀ d ∈ l, i64 d.n ∧ i64 d.a)
 (x y c d : Int) (hc : i64 c) (hd : i64 d) :
 C P G 0 Yi [.lst 6 (l.map fun d => .agg d.cells) tl, .int .i64 x, .int .i64 y, .int .i64 c, .int .i64 d] ⟨t, []⟩ fun v _ => v = .bool true := by
 refine Qx hT Zp (by simp [Q5]) (Qs 1000 ?_)
 by_cases h1 : (30 : Int) < l.length
 ·refine yH ?_
  refine Qd hT Qf hW rfl 1000 ?_
  exact yb
 ·refine yH ?_
  refine call hT X3 (QmO hT F SO hP l tl hl (by omega) x y 0) 1000 fun v σ hv => ?_
  obtain ⟨v0, v1, v2, v3, v4, c1, L0, a, b, z, ok, hc1, rfl, rfl, hpl⟩ := hv
  cases ok with
  | false =>
    refine ye ?_
    refine Qd hT Qf hW rfl 1000 ?_
    exact yb
  | true =>
    have hpl := hpl rfl
    obtain ⟨k, hk⟩ : ∃ k : Nat, c % 64 = (k : Int) := ⟨(c % 64).toNat, by omega⟩
    have hk64 : k < 64 := by omega
    have hk2 : (c % 64).toNat = k := by omega
    have hki : i64 (k : Int) := by unfold i64; omega
    have hm : QaO .i64 c 63 = (k : Int) := (QhV c).trans hk
    have hpw : IntKind.i64.wrap (1 * 2 ^ min k 64) = IntKind.i64.wrap (2 ^ k) := by
     rw [Int.one_mul, Nat.min_eq_left (by omega)]
    have m0 : MovI a b 45000 L0 := ⟨hpl.gr, hpl.pa, hpl.pb, hpl.wa, hpl.wb, hpl.len⟩
    simp -implicitDefEqProofs (disch := omega) only [go_sem, Qr, ↓reduceIte, reduceCtorEq, rA, rq, rT, zA, nT, lC, lN, hm, Int.toNat_natCast, hpw]
    refine call hT Qc (Yx hT F m0.gr (hc) (by have := m0.len; omega)) 1000 fun v σ hv => ?_
    obtain ⟨n1, L1, s1, rfl, t1, x1, y1, z1, ht1, rfl⟩ := hv
    have m1 := m0.up (B' := 45001) s1.pre s1.gr (by have := s1.len; have := m0.len; omega)
    refine ya ?_
    refine call hT Qe (Xk hT F hP 60 m1.gr (op := 2) (by omega) m1.pa (Pl.num s1.num) (by have := m1.wa; omega) (by rw [Xu s1.num]; omega) (by have := m1.len; omega)) 1000 fun v σ hv => ?_
    obtain ⟨r2, L2, s2, rfl, t2, x2, y2, z2, ht2, rfl⟩ := hv
    have m2 := m1.up (B' := 45489) s2.pre s2.gr (by have := s2.len; have := m1.len; omega)
    refine ya ?_
    refine call hT Qc (Yx hT F m2.gr (Qq _) (by have := m2.len; omega)) 1000 fun v σ hv => ?_
    obtain ⟨n3, L3, s3, rfl, t3, x3, y3, z3, ht3, rfl⟩ := hv
    have m3 := m2.up (B' := 45490) s3.pre s3.gr (by have := s3.len; have := m2.len; omega)
    refine ya ?_
    refine call hT Qe (Xk hT F hP 60 m3.gr (op := 1) (by omega) m3.pa (Pl.num s3.num) (by have := m3.wa; omega) (by rw [Xu s3.num]; omega) (by have := m3.len; omega)) 1000 fun v σ hv => ?_
    obtain ⟨r4, L4, s4, rfl, t4, x4, y4, z4, ht4, rfl⟩ := hv
    have m4 := m3.up (B' := 45978) s4.pre s4.gr (by have := s4.len; have := m3.len; omega)
    have q1 : -1 < r4 := by have := s4.pl.inn.1; omega
    have e1 := mv_sub m4.gr.ok m4.gr.one m4.pa.inn (Ec.of ((Qg (((s2.pre).trans s3.pre).trans s4.pre) (QO s1.num)).trans s1.num) (s2.bn.up s2.gr.ok (m2.pa).inn ((Pl.num ((Qg (s2.pre) (QO s1.num)).trans s1.num))).inn (by omega) ((s3.pre).trans s4.pre))) (by rw [← Int.zero_sub]; exact (Ec.of ((Qg (s4.pre) (QO s3.num)).trans s3.num) s4.bn))
    subst e1
    refine yg ?_
    refine call hT Qc (Yx hT F m4.gr (hc) (by have := m4.len; omega)) 1000 fun v σ hv => ?_
    obtain ⟨n5, L5, s5, rfl, t5, x5, y5, z5, ht5, rfl⟩ := hv
    have m5 := m4.up (B' := 45979) s5.pre s5.gr (by have := s5.len; have := m4.len; omega)
    refine ya ?_
    refine call hT Qe (Xk hT F hP 60 m5.gr (op := 11) (by omega) m5.pa (Pl.num s5.num) (by have := m5.wa; omega) (by rw [Xu s5.num]; omega) (by have := m5.len; omega)) 1000 fun v σ hv => ?_
    obtain ⟨r6, L6, s6, rfl, t6, x6, y6, z6, ht6, rfl⟩ := hv
    have m6 := m5.up (B' := 46467) s6.pre s6.gr (by have := s6.len; have := m5.len; omega)
    refine ya ?_
    refine call hT Qc (Yx hT F m6.gr (Qq _) (by have := m6.len; omega)) 1000 fun v σ hv => ?_
    obtain ⟨n7, L7, s7, rfl, t7, x7, y7, z7, ht7, rfl⟩ := hv
    have m7 := m6.up (B' := 46468) s7.pre s7.gr (by have := s7.len; have := m6.len; omega)
    refine ya ?_
    refine call hT Qe (Xk hT F hP 60 m7.gr (op := 3) (by omega) m7.pa (Pl.num s7.num) (by have := m7.wa; omega) (by rw [Xu s7.num]; omega) (by have := m7.len; omega)) 1000 fun v σ hv => ?_
    obtain ⟨r8, L8, s8, rfl, t8, x8, y8, z8, ht8, rfl⟩ := hv
    have m8 := m7.up (B' := 46956) s8.pre s8.gr (by have := s8.len; have := m7.len; omega)
    have q2 : -1 < r8 := by have := s8.pl.inn.1; omega
    have e2 := mv_shl m8.gr.ok m8.gr.one m8.pa.inn (Ec.of ((Qg (((s6.pre).trans s7.pre).trans s8.pre) (QO s5.num)).trans s5.num) (s6.bn.up s6.gr.ok (m6.pa).inn ((Pl.num ((Qg (s6.pre) (QO s5.num)).trans s5.num))).inn (by omega) ((s7.pre).trans s8.pre))) (by rw [hk2]; exact (Ec.of ((Qg (s8.pre) (QO s7.num)).trans s7.num) s8.bn))
    subst e2
    refine yg ?_
    refine call hT Qc (Yx hT F m8.gr (hc) (by have := m8.len; omega)) 1000 fun v σ hv => ?_
    obtain ⟨n9, L9, s9, rfl, t9, x9, y9, z9, ht9, rfl⟩ := hv
    have m9 := m8.up (B' := 46957) s9.pre s9.gr (by have := s9.len; have := m8.len; omega)
    refine ya ?_
    refine call hT Qe (Xk hT F hP 60 m9.gr (op := 12) (by omega) m9.pa (Pl.num s9.num) (by have := m9.wa; omega) (by rw [Xu s9.num]; omega) (by have := m9.len; omega)) 1000 fun v σ hv => ?_
    obtain ⟨r10, L10, s10, rfl, t10, x10, y10, z10, ht10, rfl⟩ := hv
    have m10 := m9.up (B' := 47445) s10.pre s10.gr (by have := s10.len; have := m9.len; omega)
    refine ya ?_
    refine call hT Qc (Yx hT F m10.gr (hki) (by have := m10.len; omega)) 1000 fun v σ hv => ?_
    obtain ⟨n11, L11, s11, rfl, t11, x11, y11, z11, ht11, rfl⟩ := hv
    have m11 := m10.up (B' := 47446) s11.pre s11.gr (by have := s11.len; have := m10.len; omega)
    refine ya ?_
    refine call hT Qe (Xk hT F hP 60 m11.gr (op := 12) (by omega) m11.pa (Pl.num s11.num) (by have := m11.wa; omega) (by rw [Xu s11.num]; omega) (by have := m11.len; omega)) 1000 fun v σ hv => ?_
    obtain ⟨r12, L12, s12, rfl, t12, x12, y12, z12, ht12, rfl⟩ := hv
    have m12 := m11.up (B' := 47934) s12.pre s12.gr (by have := s12.len; have := m11.len; omega)
    have q3 : -1 < r12 := by have := s12.pl.inn.1; omega
    have e3 := Qwg m12.gr.ok m12.gr.one (op := 12) (by omega) m12.pa.inn (Ec.of ((Qg (((s10.pre).trans s11.pre).trans s12.pre) (QO s9.num)).trans s9.num) (s10.bn.up s10.gr.ok (m10.pa).inn ((Pl.num ((Qg (s10.pre) (QO s9.num)).trans s9.num))).inn (by omega) ((s11.pre).trans s12.pre))) (by rw [hk]; exact (Ec.of ((Qg (s12.pre) (QO s11.num)).trans s11.num) s12.bn))
    subst e3
    refine yg ?_
    refine call hT Qc (Yx hT F m12.gr (hc) (by have := m12.len; omega)) 1000 fun v σ hv => ?_
    obtain ⟨n13, L13, s13, rfl, t13, x13, y13, z13, ht13, rfl⟩ := hv
    have m13 := m12.up (B' := 47935) s13.pre s13.gr (by have := s13.len; have := m12.len; omega)
    refine ya ?_
    refine call hT Qe (Xk hT F hP 60 m13.gr (op := 13) (by omega) m13.pa (Pl.num s13.num) (by have := m13.wa; omega) (by rw [Xu s13.num]; omega) (by have := m13.len; omega)) 1000 fun v σ hv => ?_
    obtain ⟨r14, L14, s14, rfl, t14, x14, y14, z14, ht14, rfl⟩ := hv
    have m14 := m13.up (B' := 48423) s14.pre s14.gr (by have := s14.len; have := m13.len; omega)
    refine ya ?_
    refine call hT Qc (Yx hT F m14.gr (hki) (by have := m14.len; omega)) 1000 fun v σ hv => ?_
    obtain ⟨n15, L15, s15, rfl, t15, x15, y15, z15, ht15, rfl⟩ := hv
    have m15 := m14.up (B' := 48424) s15.pre s15.gr (by have := s15.len; have := m14.len; omega)
    refine ya ?_
    refine call hT Qe (Xk hT F hP 60 m15.gr (op := 13) (by omega) m15.pa (Pl.num s15.num) (by have := m15.wa; omega) (by rw [Xu s15.num]; omega) (by have := m15.len; omega)) 1000 fun v σ hv => ?_
    obtain ⟨r16, L16, s16, rfl, t16, x16, y16, z16, ht16, rfl⟩ := hv
    have m16 := m15.up (B' := 48912) s16.pre s16.gr (by have := s16.len; have := m15.len; omega)
    have q4 : -1 < r16 := by have := s16.pl.inn.1; omega
    have e4 := Qwg m16.gr.ok m16.gr.one (op := 13) (by omega) m16.pa.inn (Ec.of ((Qg (((s14.pre).trans s15.pre).trans s16.pre) (QO s13.num)).trans s13.num) (s14.bn.up s14.gr.ok (m14.pa).inn ((Pl.num ((Qg (s14.pre) (QO s13.num)).trans s13.num))).inn (by omega) ((s15.pre).trans s16.pre))) (by rw [hk]; exact (Ec.of ((Qg (s16.pre) (QO s15.num)).trans s15.num) s16.bn))
    subst e4
    refine yg ?_
    refine call hT Qc (Yx hT F m16.gr (Qq _) (by have := m16.len; omega)) 1000 fun v σ hv => ?_
    obtain ⟨n17, L17, s17, rfl, t17, x17, y17, z17, ht17, rfl⟩ := hv
    have m17 := m16.up (B' := 48913) s17.pre s17.gr (by have := s17.len; have := m16.len; omega)
    refine ya ?_
    refine call hT Qe (Xk hT F hP 60 m17.gr (op := 6) (by omega) m17.pa (Pl.num s17.num) (by have := m17.wa; omega) (by rw [Xu s17.num]; omega) (by have := m17.len; omega)) 1000 fun v σ hv => ?_
    obtain ⟨r18, L18, s18, rfl, t18, x18, y18, z18, ht18, rfl⟩ := hv
    have m18 := m17.up (B' := 49401) s18.pre s18.gr (by have := s18.len; have := m17.len; omega)
    refine ya ?_
    refine call hT Qc (Yx hT F m18.gr (hki) (by have := m18.len; omega)) 1000 fun v σ hv => ?_
    obtain ⟨n19, L19, s19, rfl, t19, x19, y19, z19, ht19, rfl⟩ := hv
    have m19 := m18.up (B' := 49402) s19.pre s19.gr (by have := s19.len; have := m18.len; omega)
    refine ya ?_
    refine call hT Qe (Xk hT F hP 60 m19.gr (op := 12) (by omega) m19.pa (Pl.num s19.num) (by have := m19.wa; omega) (by rw [Xu s19.num]; omega) (by have := m19.len; omega)) 1000 fun v σ hv => ?_
    obtain ⟨r20, L20, s20, rfl, t20, x20, y20, z20, ht20, rfl⟩ := hv
    have m20 := m19.up (B' := 49890) s20.pre s20.gr (by have := s20.len; have := m19.len; omega)
    have q5 : -1 < r20 := by have := s20.pl.inn.1; omega
    have e5 := mv_div m20.gr.ok m20.gr.one hk64 m20.pa.inn (Ec.of ((Qg (((s18.pre).trans s19.pre).trans s20.pre) (QO s17.num)).trans s17.num) (s18.bn.up s18.gr.ok (m18.pa).inn ((Pl.num ((Qg (s18.pre) (QO s17.num)).trans s17.num))).inn (by omega) ((s19.pre).trans s20.pre))) (Ec.of ((Qg (s20.pre) (QO s19.num)).trans s19.num) s20.bn)
    subst e5
    refine yg ?_
    refine call hT Qc (Yx hT F m20.gr (Qq _) (by have := m20.len; omega)) 1000 fun v σ hv => ?_
    obtain ⟨n21, L21, s21, rfl, t21, x21, y21, z21, ht21, rfl⟩ := hv
    have m21 := m20.up (B' := 49891) s21.pre s21.gr (by have := s21.len; have := m20.len; omega)
    refine ya ?_
    refine call hT Qe (Xk hT F hP 60 m21.gr (op := 7) (by omega) m21.pa (Pl.num s21.num) (by have := m21.wa; omega) (by rw [Xu s21.num]; omega) (by have := m21.len; omega)) 1000 fun v σ hv => ?_
    obtain ⟨r22, L22, s22, rfl, t22, x22, y22, z22, ht22, rfl⟩ := hv
    have m22 := m21.up (B' := 50379) s22.pre s22.gr (by have := s22.len; have := m21.len; omega)
    refine ya ?_
    refine call hT Qc (Yx hT F m22.gr (Qq _) (by have := m22.len; omega)) 1000 fun v σ hv => ?_
    obtain ⟨n23, L23, s23, rfl, t23, x23, y23, z23, ht23, rfl⟩ := hv
    have m23 := m22.up (B' := 50380) s23.pre s23.gr (by have := s23.len; have := m22.len; omega)
    refine ya ?_
    refine call hT Qe (Xk hT F hP 60 m23.gr (op := 8) (by omega) m23.pa (Pl.num s23.num) (by have := m23.wa; omega) (by rw [Xu s23.num]; omega) (by have := m23.len; omega)) 1000 fun v σ hv => ?_
    obtain ⟨r24, L24, s24, rfl, t24, x24, y24, z24, ht24, rfl⟩ := hv
    have m24 := m23.up (B' := 50868) s24.pre s24.gr (by have := s24.len; have := m23.len; omega)
    have q6 : -1 < r24 := by have := s24.pl.inn.1; omega
    have e6 := mv_rem m24.gr.ok m24.gr.one hk64 m24.pa.inn (Ec.of ((Qg (((s22.pre).trans s23.pre).trans s24.pre) (QO s21.num)).trans s21.num) (s22.bn.up s22.gr.ok (m22.pa).inn ((Pl.num ((Qg (s22.pre) (QO s21.num)).trans s21.num))).inn (by omega) ((s23.pre).trans s24.pre))) (Ec.of ((Qg (s24.pre) (QO s23.num)).trans s23.num) s24.bn)
    subst e6
    refine yg ?_
    refine call hT Qe (Xk hT F hP 60 m24.gr (op := 10) (by omega) m24.pa m24.pb (by have := m24.wa; omega) (by have := m24.wb; omega) (by have := m24.len; omega)) 1000 fun v σ hv => ?_
    obtain ⟨r25, L25, s25, rfl, t25, x25, y25, z25, ht25, rfl⟩ := hv
    have m25 := m24.up (B' := 51356) s25.pre s25.gr (by have := s25.len; have := m24.len; omega)
    refine ya ?_
    refine call hT Qc (Yx hT F m25.gr ((by unfold i64; omega : i64 0)) (by have := m25.len; omega)) 1000 fun v σ hv => ?_
    obtain ⟨n26, L26, s26, rfl, t26, x26, y26, z26, ht26, rfl⟩ := hv
    have m26 := m25.up (B' := 51357) s26.pre s26.gr (by have := s26.len; have := m25.len; omega)
    refine ya ?_
    refine call hT Qe (Xk hT F hP 62 m26.gr (op := 16) (by omega) (s25.pl.up s25.gr.ok (s26.pre)) (Pl.num s26.num) (by have := s25.dep; rw [X8 (s26.pre) s25.pl.inn]; omega) (by rw [Xu s26.num]; omega) (by have := m26.len; omega)) 1000 fun v σ hv => ?_
    obtain ⟨r27, L27, s27, rfl, t27, x27, y27, z27, ht27, rfl⟩ := hv
    have m27 := m26.up (B' := 51861) s27.pre s27.gr (by have := s27.len; have := m26.len; omega)
    refine ya ?_
    refine call hT Qe (Xk hT F hP 60 m27.gr (op := 16) (by omega) m27.pa m27.pb (by have := m27.wa; omega) (by have := m27.wb; omega) (by have := m27.len; omega)) 1000 fun v σ hv => ?_
    obtain ⟨r28, L28, s28, rfl, t28, x28, y28, z28, ht28, rfl⟩ := hv
    have m28 := m27.up (B' := 52349) s28.pre s28.gr (by have := s28.len; have := m27.len; omega)
    have q7 : -1 < r28 := by have := s28.pl.inn.1; omega
    have e7 := QDX m28.gr.ok m28.gr.one m28.pa m28.pb (s25.bn.up s25.gr.ok (m25.pa).inn (m25.pb).inn (by omega) (((s26.pre).trans s27.pre).trans s28.pre)) ((s25.pl.up s25.gr.ok (((s26.pre).trans s27.pre).trans s28.pre))).inn (Ec.of ((Qg ((s27.pre).trans s28.pre) (QO s26.num)).trans s26.num) (s27.bn.up s27.gr.ok ((s25.pl.up s25.gr.ok ((s26.pre).trans s27.pre))).inn ((Pl.num ((Qg (s27.pre) (QO s26.num)).trans s26.num))).inn (by omega) (s28.pre))) s28.bn
    subst e7
    refine yg ?_
    refine call hT Qe (Xk hT F hP 60 m28.gr (op := 2) (by omega) m28.pa m28.pb (by have := m28.wa; omega) (by have := m28.wb; omega) (by have := m28.len; omega)) 1000 fun v σ hv => ?_
    obtain ⟨r29, L29, s29, rfl, t29, x29, y29, z29, ht29, rfl⟩ := hv
    have m29 := m28.up (B' := 52837) s29.pre s29.gr (by have := s29.len; have := m28.len; omega)
    refine ya ?_
    refine call hT Qc (Yx hT F m29.gr ((by unfold i64; omega : i64 0)) (by have := m29.len; omega)) 1000 fun v σ hv => ?_
    obtain ⟨n30, L30, s30, rfl, t30, x30, y30, z30, ht30, rfl⟩ := hv
    have m30 := m29.up (B' := 52838) s30.pre s30.gr (by have := s30.len; have := m29.len; omega)
    refine ya ?_
    refine call hT Qe (Xk hT F hP 62 m30.gr (op := 16) (by omega) (s29.pl.up s29.gr.ok (s30.pre)) (Pl.num s30.num) (by have := s29.dep; rw [X8 (s30.pre) s29.pl.inn]; omega) (by rw [Xu s30.num]; omega) (by have := m30.len; omega)) 1000 fun v σ hv => ?_
    obtain ⟨r31, L31, s31, rfl, t31, x31, y31, z31, ht31, rfl⟩ := hv
    have m31 := m30.up (B' := 53342) s31.pre s31.gr (by have := s31.len; have := m30.len; omega)
    refine ya ?_
    refine call hT Qe (Xk hT F hP 60 m31.gr (op := 16) (by omega) m31.pa m31.pb (by have := m31.wa; omega) (by have := m31.wb; omega) (by have := m31.len; omega)) 1000 fun v σ hv => ?_
    obtain ⟨r32, L32, s32, rfl, t32, x32, y32, z32, ht32, rfl⟩ := hv
    have m32 := m31.up (B' := 53830) s32.pre s32.gr (by have := s32.len; have := m31.len; omega)
    have q8 : -1 < r32 := by have := s32.pl.inn.1; omega
    have e8 := QGh m32.gr.ok m32.gr.one m32.pa m32.pb (s29.bn.up s29.gr.ok (m29.pa).inn (m29.pb).inn (by omega) (((s30.pre).trans s31.pre).trans s32.pre)) ((s29.pl.up s29.gr.ok (((s30.pre).trans s31.pre).trans s32.pre))).inn (Ec.of ((Qg ((s31.pre).trans s32.pre) (QO s30.num)).trans s30.num) (s31.bn.up s31.gr.ok ((s29.pl.up s29.gr.ok ((s30.pre).trans s31.pre))).inn ((Pl.num ((Qg (s31.pre) (QO s30.num)).trans s30.num))).inn (by omega) (s32.pre))) s32.bn
    subst e8
    refine yg ?_
    refine call hT Qc (Yx hT F m32.gr (hc) (by have := m32.len; omega)) 1000 fun v σ hv => ?_
    obtain ⟨n33, L33, s33, rfl, t33, x33, y33, z33, ht33, rfl⟩ := hv
    have m33 := m32.up (B' := 53831) s33.pre s33.gr (by have := s33.len; have := m32.len; omega)
    refine ya ?_
    refine call hT Qe (Xk hT F hP 60 m33.gr (op := 1) (by omega) m33.pa (Pl.num s33.num) (by have := m33.wa; omega) (by rw [Xu s33.num]; omega) (by have := m33.len; omega)) 1000 fun v σ hv => ?_
    obtain ⟨r34, L34, s34, rfl, t34, x34, y34, z34, ht34, rfl⟩ := hv
    have m34 := m33.up (B' := 54319) s34.pre s34.gr (by have := s34.len; have := m33.len; omega)
    refine ya ?_
    refine call hT Qc (Yx hT F m34.gr (hd) (by have := m34.len; omega)) 1000 fun v σ hv => ?_
    obtain ⟨n35, L35, s35, rfl, t35, x35, y35, z35, ht35, rfl⟩ := hv
    have m35 := m34.up (B' := 54320) s35.pre s35.gr (by have := s35.len; have := m34.len; omega)
    refine ya ?_
    refine call hT Qe (Xk hT F hP 62 m35.gr (op := 16) (by omega) (s34.pl.up s34.gr.ok (s35.pre)) (Pl.num s35.num) (by have := s34.dep; rw [X8 (s35.pre) s34.pl.inn]; omega) (by rw [Xu s35.num]; omega) (by have := m35.len; omega)) 1000 fun v σ hv => ?_
    obtain ⟨r36, L36, s36, rfl, t36, x36, y36, z36, ht36, rfl⟩ := hv
    have m36 := m35.up (B' := 54824) s36.pre s36.gr (by have := s36.len; have := m35.len; omega)
    refine ya ?_
    refine call hT Qc (Yx hT F m36.gr (Qq _) (by have := m36.len; omega)) 1000 fun v σ hv => ?_
    obtain ⟨n37, L37, s37, rfl, t37, x37, y37, z37, ht37, rfl⟩ := hv
    have m37 := m36.up (B' := 54825) s37.pre s37.gr (by have := s37.len; have := m36.len; omega)
    refine ya ?_
    refine call hT Qe (Xk hT F hP 60 m37.gr (op := 16) (by omega) m37.pa (Pl.num s37.num) (by have := m37.wa; omega) (by rw [Xu s37.num]; omega) (by have := m37.len; omega)) 1000 fun v σ hv => ?_
    obtain ⟨r38, L38, s38, rfl, t38, x38, y38, z38, ht38, rfl⟩ := hv
    have m38 := m37.up (B' := 55313) s38.pre s38.gr (by have := s38.len; have := m37.len; omega)
    have q9 : -1 < r38 := by have := s38.pl.inn.1; omega
    have e9 := QGK m38.gr.ok m38.gr.one (a.toNat + 1) a c d _ _ _ (by omega) m38.pa.inn (Ec.of ((Qg (((((s34.pre).trans s35.pre).trans s36.pre).trans s37.pre).trans s38.pre) (QO s33.num)).trans s33.num) (s34.bn.up s34.gr.ok (m34.pa).inn ((Pl.num ((Qg (s34.pre) (QO s33.num)).trans s33.num))).inn (by omega) ((((s35.pre).trans s36.pre).trans s37.pre).trans s38.pre))) (Ec.of ((Qg (((s36.pre).trans s37.pre).trans s38.pre) (QO s35.num)).trans s35.num) (s36.bn.up s36.gr.ok ((s34.pl.up s34.gr.ok ((s35.pre).trans s36.pre))).inn ((Pl.num ((Qg (s36.pre) (QO s35.num)).trans s35.num))).inn (by omega) ((s37.pre).trans s38.pre))) (Ec.of ((Qg (s38.pre) (QO s37.num)).trans s37.num) s38.bn)
    subst e9
    refine yg ?_
    refine call hT Qc (Yx hT F m38.gr ((by unfold i64; omega : i64 1)) (by have := m38.len; omega)) 1000 fun v σ hv => ?_
    obtain ⟨n39, L39, s39, rfl, t39, x39, y39, z39, ht39, rfl⟩ := hv
    have m39 := m38.up (B' := 55314) s39.pre s39.gr (by have := s39.len; have := m38.len; omega)
    refine ya ?_
    refine call hT Qe (Xk hT F hP 60 m39.gr (op := 15) (by omega) m39.pa (Pl.num s39.num) (by have := m39.wa; omega) (by rw [Xu s39.num]; omega) (by have := m39.len; omega)) 1000 fun v σ hv => ?_
    obtain ⟨r40, L40, s40, rfl, t40, x40, y40, z40, ht40, rfl⟩ := hv
    have m40 := m39.up (B' := 55802) s40.pre s40.gr (by have := s40.len; have := m39.len; omega)
    refine ya ?_
    refine call hT Qc (Yx hT F m40.gr ((by unfold i64; omega : i64 0)) (by have := m40.len; omega)) 1000 fun v σ hv => ?_
    obtain ⟨n41, L41, s41, rfl, t41, x41, y41, z41, ht41, rfl⟩ := hv
    have m41 := m40.up (B' := 55803) s41.pre s41.gr (by have := s41.len; have := m40.len; omega)
    refine ya ?_
    refine call hT Qe (Xk hT F hP 60 m41.gr (op := 16) (by omega) m41.pa (Pl.num s41.num) (by have := m41.wa; omega) (by rw [Xu s41.num]; omega) (by have := m41.len; omega)) 1000 fun v σ hv => ?_
    obtain ⟨r42, L42, s42, rfl, t42, x42, y42, z42, ht42, rfl⟩ := hv
    have m42 := m41.up (B' := 56291) s42.pre s42.gr (by have := s42.len; have := m41.len; omega)
    have q10 : -1 < r42 := by have := s42.pl.inn.1; omega
    have e10 := Qwh m42.gr.ok m42.gr.one m42.pa.inn (Ec.of ((Qg (((s40.pre).trans s41.pre).trans s42.pre) (QO s39.num)).trans s39.num) (s40.bn.up s40.gr.ok (m40.pa).inn ((Pl.num ((Qg (s40.pre) (QO s39.num)).trans s39.num))).inn (by omega) ((s41.pre).trans s42.pre))) (Ec.of ((Qg (s42.pre) (QO s41.num)).trans s41.num) s42.bn)
    subst e10
    refine yg ?_
    refine call hT Qc (Yx hT F m42.gr ((by unfold i64; omega : i64 0)) (by have := m42.len; omega)) 1000 fun v σ hv => ?_
    obtain ⟨n43, L43, s43, rfl, t43, x43, y43, z43, ht43, rfl⟩ := hv
    have m43 := m42.up (B' := 56292) s43.pre s43.gr (by have := s43.len; have := m42.len; omega)
    refine ya ?_
    refine call hT Qe (Xk hT F hP 60 m43.gr (op := 15) (by omega) (Pl.num s43.num) m43.pa (by rw [Xu s43.num]; omega) (by have := m43.wa; omega) (by have := m43.len; omega)) 1000 fun v σ hv => ?_
    obtain ⟨r44, L44, s44, rfl, t44, x44, y44, z44, ht44, rfl⟩ := hv
    have m44 := m43.up (B' := 56780) s44.pre s44.gr (by have := s44.len; have := m43.len; omega)
    refine ya ?_
    refine call hT Zh (Qse hT F hP 60 m44.gr m44.pa (by have := m44.wa; omega) (by have := m44.len; omega)) 1000 fun v σ hv => ?_
    obtain ⟨r45, L45, s45, rfl, t45, x45, y45, z45, ht45, rfl⟩ := hv
    have m45 := m44.up (B' := 57269) s45.pre s45.gr (by have := s45.len; have := m44.len; omega)
    refine ya ?_
    refine call hT Zh (Qse hT F hP 62 m45.gr s45.pl (by have := s45.dep; omega) (by have := m45.len; omega)) 1000 fun v σ hv => ?_
    obtain ⟨r46, L46, s46, rfl, t46, x46, y46, z46, ht46, rfl⟩ := hv
    have m46 := m45.up (B' := 57774) s46.pre s46.gr (by have := s46.len; have := m45.len; omega)
    have q11 : -1 < r46 := by have := s46.pl.inn.1; omega
    have e11 := QGi m46.gr.ok m46.gr.one ((Qg (((s44.pre).trans s45.pre).trans s46.pre) (QO s43.num)).trans s43.num) m46.pa.inn (s44.bn.up s44.gr.ok ((Pl.num ((Qg (s44.pre) (QO s43.num)).trans s43.num))).inn (m44.pa).inn (by omega) ((s45.pre).trans s46.pre)) (ec_up s45.gr.ok (m45.pa).inn (by omega) s45.ec (s46.pre)) s46.ec
    subst e11
    refine yg ?_
    refine call hT Qe (Xk hT F hP 60 m46.gr (op := 10) (by omega) m46.pa m46.pb (by have := m46.wa; omega) (by have := m46.wb; omega) (by have := m46.len; omega)) 1000 fun v σ hv => ?_
    obtain ⟨r47, L47, s47, rfl, t47, x47, y47, z47, ht47, rfl⟩ := hv
    have m47 := m46.up (B' := 58262) s47.pre s47.gr (by have := s47.len; have := m46.len; omega)
    refine ya ?_
    refine call hT Qc (Yx hT F m47.gr ((by unfold i64; omega : i64 1)) (by have := m47.len; omega)) 1000 fun v σ hv => ?_
    obtain ⟨n48, L48, s48, rfl, t48, x48, y48, z48, ht48, rfl⟩ := hv
    have m48 := m47.up (B' := 58263) s48.pre s48.gr (by have := s48.len; have := m47.len; omega)
    refine ya ?_
    refine call hT Qe (Xk hT F hP 62 m48.gr (op := 15) (by omega) (s47.pl.up s47.gr.ok (s48.pre)) (Pl.num s48.num) (by have := s47.dep; rw [X8 (s48.pre) s47.pl.inn]; omega) (by rw [Xu s48.num]; omega) (by have := m48.len; omega)) 1000 fun v σ hv => ?_
    obtain ⟨r49, L49, s49, rfl, t49, x49, y49, z49, ht49, rfl⟩ := hv
    have m49 := m48.up (B' := 58767) s49.pre s49.gr (by have := s49.len; have := m48.len; omega)
    refine ya ?_
    refine call hT Qe (Xk hT F hP 60 m49.gr (op := 16) (by omega) m49.pa m49.pb (by have := m49.wa; omega) (by have := m49.wb; omega) (by have := m49.len; omega)) 1000 fun v σ hv => ?_
    obtain ⟨r50, L50, s50, rfl, t50, x50, y50, z50, ht50, rfl⟩ := hv
    have m50 := m49.up (B' := 59255) s50.pre s50.gr (by have := s50.len; have := m49.len; omega)
    have ex := (s25.bn.up s25.gr.ok (m25.pa).inn (m25.pb).inn (by omega) (((((((((((((((((((((((((s26.pre).trans s27.pre).trans s28.pre).trans s29.pre).trans s30.pre).trans s31.pre).trans s32.pre).trans s33.pre).trans s34.pre).trans s35.pre).trans s36.pre).trans s37.pre).trans s38.pre).trans s39.pre).trans s40.pre).trans s41.pre).trans s42.pre).trans s43.pre).trans s44.pre).trans s45.pre).trans s46.pre).trans s47.pre).trans s48.pre).trans s49.pre).trans s50.pre)).fn (s47.bn.up s47.gr.ok (m47.pa).inn (m47.pb).inn (by omega) (((s48.pre).trans s49.pre).trans s50.pre))
    subst ex
    have el := Qwh m50.gr.ok m50.gr.one ((s47.pl.up s47.gr.ok (((s48.pre).trans s49.pre).trans s50.pre))).inn (Ec.of ((Qg ((s49.pre).trans s50.pre) (QO s48.num)).trans s48.num) (s49.bn.up s49.gr.ok ((s47.pl.up s47.gr.ok ((s48.pre).trans s49.pre))).inn ((Pl.num ((Qg (s49.pre) (QO s48.num)).trans s48.num))).inn (by omega) (s50.pre))) (Ec.of ((Qg ((((((((((((((((((((((((s27.pre).trans s28.pre).trans s29.pre).trans s30.pre).trans s31.pre).trans s32.pre).trans s33.pre).trans s34.pre).trans s35.pre).trans s36.pre).trans s37.pre).trans s38.pre).trans s39.pre).trans s40.pre).trans s41.pre).trans s42.pre).trans s43.pre).trans s44.pre).trans s45.pre).trans s46.pre).trans s47.pre).trans s48.pre).trans s49.pre).trans s50.pre) (QO s26.num)).trans s26.num) (s27.bn.up s27.gr.ok ((s25.pl.up s25.gr.ok ((s26.pre).trans s27.pre))).inn ((Pl.num ((Qg (s27.pre) (QO s26.num)).trans s26.num))).inn (by omega) (((((((((((((((((((((((s28.pre).trans s29.pre).trans s30.pre).trans s31.pre).trans s32.pre).trans s33.pre).trans s34.pre).trans s35.pre).trans s36.pre).trans s37.pre).trans s38.pre).trans s39.pre).trans s40.pre).trans s41.pre).trans s42.pre).trans s43.pre).trans s44.pre).trans s45.pre).trans s46.pre).trans s47.pre).trans s48.pre).trans s49.pre).trans s50.pre)))
    have q12 : -1 < r50 := by have := s50.pl.inn.1; omega
    have e12 := el.trans (QDX m50.gr.ok m50.gr.one m50.pa m50.pb (s47.bn.up s47.gr.ok (m47.pa).inn (m47.pb).inn (by omega) (((s48.pre).trans s49.pre).trans s50.pre)) ((s47.pl.up s47.gr.ok (((s48.pre).trans s49.pre).trans s50.pre))).inn (Ec.of ((Qg ((((((((((((((((((((((((s27.pre).trans s28.pre).trans s29.pre).trans s30.pre).trans s31.pre).trans s32.pre).trans s33.pre).trans s34.pre).trans s35.pre).trans s36.pre).trans s37.pre).trans s38.pre).trans s39.pre).trans s40.pre).trans s41.pre).trans s42.pre).trans s43.pre).trans s44.pre).trans s45.pre).trans s46.pre).trans s47.pre).trans s48.pre).trans s49.pre).trans s50.pre) (QO s26.num)).trans s26.num) (s27.bn.up s27.gr.ok ((s25.pl.up s25.gr.ok ((s26.pre).trans s27.pre))).inn ((Pl.num ((Qg (s27.pre) (QO s26.num)).trans s26.num))).inn (by omega) (((((((((((((((((((((((s28.pre).trans s29.pre).trans s30.pre).trans s31.pre).trans s32.pre).trans s33.pre).trans s34.pre).trans s35.pre).trans s36.pre).trans s37.pre).trans s38.pre).trans s39.pre).trans s40.pre).trans s41.pre).trans s42.pre).trans s43.pre).trans s44.pre).trans s45.pre).trans s46.pre).trans s47.pre).trans s48.pre).trans s49.pre).trans s50.pre))) s50.bn)
    subst e12
    simp -implicitDefEqProofs (disch := omega) only [go_sem, ↓reduceIte, reduceCtorEq, rA, rq, rL, zA, lR, lC, lN, cA, nA, tSq, tZ, tN, and_true]
    refine QsV hW (rs := [_, _, _, _, _, _, _, _, _, _, _, _]) hT ?_ (by simp) _ _ _ (by simp -implicitDefEqProofs (disch := omega) only [go_sem, ↓reduceIte, reduceCtorEq, rq]; rfl) (yb) rfl
    intro r hr
    simp only [List.mem_cons, List.not_mem_nil, or_false] at hr
    rcases hr with rfl | rfl | rfl | rfl | rfl | rfl | rfl | rfl | rfl | rfl | rfl | rfl <;> assumption
end Go.Proofs.YtpdeoalocejodaaGreatDoor
