/- The law NormSame. -/
import Derived.Test.YtpdeoalocejodaaGreatDoorJ13
namespace Go.Proofs.YtpdeoalocejodaaGreatDoor
open Go Go.Am
set_option maxRecDepth 100000
set_option maxHeartbeats 4000000
variable {P : Program} {G : Nat → Option V}
structure SameI (a b p q c d : Int) (B : Nat) (L : List Nd) : Prop where
  gr : Gr L
  pa : Pl L a
  pb : Pl L b
  np : numI L p = some c
  nq : numI L q = some d
  wa : wt L a ≤ 60
  wb : wt L b ≤ 60
  len : L.length ≤ B
theorem SameI.up {a b p q c d : Int} {B B' : Nat} {L L' : List Nd} (h : SameI a b p q c d B L) (hp : L <+: L') (hG : Gr L') (hl : L'.length ≤ B') : SameI a b p q c d B' L' :=
  ⟨hG, h.pa.up h.gr.ok hp, h.pb.up h.gr.ok hp, (numI_ext hp (in_num h.np)).trans h.np, (numI_ext hp (in_num h.nq)).trans h.nq, by rw [wt_ext hp h.pa.inn]; exact h.wa, by rw [wt_ext hp h.pb.inn]; exact h.wb, hl⟩
abbrev saJ (fmt : Int → List UInt8) (v0 v1 : Nat) (op a b p q c d : Int) (B : Nat) : Fr → H → Prop := fun fr σ => ∃ t w2 w3 w4 L, SameI a b p q c d B L ∧ fget fr 1 = .int .u8 op ∧ fget fr 4 = .int .i64 c ∧ fget fr 5 = .int .i64 d ∧ fget fr 13 = .ptr 1 v0 0 ∧ fget fr 14 = .int .i64 a ∧ fget fr 15 = .int .i64 b ∧ fget fr 18 = .int .i64 p ∧ fget fr 19 = .int .i64 q ∧ σ = ⟨t, kG fmt v0 v1 w2 w3 w4 L ++ []⟩
theorem same_1 (hT : TabOk P tab) (F : Fmt P G) (hP : Bits P G) {v0 v1 w2 w3 w4 t : Nat} {op a b p q c d : Int} (hop : 1 ≤ op ∧ op ≤ 16) (hc : i64 c) (hd : i64 d) {L : List Nd} {fr : Fr} (hI : SameI a b p q c d 45002 L) (hfr : fget fr 1 = .int .u8 op ∧ fget fr 4 = .int .i64 c ∧ fget fr 5 = .int .i64 d ∧ fget fr 13 = .ptr 1 v0 0 ∧ fget fr 14 = .int .i64 a ∧ fget fr 15 = .int .i64 b ∧ fget fr 18 = .int .i64 p ∧ fget fr 19 = .int .i64 q) :
    W P G 189 0 (AC.seq (AC.reg zq0_7 [56, 57, 58, 59, 60, 61, 62, 63, 64, 65, 66, 67, 68, 69, 70, 71, 72, 73, 74, 75, 76, 77, 78, 79, 80, 81, 82, 83])   (AC.cond (Arg.t 84)   (AC.seq (AC.reg zq0_8 [])   AC.ret)   AC.skip)) fr ⟨t, kG F.fmt v0 v1 w2 w3 w4 L ++ []⟩ fun e fr σ => e = .nrm ∧ saJ F.fmt v0 v1 op a b p q c d 50000 fr σ := by
  obtain ⟨f1, f4, f5, f13, f14, f15, f18, f19⟩ := hfr
  have hl := hI.len
  refine W_round [(1, .int .u8 op), (4, .int .i64 c), (5, .int .i64 d), (13, .ptr 1 v0 0), (14, .int .i64 a), (15, .int .i64 b), (18, .int .i64 p), (19, .int .i64 q)] ⟨f1, f4, f5, f13, f14, f15, f18, f19, trivial⟩  1000 ?_
  simp -implicitDefEqProofs (disch := omega) only [go_sem, ↓reduceIte, Nat.reduceEqDiff, zq0_7, zq0_8]
  refine call hT t_norm_Bin (k_BinE hT F hP 60 hI.gr hop (Pl.num hI.np) (Pl.num hI.nq) (by rw [wt_num hI.np]; omega) (by rw [wt_num hI.nq]; omega) (by omega)) 1000 fun v σ hv => ?_
  obtain ⟨i1, L1, s1, rfl, t1, x2, x3, x4, ht1, rfl⟩ := hv
  have hl1 := s1.len
  simp -implicitDefEqProofs (disch := omega) only [go_sem, ↓reduceIte, Nat.reduceEqDiff]
  refine callPS hT t_word_Do (c_Do hT (by omega) (by omega) hc hd) rfl 1000 ?_
  simp -implicitDefEqProofs (disch := omega) only [go_sem, ↓reduceIte, Nat.reduceEqDiff]
  refine call hT t_norm_Const (k_ConstE hT F s1.gr (do_i64 hc hd) (by omega)) 1000 fun v σ hv => ?_
  obtain ⟨i2, L2, s2, rfl, t2, y2, y3, y4, ht2, rfl⟩ := hv
  have hl2 := s2.len
  have hI1 := hI.up (B' := 46000) s1.pre s1.gr (by omega)
  have hI2 := hI1.up (B' := 46000) s2.pre s2.gr (by omega)
  have e := num_uniq s2.gr.ok s2.gr.one ((numI_ext s2.pre s1.pl.inn).trans (bn_const hI1.np hI1.nq s1.bn)) s2.num
  subst e
  simp -implicitDefEqProofs (disch := omega) only [go_sem, ↓reduceIte, Nat.reduceAdd, Nat.reduceEqDiff, bne_self_eq_false, bne_self_eq_false]
  refine callPS hT t_word_Swaps (c_Swaps hT hop) rfl 1000 ?_
  cases hs : swapsW op with
  | false =>
    simp -implicitDefEqProofs (disch := omega) only [go_sem, ↓reduceIte, Nat.reduceAdd, Nat.reduceEqDiff, true_and]
    refine ⟨t2, y2, y3, y4, L2, hI2.up List.prefix_rfl hI2.gr (by omega), ?_⟩
    simp -implicitDefEqProofs (disch := omega) only [go_sem, ↓reduceIte, Nat.reduceEqDiff, and_true]
  | true =>
    simp -implicitDefEqProofs (disch := omega) only [go_sem, ↓reduceIte, Nat.reduceAdd, Nat.reduceEqDiff]
    refine call hT t_norm_Bin (k_BinE hT F hP 60 hI2.gr hop hI2.pa hI2.pb hI2.wa hI2.wb (by omega)) 1000 fun v σ hv => ?_
    obtain ⟨i3, L3, s3, rfl, t3, z2, z3, z4, ht3, rfl⟩ := hv
    have hl3 := s3.len
    have hI3 := hI2.up (B' := 47000) s3.pre s3.gr (by omega)
    simp -implicitDefEqProofs (disch := omega) only [go_sem, ↓reduceIte, Nat.reduceAdd, Nat.reduceEqDiff]
    refine call hT t_norm_Bin (k_BinE hT F hP 60 hI3.gr hop hI3.pb hI3.pa hI3.wb hI3.wa (by omega)) 1000 fun v σ hv => ?_
    obtain ⟨i4, L4, s4, rfl, t4, u2, u3, u4, ht4, rfl⟩ := hv
    have hl4 := s4.len
    have hI4 := hI3.up (B' := 50000) s4.pre s4.gr (by omega)
    have e := (s3.bn.up s3.gr.ok hI3.pa.inn hI3.pb.inn hop s4.pre).fn (s4.bn.swap hs)
    subst e
    simp -implicitDefEqProofs (disch := omega) only [go_sem, ↓reduceIte, Nat.reduceAdd, Nat.reduceEqDiff, bne_self_eq_false, true_and, bne_self_eq_false]
    refine ⟨t4, u2, u3, u4, L4, hI4, ?_⟩
    simp -implicitDefEqProofs (disch := omega) only [go_sem, ↓reduceIte, Nat.reduceEqDiff, and_true]
theorem same_2 (hT : TabOk P tab) (F : Fmt P G) (hP : Bits P G) {v0 v1 w2 w3 w4 t : Nat} {op a b p q c d : Int} (hop : 1 ≤ op ∧ op ≤ 16) (hc : i64 c) (hd : i64 d) {L : List Nd} {fr : Fr} (hI : SameI a b p q c d 50000 L) (hfr : fget fr 1 = .int .u8 op ∧ fget fr 4 = .int .i64 c ∧ fget fr 5 = .int .i64 d ∧ fget fr 13 = .ptr 1 v0 0 ∧ fget fr 14 = .int .i64 a ∧ fget fr 15 = .int .i64 b ∧ fget fr 18 = .int .i64 p ∧ fget fr 19 = .int .i64 q) :
    W P G 189 0 (AC.seq (AC.reg zq0_9 [85, 86, 87, 88, 89, 90, 91, 92, 93, 94, 95, 96, 97, 98, 99, 100, 101, 102, 103, 104, 105, 106, 107])   (AC.cond (Arg.t 108)   (AC.seq (AC.reg zq0_10 [])   AC.ret)   AC.skip)) fr ⟨t, kG F.fmt v0 v1 w2 w3 w4 L ++ []⟩ fun e fr σ => e = .nrm ∧ saJ F.fmt v0 v1 op a b p q c d 60000 fr σ := by
  obtain ⟨f1, f4, f5, f13, f14, f15, f18, f19⟩ := hfr
  have hl := hI.len
  refine W_round [(1, .int .u8 op), (4, .int .i64 c), (5, .int .i64 d), (13, .ptr 1 v0 0), (14, .int .i64 a), (15, .int .i64 b), (18, .int .i64 p), (19, .int .i64 q)] ⟨f1, f4, f5, f13, f14, f15, f18, f19, trivial⟩  1000 ?_
  simp -implicitDefEqProofs (disch := omega) only [go_sem, ↓reduceIte, Nat.reduceEqDiff, zq0_9, zq0_10]
  refine callPS hT t_word_Groups (c_Groups hT hop) rfl 1000 ?_
  cases hg : groupsW op with
  | false =>
    simp -implicitDefEqProofs (disch := omega) only [go_sem, ↓reduceIte, Nat.reduceEqDiff, true_and]
    refine ⟨t, w2, w3, w4, L, hI.up List.prefix_rfl hI.gr (by omega), ?_⟩
    simp -implicitDefEqProofs (disch := omega) only [go_sem, ↓reduceIte, Nat.reduceEqDiff, and_true]
  | true =>
    simp -implicitDefEqProofs (disch := omega) only [go_sem, ↓reduceIte, Nat.reduceAdd, Nat.reduceEqDiff]
    refine call hT t_norm_Bin (k_BinE hT F hP 60 hI.gr hop hI.pa (Pl.num hI.np) hI.wa (by rw [wt_num hI.np]; omega) (by omega)) 1000 fun v σ hv => ?_
    obtain ⟨i1, L1, s1, rfl, t1, x2, x3, x4, ht1, rfl⟩ := hv
    have hl1 := s1.len
    have hI1 := hI.up (B' := 51000) s1.pre s1.gr (by omega)
    simp -implicitDefEqProofs (disch := omega) only [go_sem, ↓reduceIte, Nat.reduceAdd, Nat.reduceEqDiff]
    refine call hT t_norm_Bin (k_BinE hT F hP 62 hI1.gr hop s1.pl (Pl.num hI1.nq) s1.dep (by rw [wt_num hI1.nq]; omega) (by omega)) 1000 fun v σ hv => ?_
    obtain ⟨i2, L2, s2, rfl, t2, y2, y3, y4, ht2, rfl⟩ := hv
    have hl2 := s2.len
    have hI2 := hI1.up (B' := 52000) s2.pre s2.gr (by omega)
    simp -implicitDefEqProofs (disch := omega) only [go_sem, ↓reduceIte, Nat.reduceAdd, Nat.reduceEqDiff]
    refine callPS hT t_word_Do (c_Do hT (by omega) (by omega) hc hd) rfl 1000 ?_
    simp -implicitDefEqProofs (disch := omega) only [go_sem, ↓reduceIte, Nat.reduceAdd, Nat.reduceEqDiff]
    refine call hT t_norm_Const (k_ConstE hT F s2.gr (do_i64 hc hd) (by omega)) 1000 fun v σ hv => ?_
    obtain ⟨r, L3, s3, rfl, t3, z2, z3, z4, ht3, rfl⟩ := hv
    have hl3 := s3.len
    have hI3 := hI2.up (B' := 53000) s3.pre s3.gr (by omega)
    simp -implicitDefEqProofs (disch := omega) only [go_sem, ↓reduceIte, Nat.reduceAdd, Nat.reduceEqDiff]
    refine call hT t_norm_Bin (k_BinE hT F hP 60 hI3.gr hop hI3.pa s3.pl hI3.wa (by rw [wt_num s3.num]; omega) (by omega)) 1000 fun v σ hv => ?_
    obtain ⟨i4, L4, s4, rfl, t4, u2, u3, u4, ht4, rfl⟩ := hv
    have hl4 := s4.len
    have hI4 := hI3.up (B' := 60000) s4.pre s4.gr (by omega)
    have p14 := (s2.pre.trans s3.pre).trans s4.pre
    have b1 : Bn L4 op a p i1 := s1.bn.up s1.gr.ok hI1.pa.inn (in_num hI1.np) hop p14
    have b2 : Bn L4 op i1 q i2 := s2.bn.up s2.gr.ok (s1.pl.up s1.gr.ok s2.pre).inn (in_num hI2.nq) hop (s3.pre.trans s4.pre)
    have e := grouped hI4.gr.ok hI4.gr.one hg (a.toNat + 1) a c d i1 i2 i4 (by omega) hI4.pa (Ec.of hI4.np b1) (Ec.of hI4.nq b2) (Ec.of ((numI_ext s4.pre (in_num s3.num)).trans s3.num) s4.bn)
    subst e
    simp -implicitDefEqProofs (disch := omega) only [go_sem, ↓reduceIte, Nat.reduceAdd, Nat.reduceEqDiff, bne_self_eq_false, true_and, bne_self_eq_false]
    refine ⟨t4, u2, u3, u4, L4, hI4, ?_⟩
    simp -implicitDefEqProofs (disch := omega) only [go_sem, ↓reduceIte, Nat.reduceEqDiff, and_true]
theorem same_3 (hT : TabOk P tab) (F : Fmt P G) (hP : Bits P G) {v0 v1 w2 w3 w4 t : Nat} {op a b p q c d : Int} (hop : 1 ≤ op ∧ op ≤ 16) {L : List Nd} {fr : Fr} (hI : SameI a b p q c d 60000 L) (hfr : fget fr 1 = .int .u8 op ∧ fget fr 4 = .int .i64 c ∧ fget fr 5 = .int .i64 d ∧ fget fr 13 = .ptr 1 v0 0 ∧ fget fr 14 = .int .i64 a ∧ fget fr 15 = .int .i64 b ∧ fget fr 18 = .int .i64 p ∧ fget fr 19 = .int .i64 q ∧ fget fr 20 = .int .i64 ((keepsW op).getD 0) ∧ fget fr 21 = .bool (keepsW op).isSome) :
    W P G 189 0 (AC.seq (AC.reg zq0_12 [114, 115, 116, 117, 118, 119, 120, 121, 122, 123, 124])   (AC.cond (Arg.t 125)   (AC.seq (AC.reg zq0_13 [])   AC.ret)   AC.skip)) fr ⟨t, kG F.fmt v0 v1 w2 w3 w4 L ++ []⟩ fun e fr σ => e = .nrm ∧ saJ F.fmt v0 v1 op a b p q c d 70000 fr σ := by
  obtain ⟨f1, f4, f5, f13, f14, f15, f18, f19, f20, f21⟩ := hfr
  have hl := hI.len
  cases hk : keepsW op with
  | none =>
    rw [hk] at f20 f21
    refine W_round [(1, .int .u8 op), (4, .int .i64 c), (5, .int .i64 d), (13, .ptr 1 v0 0), (14, .int .i64 a), (15, .int .i64 b), (18, .int .i64 p), (19, .int .i64 q), (20, .int .i64 0), (21, .bool false)] ⟨f1, f4, f5, f13, f14, f15, f18, f19, f20, f21, trivial⟩ 1000 ?_
    simp -implicitDefEqProofs (disch := omega) only [go_sem, ↓reduceIte, Nat.reduceEqDiff, zq0_12, zq0_13, true_and]
    refine ⟨t, w2, w3, w4, L, hI.up List.prefix_rfl hI.gr (by omega), ?_⟩
    simp -implicitDefEqProofs (disch := omega) only [go_sem, ↓reduceIte, Nat.reduceEqDiff, and_true]
  | some n =>
    rw [hk] at f20 f21
    have hn : i64 n := by
      unfold keepsW at hk
      unfold i64
      split at hk
      · cases hk; omega
      · split at hk
        · cases hk; omega
        · split at hk
          · cases hk; omega
          · cases hk
    refine W_round [(1, .int .u8 op), (4, .int .i64 c), (5, .int .i64 d), (13, .ptr 1 v0 0), (14, .int .i64 a), (15, .int .i64 b), (18, .int .i64 p), (19, .int .i64 q), (20, .int .i64 n), (21, .bool true)] ⟨f1, f4, f5, f13, f14, f15, f18, f19, f20, f21, trivial⟩ 1000 ?_
    simp -implicitDefEqProofs (disch := omega) only [go_sem, ↓reduceIte, Nat.reduceAdd, Nat.reduceEqDiff, zq0_12, zq0_13]
    refine call hT t_norm_Const (k_ConstE hT F hI.gr hn (by omega)) 1000 fun v σ hv => ?_
    obtain ⟨r, L3, s3, rfl, t3, z2, z3, z4, ht3, rfl⟩ := hv
    have hl3 := s3.len
    have hI3 := hI.up (B' := 61000) s3.pre s3.gr (by omega)
    simp -implicitDefEqProofs (disch := omega) only [go_sem, ↓reduceIte, Nat.reduceAdd, Nat.reduceEqDiff]
    refine call hT t_norm_Bin (k_BinE hT F hP 60 hI3.gr hop hI3.pa s3.pl hI3.wa (by rw [wt_num s3.num]; omega) (by omega)) 1000 fun v σ hv => ?_
    obtain ⟨i4, L4, s4, rfl, t4, u2, u3, u4, ht4, rfl⟩ := hv
    have hl4 := s4.len
    have hI4 := hI3.up (B' := 70000) s4.pre s4.gr (by omega)
    have e := keepE hI4.gr.ok hI4.gr.one hop hI4.pa.inn hk (Ec.of ((numI_ext s4.pre (in_num s3.num)).trans s3.num) s4.bn)
    subst e
    simp -implicitDefEqProofs (disch := omega) only [go_sem, ↓reduceIte, Nat.reduceAdd, Nat.reduceEqDiff, bne_self_eq_false, true_and, bne_self_eq_false]
    refine ⟨t4, u2, u3, u4, L4, hI4, ?_⟩
    simp -implicitDefEqProofs (disch := omega) only [go_sem, ↓reduceIte, Nat.reduceEqDiff, and_true]
theorem same_4 (hT : TabOk P tab) (F : Fmt P G) (hP : Bits P G) {v0 v1 w2 w3 w4 t : Nat} {op a b p q c d : Int} (hop : 1 ≤ op ∧ op ≤ 16) {L : List Nd} {fr : Fr} (hI : SameI a b p q c d 70000 L) (hfr : fget fr 1 = .int .u8 op ∧ fget fr 4 = .int .i64 c ∧ fget fr 5 = .int .i64 d ∧ fget fr 13 = .ptr 1 v0 0 ∧ fget fr 14 = .int .i64 a ∧ fget fr 15 = .int .i64 b ∧ fget fr 18 = .int .i64 p ∧ fget fr 19 = .int .i64 q ∧ fget fr 22 = .int .i64 ((selfW op).getD 0) ∧ fget fr 23 = .bool (selfW op).isSome) :
    W P G 189 0 (AC.seq (AC.reg zq0_15 [131, 132, 133, 134, 135, 136, 137, 138, 139, 140, 141, 142, 143, 144, 145, 146, 147, 148, 149, 150, 151, 152, 153, 154, 155, 156, 157, 158])   (AC.cond (Arg.t 159)   (AC.seq (AC.reg zq0_16 [])   AC.ret)   AC.skip)) fr ⟨t, kG F.fmt v0 v1 w2 w3 w4 L ++ []⟩ fun e fr σ => e = .nrm ∧ saJ F.fmt v0 v1 op a b p q c d 80000 fr σ := by
  obtain ⟨f1, f4, f5, f13, f14, f15, f18, f19, f22, f23⟩ := hfr
  have hl := hI.len
  cases hk : selfW op with
  | none =>
    rw [hk] at f22 f23
    by_cases h8 : op = 8 ∨ op = 9
    · have hc8 : (op = 8 ∧ (op == 8) = true) ∨ (¬ op = 8 ∧ op = 9 ∧ (op == 8) = false ∧ (op == 9) = true) := by
        rcases h8 with rfl | rfl
        · exact .inl ⟨rfl, rfl⟩
        · exact .inr ⟨by decide, rfl, rfl, rfl⟩
      refine W_round [(1, .int .u8 op), (4, .int .i64 c), (5, .int .i64 d), (13, .ptr 1 v0 0), (14, .int .i64 a), (15, .int .i64 b), (18, .int .i64 p), (19, .int .i64 q), (22, .int .i64 0), (23, .bool false)] ⟨f1, f4, f5, f13, f14, f15, f18, f19, f22, f23, trivial⟩ 1000 ?_
      rcases hc8 with ⟨k1, k2⟩ | ⟨k0, k1, k2, k3⟩ <;> (
        first | simp -implicitDefEqProofs (disch := omega) only [go_sem, ↓reduceIte, Nat.reduceAdd, Nat.reduceEqDiff, Int.reduceEq, beq_self_eq_true, zq0_15, zq0_16, false_implies, true_implies, true_and, not_false_eq_true, k1] | simp -implicitDefEqProofs (disch := omega) only [go_sem, ↓reduceIte, Nat.reduceAdd, Nat.reduceEqDiff, beq_self_eq_true, zq0_15, zq0_16, k1]
        refine call hT t_norm_Bin (k_BinE hT F hP 60 hI.gr (by omega) hI.pa hI.pa hI.wa hI.wa (by omega)) 1000 fun v σ hv => ?_
        obtain ⟨i4, L4, s4, rfl, t4, u2, u3, u4, ht4, rfl⟩ := hv
        have hl4 := s4.len
        have hI4 := hI.up (B' := 80000) s4.pre s4.gr (by omega)
        have e := bn_keep hI4.gr.ok hI4.gr.one (by omega) hI4.pa.inn s4.bn
        subst e
        simp -implicitDefEqProofs (disch := omega) only [go_sem, ↓reduceIte, Nat.reduceAdd, Nat.reduceEqDiff, bne_self_eq_false, true_and, bne_self_eq_false]
        refine ⟨t4, u2, u3, u4, L4, hI4, ?_⟩
        simp -implicitDefEqProofs (disch := omega) only [go_sem, ↓reduceIte, Nat.reduceEqDiff, and_true])
    · have k1 : ¬ op = 8 := fun h => h8 (.inl h)
      have k2 : ¬ op = 9 := fun h => h8 (.inr h)
      refine W_round [(1, .int .u8 op), (4, .int .i64 c), (5, .int .i64 d), (13, .ptr 1 v0 0), (14, .int .i64 a), (15, .int .i64 b), (18, .int .i64 p), (19, .int .i64 q), (22, .int .i64 0), (23, .bool false)] ⟨f1, f4, f5, f13, f14, f15, f18, f19, f22, f23, trivial⟩ 1000 ?_
      simp -implicitDefEqProofs (disch := omega) only [go_sem, ↓reduceIte, Nat.reduceAdd, Nat.reduceEqDiff, zq0_15, zq0_16, false_implies, true_implies, true_and, not_false_eq_true, k1, k2]
      refine ⟨t, w2, w3, w4, L, hI.up List.prefix_rfl hI.gr (by omega), ?_⟩
      simp -implicitDefEqProofs (disch := omega) only [go_sem, ↓reduceIte, Nat.reduceEqDiff, and_true]
  | some n =>
    rw [hk] at f22 f23
    have hn : i64 n ∧ ¬ op = 8 ∧ ¬ op = 9 := by
      unfold selfW at hk
      unfold i64
      split at hk
      · cases hk; omega
      · split at hk
        · cases hk; omega
        · cases hk
    obtain ⟨hn, k1, k2⟩ := hn
    refine W_round [(1, .int .u8 op), (4, .int .i64 c), (5, .int .i64 d), (13, .ptr 1 v0 0), (14, .int .i64 a), (15, .int .i64 b), (18, .int .i64 p), (19, .int .i64 q), (22, .int .i64 n), (23, .bool true)] ⟨f1, f4, f5, f13, f14, f15, f18, f19, f22, f23, trivial⟩ 1000 ?_
    simp -implicitDefEqProofs (disch := omega) only [go_sem, ↓reduceIte, Nat.reduceAdd, Nat.reduceEqDiff, zq0_15, zq0_16]
    refine call hT t_norm_Bin (k_BinE hT F hP 60 hI.gr hop hI.pa hI.pa hI.wa hI.wa (by omega)) 1000 fun v σ hv => ?_
    obtain ⟨i4, L4, s4, rfl, t4, u2, u3, u4, ht4, rfl⟩ := hv
    have hl4 := s4.len
    have hI4 := hI.up (B' := 79000) s4.pre s4.gr (by omega)
    simp -implicitDefEqProofs (disch := omega) only [go_sem, ↓reduceIte, Nat.reduceAdd, Nat.reduceEqDiff]
    refine call hT t_norm_Const (k_ConstE hT F hI4.gr hn (by omega)) 1000 fun v σ hv => ?_
    obtain ⟨r, L3, s3, rfl, t3, z2, z3, z4, ht3, rfl⟩ := hv
    have hl3 := s3.len
    have hI3 := hI4.up (B' := 80000) s3.pre s3.gr (by omega)
    have e := num_uniq hI3.gr.ok hI3.gr.one ((numI_ext s3.pre s4.pl.inn).trans (bn_self hI4.gr.ok hop hI4.pa.inn hk s4.bn)) s3.num
    subst e
    simp -implicitDefEqProofs (disch := omega) only [go_sem, ↓reduceIte, Nat.reduceAdd, Nat.reduceEqDiff, bne_self_eq_false, false_implies, true_implies, true_and, not_false_eq_true, bne_self_eq_false, k1, k2]
    refine ⟨t3, z2, z3, z4, L3, hI3, ?_⟩
    simp -implicitDefEqProofs (disch := omega) only [go_sem, ↓reduceIte, Nat.reduceEqDiff, and_true]
structure SameL (a : Int) (B : Nat) (L : List Nd) : Prop where
  gr : Gr L
  pa : Pl L a
  wa : wt L a ≤ 60
  len : L.length ≤ B
theorem SameL.up {a : Int} {B B' : Nat} {L L' : List Nd} (h : SameL a B L) (hp : L <+: L') (hG : Gr L') (hl : L'.length ≤ B') : SameL a B' L' :=
  ⟨hG, h.pa.up h.gr.ok hp, by rw [wt_ext hp h.pa.inn]; exact h.wa, hl⟩
abbrev slJ (fmt : Int → List UInt8) (v0 v1 : Nat) (op a : Int) (ns : List Int) : Nat → Fr → H → Prop := fun i fr σ => ∃ t w2 w3 w4 L, SameL a (80000 + 10000 * i) L ∧ fget fr 1 = .int .u8 op ∧ fget fr 13 = .ptr 1 v0 0 ∧ fget fr 14 = .int .i64 a ∧ fget fr 161 = .lst 1 (nints ns) true ∧ fget fr 162 = .int .i64 ns.length ∧ fget fr 163 = .int .i64 ((i : Nat) : Int) ∧ σ = ⟨t, kG fmt v0 v1 w2 w3 w4 L ++ []⟩
abbrev slE : AE → Fr → H → Prop := fun e fr σ => e = .ex 0
theorem same_5 (hT : TabOk P tab) (F : Fmt P G) (hP : Bits P G) {v0 v1 : Nat} {op a : Int} (hop : 1 ≤ op ∧ op ≤ 16) {ns : List Int} (hns : ∀ n ∈ ns, i64 n) (hnl : ns.length ≤ 10) (i : Nat) (m : Int) (hm : ns[i]? = some m) (fr : Fr) (σ : H) (hJ : slJ F.fmt v0 v1 op a ns i fr σ) :
    W P G 189 0 (AC.seq (AC.reg zq0_18 [])   (AC.seq (AC.cond (Arg.t 164)   AC.skip   (AC.exit 0))   (AC.seq (AC.block 1 (AC.seq (AC.reg zq0_19 [165, 166])   (AC.seq (AC.reg zq0_20 [168, 169, 170, 167, 171, 172])   (AC.seq (AC.reg zq0_21 [173, 174, 175, 176, 177, 178, 179, 180, 181, 182, 183, 184, 185])   (AC.cond (Arg.t 186)   (AC.seq (AC.reg zq0_22 [])   AC.ret)   AC.skip)))))   (AC.reg zq0_23 [187])))) fr σ (seqQ (fun fr σ => ∃ fr' σ', Shift G 189 0 fr σ fr' σ' ∧ slJ F.fmt v0 v1 op a ns (i + 1) fr' σ') slE) := by
  obtain ⟨t, w2, w3, w4, L, hI, f1, f13, f14, f161, f162, f163, rfl⟩ := hJ
  have hl := hI.len
  have hlt := (List.getElem?_eq_some_iff.1 hm).1
  have hg := nints_get hm
  have e2 := w_nx hlt (by omega)
  have hmi := hns m (List.mem_of_getElem? hm)
  refine W_round [(1, .int .u8 op), (13, .ptr 1 v0 0), (14, .int .i64 a), (161, .lst 1 (nints ns) true), (162, .int .i64 ns.length), (163, .int .i64 ((i : Nat) : Int))] ⟨f1, f13, f14, f161, f162, f163, trivial⟩  1000 ?_
  simp -implicitDefEqProofs (disch := omega) only [go_sem, need_of, ↓reduceIte, Nat.reduceEqDiff, Nat.zero_add, decide_true, Nat.le_refl, zq0_18, zq0_19, zq0_20, zq0_21, zq0_22, zq0_23, List.length_cons, List.length_nil, true_implies, and_true, nints_length, hlt, hg]
  refine callPS hT t_proofmarkref04_Fixed (c_rFixed hT op m) rfl 1000 ?_
  cases hk : fixW op m with
  | none =>
    simp -implicitDefEqProofs (disch := omega) only [go_sem, ↓reduceIte, Nat.reduceAdd, Nat.reduceEqDiff, Nat.reduceLT, Nat.zero_add, Option.isSome_none, Option.getD_none, List.length_cons, List.length_nil, Option.getD_none, Option.isSome_none, e2]
    refine ⟨_, _, Shift.refl _ _ _ _, t, w2, w3, w4, L, hI.up List.prefix_rfl hI.gr (by omega), ?_⟩
    simp -implicitDefEqProofs (disch := omega) only [go_sem, ↓reduceIte, Nat.reduceEqDiff, and_true]
  | some n =>
    have hn : i64 n := by
      unfold fixW at hk
      unfold i64
      split at hk
      · cases hk; omega
      · split at hk
        · cases hk; omega
        · split at hk
          · cases hk; omega
          · cases hk
    simp -implicitDefEqProofs (disch := omega) only [go_sem, ↓reduceIte, Nat.reduceAdd, Nat.reduceEqDiff, Nat.reduceLT, Nat.zero_add, Option.isSome_some, Option.getD_some, List.length_cons, List.length_nil, Option.getD_some, Option.isSome_some]
    refine call hT t_norm_Const (k_ConstE hT F hI.gr hmi (by omega)) 1000 fun v σ hv => ?_
    obtain ⟨r, L3, s3, rfl, t3, z2, z3, z4, ht3, rfl⟩ := hv
    have hl3 := s3.len
    have hI3 := hI.up (B' := 80000 + 10000 * i + 1) s3.pre s3.gr (by omega)
    simp -implicitDefEqProofs (disch := omega) only [go_sem, ↓reduceIte, Nat.reduceAdd, Nat.reduceEqDiff]
    refine call hT t_norm_Bin (k_BinE hT F hP 60 hI3.gr hop hI3.pa s3.pl hI3.wa (by rw [wt_num s3.num]; omega) (by omega)) 1000 fun v σ hv => ?_
    obtain ⟨i4, L4, s4, rfl, t4, u2, u3, u4, ht4, rfl⟩ := hv
    have hl4 := s4.len
    have hI4 := hI3.up (B' := 80000 + 10000 * i + 9000) s4.pre s4.gr (by omega)
    simp -implicitDefEqProofs (disch := omega) only [go_sem, ↓reduceIte, Nat.reduceAdd, Nat.reduceEqDiff]
    refine call hT t_norm_Const (k_ConstE hT F hI4.gr hn (by omega)) 1000 fun v σ hv => ?_
    obtain ⟨r2, L5, s5, rfl, t5, y2, y3, y4, ht5, rfl⟩ := hv
    have hl5 := s5.len
    have hI5 := hI4.up (B' := 80000 + 10000 * (i + 1)) s5.pre s5.gr (by omega)
    have e := num_uniq hI5.gr.ok hI5.gr.one ((numI_ext s5.pre s4.pl.inn).trans (fixE hI4.gr.ok hop hI4.pa.inn hk (Ec.of ((numI_ext s4.pre (in_num s3.num)).trans s3.num) s4.bn))) s5.num
    subst e
    simp -implicitDefEqProofs (disch := omega) only [go_sem, ↓reduceIte, Nat.reduceAdd, Nat.reduceEqDiff, bne_self_eq_false, bne_self_eq_false, e2]
    refine ⟨_, _, Shift.refl _ _ _ _, t5, y2, y3, y4, L5, hI5, ?_⟩
    simp -implicitDefEqProofs (disch := omega) only [go_sem, ↓reduceIte, Nat.reduceEqDiff, and_true]
theorem c_NormSame (hT : TabOk P tab) (F : Fmt P G) (SO : SortOk P) (hP : Bits P G) (hW : Pure P G n_proofmarklaw04_works [] fun v => v = .bool true) {t : Nat} (l : List Nd) (tl : Bool) (hl : ∀ d ∈ l, i64 d.n ∧ i64 d.a)
    (op x y c d : Int) (ho : 0 ≤ op ∧ op ≤ 255) (hc : i64 c) (hd : i64 d) :
   C P G 0 n_proofmarklaw04_NormSame [.lst 6 (l.map fun d => .agg d.cells) tl, .int .u8 op, .int .i64 x, .int .i64 y, .int .i64 c, .int .i64 d] ⟨t, []⟩ fun v _ => v = .bool true := by
  have hkn := c_rKnown (P := P) (G := G) hT op
  refine C_tab hT t_proofmarklaw04_NormSame (by simp [proofmarklaw04_NormSame]) (W_run 1000 ?_)
  by_cases h1 : (30 : Int) < l.length
  · simp -implicitDefEqProofs (disch := omega) only [go_sem, ↓reduceIte, reduceCtorEq, Nat.reduceAdd, Nat.reduceEqDiff, Nat.zero_add, decide_true, gt_iff_lt, proofmarklaw04_NormSame, zq0_0, zq0_1, zq0_2, zq0_3, zq0_4, zq0_5, zq0_6, zq0_7, zq0_8, zq0_9, zq0_10, zq0_11, zq0_12, zq0_13, zq0_14, zq0_15, zq0_16, zq0_17, zq0_18, zq0_19, zq0_20, zq0_21, zq0_22, zq0_23, zq0_24, List.length_map, h1]
    refine callPS hT t_proofmarklaw04_works hW rfl 1000 ?_
    simp -implicitDefEqProofs (disch := omega) only [go_sem, ↓reduceIte, reduceCtorEq, Nat.reduceEqDiff]
  · simp -implicitDefEqProofs (disch := omega) only [go_sem, ↓reduceIte, reduceCtorEq, Nat.reduceAdd, Nat.reduceEqDiff, Nat.zero_add, decide_false, gt_iff_lt, proofmarklaw04_NormSame, zq0_0, zq0_1, zq0_2, zq0_3, zq0_4, zq0_5, zq0_6, zq0_7, zq0_8, zq0_9, zq0_10, zq0_11, zq0_12, zq0_13, zq0_14, zq0_15, zq0_16, zq0_17, zq0_18, zq0_19, zq0_20, zq0_21, zq0_22, zq0_23, zq0_24, List.length_map, h1]
    refine call hT t_proofmarklaw04_plains (c_plains hT F SO hP l tl hl (by omega) x y 0) 1000 fun v σ hv => ?_
    obtain ⟨v0, v1, v2, v3, v4, c1, L, a, b, z, ok, hc1, rfl, rfl, hpl⟩ := hv
    cases ok with
    | false =>
      simp -implicitDefEqProofs (disch := omega) only [go_sem, ↓reduceIte, reduceCtorEq, Nat.reduceAdd, Nat.reduceEqDiff, Nat.reduceLT, Nat.zero_add, Bool.not_false, List.length_cons, List.length_nil]
      refine callPS hT t_proofmarklaw04_works hW rfl 1000 ?_
      simp -implicitDefEqProofs (disch := omega) only [go_sem, ↓reduceIte, reduceCtorEq, Nat.reduceEqDiff]
    | true =>
      have hpl := hpl rfl
      by_cases hop : 1 ≤ op ∧ op ≤ 16
      · rw [show decide (1 ≤ op ∧ op ≤ 16) = true by simpa using hop] at hkn
        simp -implicitDefEqProofs (disch := omega) only [go_sem, ↓reduceIte, reduceCtorEq, Nat.reduceAdd, Nat.reduceEqDiff, Nat.reduceLT, Nat.zero_add, Bool.not_true, List.length_cons, List.length_nil]
        refine callPS hT t_proofmarkref01_Known hkn rfl 1000 ?_
        have hll := hpl.len
        simp -implicitDefEqProofs (disch := omega) only [go_sem, ↓reduceIte, reduceCtorEq, Nat.reduceAdd, Nat.reduceEqDiff, Bool.not_true]
        refine call hT t_norm_Const (k_ConstE hT F hpl.gr hc (by omega)) 1000 fun v σ hv => ?_
        obtain ⟨p, L1, s1, rfl, c2, w2, w3, w4, hc2, rfl⟩ := hv
        have hl1 := s1.len
        simp -implicitDefEqProofs (disch := omega) only [go_sem, ↓reduceIte, reduceCtorEq, Nat.reduceEqDiff]
        refine call hT t_norm_Const (k_ConstE hT F s1.gr hd (by omega)) 4 fun v σ hv => ?_
        obtain ⟨q, L2, s2, rfl, c3, x2, x3, x4, hc3, rfl⟩ := hv
        have hl2 := s2.len
        simp -implicitDefEqProofs (disch := omega) only [go_sem, ↓reduceIte, reduceCtorEq, Nat.reduceEqDiff]
        have hI2 : SameI a b p q c d 45002 L2 := ⟨s2.gr, (hpl.pa.up hpl.gr.ok s1.pre).up s1.gr.ok s2.pre, (hpl.pb.up hpl.gr.ok s1.pre).up s1.gr.ok s2.pre, (numI_ext s2.pre (in_num s1.num)).trans s1.num, s2.num, by rw [wt_ext s2.pre (hpl.pa.up hpl.gr.ok s1.pre).inn, wt_ext s1.pre hpl.pa.inn]; exact hpl.wa, by rw [wt_ext s2.pre (hpl.pb.up hpl.gr.ok s1.pre).inn, wt_ext s1.pre hpl.pb.inn]; exact hpl.wb, by omega⟩
        refine sem_cut (saJ F.fmt v0 v1 op a b p q c d 50000) ?_ fun fr σ hJ => ?_
        · refine same_1 hT F hP hop hc hd hI2 ?_
          simp -implicitDefEqProofs (disch := omega) only [go_sem, ↓reduceIte, reduceCtorEq, Nat.reduceEqDiff]
        obtain ⟨t1, w2, w3, w4, L, hI, f1, f4, f5, f13, f14, f15, f18, f19, rfl⟩ := hJ
        refine sem_slots [(1, .int .u8 op), (4, .int .i64 c), (5, .int .i64 d), (13, .ptr 1 v0 0), (14, .int .i64 a), (15, .int .i64 b), (18, .int .i64 p), (19, .int .i64 q)] ⟨f1, f4, f5, f13, f14, f15, f18, f19, trivial⟩ (run_sem 1 ?_)
        simp -implicitDefEqProofs (disch := omega) only [go_sem]
        refine sem_cut (saJ F.fmt v0 v1 op a b p q c d 60000) ?_ fun fr σ hJ => ?_
        · refine same_2 hT F hP hop hc hd hI ?_
          simp -implicitDefEqProofs (disch := omega) only [go_sem, ↓reduceIte, Nat.reduceEqDiff]
        clear hI f1 f4 f5 f13 f14 f15 f18 f19
        obtain ⟨t2, w2, w3, w4, L, hI, f1, f4, f5, f13, f14, f15, f18, f19, rfl⟩ := hJ
        refine sem_slots [(1, .int .u8 op), (4, .int .i64 c), (5, .int .i64 d), (13, .ptr 1 v0 0), (14, .int .i64 a), (15, .int .i64 b), (18, .int .i64 p), (19, .int .i64 q)] ⟨f1, f4, f5, f13, f14, f15, f18, f19, trivial⟩ (run_sem 1000 ?_)
        simp -implicitDefEqProofs (disch := omega) only [go_sem, ↓reduceIte, Nat.reduceEqDiff]
        refine callPS hT t_word_Keeps (c_Keeps hT hop) rfl 7 ?_
        simp -implicitDefEqProofs (disch := omega) only [go_sem, ↓reduceIte, Nat.reduceAdd, Nat.reduceEqDiff, Nat.reduceLT, Nat.zero_add, List.length_cons, List.length_nil]
        refine sem_cut (saJ F.fmt v0 v1 op a b p q c d 70000) ?_ fun fr σ hJ => ?_
        · refine same_3 hT F hP hop hI ?_
          simp -implicitDefEqProofs (disch := omega) only [go_sem, ↓reduceIte, Nat.reduceEqDiff]
        clear hI f1 f4 f5 f13 f14 f15 f18 f19
        obtain ⟨t3, w2, w3, w4, L, hI, f1, f4, f5, f13, f14, f15, f18, f19, rfl⟩ := hJ
        refine sem_slots [(1, .int .u8 op), (4, .int .i64 c), (5, .int .i64 d), (13, .ptr 1 v0 0), (14, .int .i64 a), (15, .int .i64 b), (18, .int .i64 p), (19, .int .i64 q)] ⟨f1, f4, f5, f13, f14, f15, f18, f19, trivial⟩ (run_sem 1000 ?_)
        simp -implicitDefEqProofs (disch := omega) only [go_sem, ↓reduceIte, Nat.reduceEqDiff]
        refine callPS hT t_proofmarkref04_Zero (c_rZero hT op) rfl 7 ?_
        simp -implicitDefEqProofs (disch := omega) only [go_sem, ↓reduceIte, Nat.reduceAdd, Nat.reduceEqDiff, Nat.reduceLT, Nat.zero_add, List.length_cons, List.length_nil]
        refine sem_cut (saJ F.fmt v0 v1 op a b p q c d 80000) ?_ fun fr σ hJ => ?_
        · refine same_4 hT F hP hop hI ?_
          simp -implicitDefEqProofs (disch := omega) only [go_sem, ↓reduceIte, Nat.reduceEqDiff]
        clear hI f1 f4 f5 f13 f14 f15 f18 f19
        obtain ⟨t4, w2, w3, w4, L, hI, f1, f4, f5, f13, f14, f15, f18, f19, rfl⟩ := hJ
        refine sem_slots [(1, .int .u8 op), (4, .int .i64 c), (5, .int .i64 d), (13, .ptr 1 v0 0), (14, .int .i64 a), (15, .int .i64 b), (18, .int .i64 p), (19, .int .i64 q)] ⟨f1, f4, f5, f13, f14, f15, f18, f19, trivial⟩ (run_sem 1000 ?_)
        simp -implicitDefEqProofs (disch := omega) only [go_sem, ↓reduceIte, Nat.reduceAdd, Nat.reduceEqDiff, Nat.reduceLeDiff, Nat.zero_add, Nat.le_refl, List.length_cons, List.length_nil, List.cons_append, List.nil_append, List.take_succ_cons, List.take_zero, and_true]
        have hns : ∀ n ∈ [0, 1, -1, c], i64 n := by
          intro n hn
          simp at hn
          rcases hn with rfl | rfl | rfl | rfl
          · unfold i64; omega
          · unfold i64; omega
          · unfold i64; omega
          · exact hc
        refine sem_for [0, 1, -1, c] (slJ F.fmt v0 v1 op a [0, 1, -1, c]) slE ?_ (fun i m hm fr σ hJ => same_5 hT F hP hop hns (by simp) i m hm fr σ hJ) (fun i hi fr σ hJ => ?_) (fun e fr σ hE => ?_)
        · refine ⟨t4, w2, w3, w4, L, ⟨hI.gr, hI.pa, hI.wa, by have := hI.len; omega⟩, ?_⟩
          simp -implicitDefEqProofs (disch := omega) only [go_sem, ↓reduceIte, Nat.reduceAdd, Nat.reduceEqDiff, Nat.zero_add, List.length_cons, List.length_nil, true_and, and_true]
          exact ⟨rfl, rfl⟩
        · obtain ⟨t, w2, w3, w4, L, hI, f1, f13, f14, f161, f162, f163, rfl⟩ := hJ
          subst hi
          refine W_round [(1, .int .u8 op), (13, .ptr 1 v0 0), (14, .int .i64 a), (161, .lst 1 (nints [0, 1, -1, c]) true), (162, .int .i64 ((4 : Nat) : Int)), (163, .int .i64 ((4 : Nat) : Int))] ⟨f1, f13, f14, f161, f162, f163, trivial⟩ 1000 ?_
          simp -implicitDefEqProofs (disch := omega) only [go_sem, ↓reduceIte, Nat.reduceEqDiff, decide_false, Nat.lt_irrefl]
        · subst hE
          refine run_sem 1000 ?_
          simp -implicitDefEqProofs (disch := omega) only [go_sem, ↓reduceIte]
          refine callPS hT t_proofmarklaw04_works hW rfl 1000 ?_
          simp -implicitDefEqProofs (disch := omega) only [go_sem, ↓reduceIte, Nat.reduceEqDiff]
      · rw [show decide (1 ≤ op ∧ op ≤ 16) = false by simpa using hop] at hkn
        simp -implicitDefEqProofs (disch := omega) only [go_sem, ↓reduceIte, reduceCtorEq, Nat.reduceAdd, Nat.reduceEqDiff, Nat.reduceLT, Nat.zero_add, Bool.not_true, List.length_cons, List.length_nil]
        refine callPS hT t_proofmarkref01_Known hkn rfl 1000 ?_
        simp -implicitDefEqProofs (disch := omega) only [go_sem, ↓reduceIte, reduceCtorEq, Nat.reduceAdd, Nat.reduceEqDiff, Bool.not_false]
        refine callPS hT t_proofmarklaw04_works hW rfl 1000 ?_
        simp -implicitDefEqProofs (disch := omega) only [go_sem, ↓reduceIte, reduceCtorEq, Nat.reduceEqDiff]
end Go.Proofs.YtpdeoalocejodaaGreatDoor
