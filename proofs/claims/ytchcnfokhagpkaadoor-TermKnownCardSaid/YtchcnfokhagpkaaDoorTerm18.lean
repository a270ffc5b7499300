/- The document's graph: how long, Text. -/
import Derived.Test.YtchcnfokhagpkaaDoorTerm17
namespace Go.Proofs.YtchcnfokhagpkaaDoor
open Go Go.Am
set_option maxRecDepth 100000
set_option maxHeartbeats 1000000
variable {P : Program} {G : Nat → Option V}

/-- The document's count of a text's bytes. -/
def longR (fmt : Int → List UInt8) (L : List Nd) : Nat → Int → Int
  | 0, _ => 0
  | f + 1, r => match (L.getD r.toNat zeroNd).parts with
    | [] => (((L.getD r.toNat zeroNd).words fmt [] []).length : Int)
    | [y] => min 100000 ((((L.getD r.toNat zeroNd).words fmt [] []).length : Int) + longR fmt L f y)
    | x :: y :: _ => min 100000 ((((L.getD r.toNat zeroNd).words fmt [] []).length : Int) + longR fmt L f x + longR fmt L f y)

theorem words_sm {P : Program} {G : Nat → Option V} (F : Fmt P G) {d : Nd} (ho : 0 ≤ d.op ∧ d.op ≤ 16) : (d.words F.fmt [] []).length ≤ 60 := by
  have l1 := F.le d.n
  have l2 := F.le d.a
  have l3 := signs_le ho
  unfold Nd.words
  split
  · omega
  · split
    · simp; omega
    · split <;> (simp [-List.getD_eq_getElem?_getD]; omega)

theorem longR_law {P : Program} {G : Nat → Option V} (F : Fmt P G) {L : List Nd} (hok : okN L) : ∀ (f : Nat) (r : Int), 0 ≤ r → r < L.length → r.toNat < f →
    0 ≤ longR F.fmt L f r ∧ longR F.fmt L f r ≤ 100000 ∧ (longR F.fmt L f r ≤ 65536 → longR F.fmt L f r = (longs F.fmt L).getD r.toNat 0) ∧ (65536 < longR F.fmt L f r → 65536 < (longs F.fmt L).getD r.toNat 0) := by
  intro f
  induction f with
  | zero => intro r h0 h1 h; omega
  | succ f ih =>
    intro r h0 h1 hf
    obtain ⟨d, hd⟩ : ∃ d, L[r.toNat]? = some d := ⟨_, List.getElem?_eq_getElem (by omega)⟩
    obtain ⟨hp, hop, hk⟩ := may_parts (hok _ d hd).2.2
    have hw := words_sm F hop
    have hg : L.getD r.toNat zeroNd = d := by simp [List.getD_eq_getElem?_getD, hd]
    have hlt : r.toNat < L.length := by omega
    have hle : r.toNat ≤ L.length := by omega
    rw [longs_at F.fmt hd]
    rcases hk with k | k | k | k
    · have hps : d.parts = [] := by simp [Nd.parts, k]
      simp only [longR, hg, hps, longF, longA, List.foldl_nil]
      split <;> omega
    · have hps : d.parts = [] := by simp [Nd.parts, k]
      simp only [longR, hg, hps, longF, longA, List.foldl_nil]
      split <;> omega
    · have hps : d.parts = [d.y] := by simp [Nd.parts, k]
      have hy := hp d.y (by simp [hps])
      have iy := ih d.y (by omega) (by omega) (by omega)
      have ty := longs_take F.fmt (L := L) (i := r.toNat) (p := d.y.toNat) (by omega) hle
      have ny := nnN F.fmt L d.y.toNat
      simp only [longR, hg, hps, longF, longA, List.foldl_nil, List.foldl_cons, ty]
      split <;> omega
    · have hps : d.parts = [d.x, d.y] := by simp [Nd.parts, k]
      have hy := hp d.y (by simp [hps])
      have iy := ih d.y (by omega) (by omega) (by omega)
      have ty := longs_take F.fmt (L := L) (i := r.toNat) (p := d.y.toNat) (by omega) hle
      have hx := hp d.x (by simp [hps])
      have ix := ih d.x (by omega) (by omega) (by omega)
      have tx := longs_take F.fmt (L := L) (i := r.toNat) (p := d.x.toNat) (by omega) hle
      have ny := nnN F.fmt L d.y.toNat
      have nx := nnN F.fmt L d.x.toNat
      simp only [longR, hg, hps, longF, longA, List.foldl_nil, List.foldl_cons, ty, tx]
      split <;> omega

theorem r_Long (hT : TabOk P tab) (F : Fmt P G) {w0 w1 : Nat} {L : List Nd} (hL : L.length ≤ 1000) (hok : okN L) : ∀ (f : Nat) (r : Int) (t : Nat), 0 ≤ r → r < L.length → r.toNat < f →
   C P G 2 n_proofmarkref02_Graph_Long [.ptr 0 w0 0, .int .i64 r] ⟨t, mH w0 w1 L⟩ fun v σ => v = .int .i64 (longR F.fmt L f r) ∧ ∃ t', t ≤ t' ∧ σ = ⟨t', mH w0 w1 L⟩ := by
  intro f
  induction f with
  | zero => intro r t h0 h1 h; omega
  | succ f ih =>
    intro r t h0 h1 hf
    have hl := ndC_length L
    obtain ⟨d, hd⟩ : ∃ d, L[r.toNat]? = some d := ⟨_, List.getElem?_eq_getElem (by omega)⟩
    have hc := ndC_get hd
    have hlen : r.toNat < L.length := by omega
    have h6 : r.toNat * 6 + 6 ≤ (ndC L).length := by omega
    obtain ⟨hdn, hda, hdm⟩ := hok _ d hd
    obtain ⟨hp, hop, hk⟩ := may_parts hdm
    have hg : L.getD r.toNat zeroNd = d := by simp [List.getD_eq_getElem?_getD, hd]
    have l1 := F.le d.n
    have l2 := F.le d.a
    have l3 := signs_le hop
    have hw := words_sm F hop
    refine C_keep 2 (Nat.le_refl _) (C_tab hT t_proofmarkref02_Graph_Long (by simp [proofmarkref02_Graph_Long]) (W_run 1000 ?_))
    rcases hk with k | k | k | k
    · have hps : d.parts = [] := by simp [Nd.parts, k]
      have hN : (longs F.fmt L).getD r.toNat 0 ≤ 65536 := by
        rw [longs_at F.fmt hd]; simp only [hps, longF, longA, List.foldl_nil]; split <;> omega
      have htx := texts_at F.fmt hd
      rw [words_congr F.fmt d (x' := []) (y' := []) (by omega) (.inl k)] at htx
      simp -implicitDefEqProofs (disch := omega) only [go_sem, ↓reduceIte, reduceCtorEq, Nat.reduceAdd, Nat.reduceEqDiff, Nat.reduceLeDiff, Nat.zero_add, Nat.add_zero, Bool.not_false, Nat.le_refl, proofmarkref02_Graph_Long, proofmarkref02_Graph_Long_r0, proofmarkref02_Graph_Long_r1, proofmarkref02_Graph_Long_r2, proofmarkref02_Graph_Long_r3, proofmarkref02_Graph_Long_r4, proofmarkref02_Graph_Long_r5, proofmarkref02_Graph_Long_r6, proofmarkref02_Graph_Long_r7, mH0_len, List.length_cons, List.length_nil, mH0_0, mH0_1, mH_2, mHs_2, h0, hlen, hc, h6, Nd.cells, k, Int.reduceBEq]
      refine callT hT t_proofmarkref02_Graph_text (m_read (r_text hT F hL hok (r.toNat + 1) r _ h0 h1 (by omega) hN) rfl rfl) 1000 fun t3 ht3 => ?_
      simp -implicitDefEqProofs (disch := omega) only [go_sem, ↓reduceIte, reduceCtorEq, Nat.reduceAdd, Nat.reduceEqDiff, Nat.reduceLeDiff, Nat.zero_add, mH_len, mH_take, List.length_cons, List.length_nil]
      exact ⟨by rw [htx]; simp only [longR, hg, hps], _, by omega, rfl⟩
    · have hps : d.parts = [] := by simp [Nd.parts, k]
      have hN : (longs F.fmt L).getD r.toNat 0 ≤ 65536 := by
        rw [longs_at F.fmt hd]; simp only [hps, longF, longA, List.foldl_nil]; split <;> omega
      have htx := texts_at F.fmt hd
      rw [words_congr F.fmt d (x' := []) (y' := []) (by omega) (.inr (.inl k))] at htx
      simp -implicitDefEqProofs (disch := omega) only [go_sem, ↓reduceIte, reduceCtorEq, Nat.reduceAdd, Nat.reduceEqDiff, Nat.reduceLeDiff, Nat.zero_add, Nat.add_zero, Bool.not_false, Nat.le_refl, proofmarkref02_Graph_Long, proofmarkref02_Graph_Long_r0, proofmarkref02_Graph_Long_r1, proofmarkref02_Graph_Long_r2, proofmarkref02_Graph_Long_r3, proofmarkref02_Graph_Long_r4, proofmarkref02_Graph_Long_r5, proofmarkref02_Graph_Long_r6, proofmarkref02_Graph_Long_r7, mH0_len, List.length_cons, List.length_nil, mH0_0, mH0_1, mH_2, mHs_2, h0, hlen, hc, h6, Nd.cells, k, Int.reduceBEq]
      refine callT hT t_proofmarkref02_Graph_text (m_read (r_text hT F hL hok (r.toNat + 1) r _ h0 h1 (by omega) hN) rfl rfl) 1000 fun t3 ht3 => ?_
      simp -implicitDefEqProofs (disch := omega) only [go_sem, ↓reduceIte, reduceCtorEq, Nat.reduceAdd, Nat.reduceEqDiff, Nat.reduceLeDiff, Nat.zero_add, mH_len, mH_take, List.length_cons, List.length_nil]
      exact ⟨by rw [htx]; simp only [longR, hg, hps], _, by omega, rfl⟩
    · have hps : d.parts = [d.y] := by simp [Nd.parts, k]
      have hy := hp d.y (by simp [hps])
      have iy := longR_law F hok f d.y (by omega) (by omega) (by omega)
      have hw1 : IntKind.i64.wrap (4 + ((F.fmt d.a).length : Int)) = 4 + ((F.fmt d.a).length : Int) := wrap_i64 (by omega) (by omega)
      have hw2 : IntKind.i64.wrap (4 + ((F.fmt d.a).length : Int) + ((F.fmt d.n).length : Int)) = 4 + ((F.fmt d.a).length : Int) + ((F.fmt d.n).length : Int) := wrap_i64 (by omega) (by omega)
      have hw3 : IntKind.i64.wrap (4 + ((F.fmt d.a).length : Int) + ((F.fmt d.n).length : Int) + longR F.fmt L f d.y) = 4 + ((F.fmt d.a).length : Int) + ((F.fmt d.n).length : Int) + longR F.fmt L f d.y := wrap_i64 (by omega) (by omega)
      have hwd : (d.words F.fmt [] []).length = 4 + (F.fmt d.a).length + (F.fmt d.n).length := by simp [Nd.words, k]; omega
      simp -implicitDefEqProofs (disch := omega) only [go_sem, ↓reduceIte, reduceCtorEq, Nat.reduceAdd, Nat.reduceEqDiff, Nat.reduceLeDiff, Nat.zero_add, Nat.add_zero, Bool.not_false, Nat.le_refl, beq_self_eq_true, proofmarkref02_Graph_Long, proofmarkref02_Graph_Long_r0, proofmarkref02_Graph_Long_r1, proofmarkref02_Graph_Long_r2, proofmarkref02_Graph_Long_r3, proofmarkref02_Graph_Long_r4, proofmarkref02_Graph_Long_r5, proofmarkref02_Graph_Long_r6, proofmarkref02_Graph_Long_r7, mH_len, mH0_len, List.length_cons, List.length_nil, mH0_0, mH0_1, mH_2, mHs_2, h0, hlen, hc, h6, Nd.cells, k]
      refine callPS hT t_strconv_Itoa (F.itoa d.a hda.1 hda.2) rfl 1000 ?_
      simp -implicitDefEqProofs (disch := omega) only [go_sem, ↓reduceIte, reduceCtorEq, Nat.reduceAdd, Nat.reduceEqDiff, Nat.zero_add, mH_len, List.length_cons, List.length_nil, hw1]
      refine callPS hT t_strconv_FormatInt (F.int d.n hdn.1 hdn.2) rfl 1000 ?_
      simp -implicitDefEqProofs (disch := omega) only [go_sem, ↓reduceIte, reduceCtorEq, Nat.reduceEqDiff, hw2]
      refine callT hT t_proofmarkref02_Graph_Long (m_read (ih d.y _ (by omega) (by omega) (by omega)) rfl rfl) 1000 fun t3 ht3 => ?_
      simp -implicitDefEqProofs (disch := omega) only [go_sem, ↓reduceIte, reduceCtorEq, Nat.reduceAdd, Nat.reduceEqDiff, Nat.reduceLeDiff, Nat.zero_add, mH_len, mH_take, List.length_cons, List.length_nil, hw3]
      refine ⟨?_, _, by omega, rfl⟩
      simp only [longR, hg, hps, hwd]
      congr 1
      omega
    · have hps : d.parts = [d.x, d.y] := by simp [Nd.parts, k]
      have hy := hp d.y (by simp [hps])
      have iy := longR_law F hok f d.y (by omega) (by omega) (by omega)
      have hx := hp d.x (by simp [hps])
      have ix := longR_law F hok f d.x (by omega) (by omega) (by omega)
      have hw1 : IntKind.i64.wrap (4 + ((signs.getD d.op.toNat []).length : Int)) = 4 + ((signs.getD d.op.toNat []).length : Int) := wrap_i64 (by omega) (by omega)
      have hw2 : IntKind.i64.wrap (4 + ((signs.getD d.op.toNat []).length : Int) + longR F.fmt L f d.x) = 4 + ((signs.getD d.op.toNat []).length : Int) + longR F.fmt L f d.x := wrap_i64 (by omega) (by omega)
      have hw3 : IntKind.i64.wrap (4 + ((signs.getD d.op.toNat []).length : Int) + longR F.fmt L f d.x + longR F.fmt L f d.y) = 4 + ((signs.getD d.op.toNat []).length : Int) + longR F.fmt L f d.x + longR F.fmt L f d.y := wrap_i64 (by omega) (by omega)
      have hwd : (d.words F.fmt [] []).length = 4 + (signs.getD d.op.toNat []).length := by simp [Nd.words, k]; omega
      simp -implicitDefEqProofs (disch := omega) only [go_sem, ↓reduceIte, reduceCtorEq, Nat.reduceAdd, Nat.reduceEqDiff, Nat.reduceLeDiff, Nat.zero_add, Nat.add_zero, Bool.not_false, Nat.le_refl, beq_self_eq_true, proofmarkref02_Graph_Long, proofmarkref02_Graph_Long_r0, proofmarkref02_Graph_Long_r1, proofmarkref02_Graph_Long_r2, proofmarkref02_Graph_Long_r3, proofmarkref02_Graph_Long_r4, proofmarkref02_Graph_Long_r5, proofmarkref02_Graph_Long_r6, proofmarkref02_Graph_Long_r7, mH_len, mH0_len, List.length_cons, List.length_nil, mH0_0, mH0_1, mH_2, mHs_2, h0, hlen, hc, h6, Nd.cells, k, Int.reduceBEq]
      refine callPS hT t_proofmarkref02_Sign (c_Sign hT d.op hop.1 hop.2) rfl 1000 ?_
      simp -implicitDefEqProofs (disch := omega) only [go_sem, ↓reduceIte, reduceCtorEq, Nat.reduceAdd, Nat.reduceEqDiff, Nat.zero_add, mH_len, List.length_cons, List.length_nil, hw1]
      refine callT hT t_proofmarkref02_Graph_Long (m_read (ih d.x _ (by omega) (by omega) (by omega)) rfl rfl) 1000 fun t3 ht3 => ?_
      simp -implicitDefEqProofs (disch := omega) only [go_sem, ↓reduceIte, reduceCtorEq, Nat.reduceEqDiff, hw2]
      refine callT hT t_proofmarkref02_Graph_Long (m_read (ih d.y _ (by omega) (by omega) (by omega)) rfl rfl) 1000 fun t4 ht4 => ?_
      simp -implicitDefEqProofs (disch := omega) only [go_sem, ↓reduceIte, reduceCtorEq, Nat.reduceAdd, Nat.reduceEqDiff, Nat.reduceLeDiff, Nat.zero_add, mH_len, mH_take, List.length_cons, List.length_nil, hw3]
      refine ⟨?_, _, by omega, rfl⟩
      simp only [longR, hg, hps, hwd]
      congr 1
      omega

theorem r_Text (hT : TabOk P tab) (F : Fmt P G) {w0 w1 : Nat} {L : List Nd} (hL : L.length ≤ 1000) (hok : okN L) (id : Int) (t : Nat) :
   C P G 2 n_proofmarkref02_Graph_Text [.ptr 0 w0 0, .int .i64 id] ⟨t, mH w0 w1 L⟩ fun v σ => v = .str (textL F.fmt L id) ∧ ∃ t', t ≤ t' ∧ σ = ⟨t', mH w0 w1 L⟩ := by
  have hl := ndC_length L
  refine C_keep 2 (Nat.le_refl _) (C_tab hT t_proofmarkref02_Graph_Text (by simp [proofmarkref02_Graph_Text]) (W_run 1000 ?_))
  by_cases h : 0 ≤ id ∧ id < L.length
  · have hlw := longR_law F hok (id.toNat + 1) id h.1 h.2 (by omega)
    simp -implicitDefEqProofs (disch := omega) only [go_sem, ↓reduceIte, reduceCtorEq, Nat.reduceEqDiff, Nat.zero_add, Nat.add_zero, Nat.le_refl, proofmarkref02_Graph_Text, proofmarkref02_Graph_Text_r0, proofmarkref02_Graph_Text_r1, proofmarkref02_Graph_Text_r2, proofmarkref02_Graph_Text_r3, List.length_cons, List.length_nil, mH0_0]
    refine callPS hT t_proofmarkref02_has (c_has hT _ _) rfl 1000 ?_
    simp -implicitDefEqProofs (disch := omega) only [go_sem, ↓reduceIte, reduceCtorEq, Nat.reduceAdd, Nat.reduceEqDiff, decide_true, Bool.not_true, h, ↓reduceIte]
    refine callT hT t_proofmarkref02_Graph_Long (r_Long hT F hL hok (id.toNat + 1) id _ h.1 h.2 (by omega)) 1000 fun t3 ht3 => ?_
    by_cases hN : longR F.fmt L (id.toNat + 1) id ≤ 65536
    · have hN2 : (longs F.fmt L).getD id.toNat 0 ≤ 65536 := by have := hlw.2.2.1 hN; omega
      simp -implicitDefEqProofs (disch := omega) only [go_sem, ↓reduceIte, reduceCtorEq, Nat.reduceAdd, Nat.reduceEqDiff, decide_false, gt_iff_lt, show ¬ 65536 < longR F.fmt L (id.toNat + 1) id from by omega]
      refine callT hT t_proofmarkref02_Graph_text (r_text hT F hL hok (id.toNat + 1) id _ h.1 h.2 (by omega) hN2) 1000 fun t4 ht4 => ?_
      simp -implicitDefEqProofs (disch := omega) only [go_sem, ↓reduceIte, reduceCtorEq, Nat.reduceEqDiff, Nat.le_refl, mH0_len, mH0_take]
      exact ⟨by rw [textL, if_pos ⟨h, hN2⟩], _, by omega, rfl⟩
    · have hN2 : ¬ (longs F.fmt L).getD id.toNat 0 ≤ 65536 := by have := hlw.2.2.2 (by omega); omega
      simp -implicitDefEqProofs (disch := omega) only [go_sem, ↓reduceIte, reduceCtorEq, Nat.reduceAdd, Nat.reduceEqDiff, decide_true, Nat.le_refl, gt_iff_lt, mH0_len, mH0_take, show 65536 < longR F.fmt L (id.toNat + 1) id from by omega]
      exact ⟨by rw [textL, if_neg (fun x => hN2 x.2)], _, by omega, rfl⟩
  · simp -implicitDefEqProofs (disch := omega) only [go_sem, ↓reduceIte, reduceCtorEq, Nat.reduceEqDiff, Nat.zero_add, Nat.add_zero, Nat.le_refl, proofmarkref02_Graph_Text, proofmarkref02_Graph_Text_r0, proofmarkref02_Graph_Text_r1, proofmarkref02_Graph_Text_r2, proofmarkref02_Graph_Text_r3, List.length_cons, List.length_nil, mH0_0]
    refine callPS hT t_proofmarkref02_has (c_has hT _ _) rfl 1000 ?_
    simp -implicitDefEqProofs (disch := omega) only [go_sem, ↓reduceIte, reduceCtorEq, Nat.reduceEqDiff, decide_false, Bool.not_false, Nat.le_refl, mH0_len, mH0_take, h, ↓reduceIte]
    exact ⟨by rw [textL, if_neg (fun x => h x.1)], _, by omega, rfl⟩
end Go.Proofs.YtchcnfokhagpkaaDoor
