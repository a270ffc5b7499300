/- The law TermGrows: its inner loops. -/
import Derived.Test.YtchcnfokhagpkaaDoorTerm12
import Derived.Test.YtchcnfokhagpkaaDoorAmD
namespace Go.Proofs.YtchcnfokhagpkaaDoor
open Go Go.Am
set_option maxRecDepth 100000
set_option maxHeartbeats 1000000
variable {P : Program} {G : Nat → Option V}

/-- What the variables hold in the law's second half. -/
def gfr (v0 n r8 r9 i : Nat) (U : List Int) (a : Int) (k : Nat) (fr : Fr) : Prop :=
  fget fr 5 = .ptr 1 v0 0 ∧ fget fr 7 = .int .i64 n ∧ fget fr 8 = .sl 5 r8 0 6 n none ∧ fget fr 9 = .sl 6 r9 0 1 n none ∧ fget fr 14 = .int .i64 i ∧ fget fr 15 = .int .i64 i ∧ fget fr 18 = .lst 1 (U.map (V.int .i64)) false ∧ fget fr 19 = .int .i64 a ∧ fget fr 20 = .int .i64 k

theorem tg4 (hT : TabOk P tab) {v0 n r8 r9 i k : Nat} {U W2 : List Int} {a : Int} (hUV : ∀ y ∈ W2, y ∈ U) (hU : U.length ≤ 1000000) (hW : W2.length ≤ 1000000) {σ : H} {Q : AE → Fr → H → Prop} {fr : Fr} (hf : gfr v0 n r8 r9 i U a k fr) (f21 : fget fr 21 = .lst 1 (W2.map (V.int .i64)) false) (f22 : fget fr 22 = .int .i64 0)
    (hQ : ∀ fr', gfr v0 n r8 r9 i U a k fr' → Q (.ex 8) fr' σ) : W P G 172 0 (.loop (AC.seq (AC.seq (AC.reg proofmarklaw02_TermGrows_r36 [152, 153, 154])   (AC.cond (Arg.t 155)   AC.skip   (AC.exit 8)))   (AC.seq (AC.block 9 (AC.seq (AC.reg proofmarklaw02_TermGrows_r37 [158, 159, 160, 161, 162, 163])   (AC.cond (Arg.t 164)   (AC.seq (AC.reg proofmarklaw02_TermGrows_r38 [])   AC.ret)   AC.skip)))   (AC.reg proofmarklaw02_TermGrows_r39 [156, 157])))) fr σ Q := by
  refine sem_invE (s := []) (fun m fr σ' => ∃ j : Nat, j ≤ W2.length ∧ m = W2.length - j ∧ gfr v0 n r8 r9 i U a k fr ∧ fget fr 21 = .lst 1 (W2.map (V.int .i64)) false ∧ fget fr 22 = .int .i64 j ∧ σ' = σ)
    (fun e fr σ' => e = .ex 8 ∧ gfr v0 n r8 r9 i U a k fr ∧ σ' = σ) (m0 := W2.length) ⟨0, Nat.zero_le _, rfl, hf, f21, f22, rfl⟩ (fun m fr σ' hJ => ?_) (fun e fr σ' hE => ?_)
  · clear hf f21 f22
    obtain ⟨j, hj, rfl, ⟨f5, f7, f8, f9, f14, f15, f18, f19, f20⟩, f21, f22, rfl⟩ := hJ
    refine W_run 1000 ?_
    rcases Nat.lt_or_ge j W2.length with hlt | hge
    · obtain ⟨y, hy⟩ : ∃ y, W2[j]? = some y := ⟨_, List.getElem?_eq_getElem hlt⟩
      have hg : (W2.map (V.int .i64)).getD j .any = V.int .i64 y := by simp [List.getD_eq_getElem?_getD, hy]
      have hyU := hUV y (List.mem_of_getElem? hy)
      simp -implicitDefEqProofs (disch := omega) only [go_sem, need_of, ↓reduceIte, Nat.reduceEqDiff, Nat.zero_add, decide_true, Nat.le_refl, proofmarklaw02_TermGrows_r36, proofmarklaw02_TermGrows_r37, proofmarklaw02_TermGrows_r38, proofmarklaw02_TermGrows_r39, List.length_map, f18, f21, f22, hlt, hg]
      refine callPS hT t_proofmarklaw02_in (c_in hT U false y (by omega)) rfl 1000 ?_
      simp -implicitDefEqProofs (disch := omega) only [go_sem, ↓reduceIte, Nat.reduceEqDiff, decide_true, Bool.not_true, f22, hyU]
      refine ⟨W2.length - (j + 1), _, _, by omega, Shift.refl _ _ _ _, j + 1, hlt, rfl, ?_, ?_⟩
      · unfold gfr
        simp -implicitDefEqProofs (disch := omega) only [go_sem, ↓reduceIte, Nat.reduceEqDiff, f5, f7, f8, f9, f14, f15, f18, f19, f20]
      · have hw : IntKind.i64.wrap ((j : Int) + 1) = ((j + 1 : Nat) : Int) := by
          rw [wrap_i64 (by omega) (by omega)]; rfl
        simp -implicitDefEqProofs (disch := omega) only [go_sem, ↓reduceIte, Nat.reduceEqDiff, f21, hw]
    · simp -implicitDefEqProofs (disch := omega) only [go_sem, ↓reduceIte, Nat.reduceEqDiff, decide_false, proofmarklaw02_TermGrows_r36, proofmarklaw02_TermGrows_r37, proofmarklaw02_TermGrows_r38, proofmarklaw02_TermGrows_r39, List.length_map, f21, f22, show ¬ j < W2.length from by omega]
      unfold gfr
      simp -implicitDefEqProofs (disch := omega) only [go_sem, ↓reduceIte, Nat.reduceEqDiff, f5, f7, f8, f9, f14, f15, f18, f19, f20]
  · obtain ⟨rfl, hf, rfl⟩ := hE
    exact hQ fr hf

theorem tg3 (hT : TabOk P tab) (SO : SortOk P) {fmt : Int → List UInt8} {v0 v1 v2 v3 v4 n r8 r9 i t : Nat} {B : List Nd} {ex : List (Option Ob)} {U : List Int} (hB : B.length ≤ 1000) (hok : okN B) (hi : i < B.length) (hU : U = usesL B [(i : Int)]) {Q : AE → Fr → H → Prop} {fr : Fr} (hf : gfr v0 n r8 r9 i U 0 0 fr)
    (hQ : ∀ fr' t', t ≤ t' → gfr v0 n r8 r9 i U (deepA (deeps B) (U.take (U.length - 1))) (U.length - 1) fr' → Q (.ex 6) fr' ⟨t', kG fmt v0 v1 v2 v3 v4 B ++ ex⟩) : W P G 172 0 (.loop (AC.seq (AC.seq (AC.reg proofmarklaw02_TermGrows_r32 [130, 131, 132, 133])   (AC.cond (Arg.t 134)   AC.skip   (AC.exit 6)))   (AC.seq (AC.block 7 (AC.seq (AC.reg proofmarklaw02_TermGrows_r33 [137, 138, 139, 140, 141, 142, 143])   (AC.seq (AC.reg proofmarklaw02_TermGrows_r34 [144, 145, 146, 147, 148, 149, 150, 151])   (AC.seq (AC.reg proofmarklaw02_TermGrows_r35 [])   (AC.block 8 (AC.loop (AC.seq (AC.seq (AC.reg proofmarklaw02_TermGrows_r36 [152, 153, 154])   (AC.cond (Arg.t 155)   AC.skip   (AC.exit 8)))   (AC.seq (AC.block 9 (AC.seq (AC.reg proofmarklaw02_TermGrows_r37 [158, 159, 160, 161, 162, 163])   (AC.cond (Arg.t 164)   (AC.seq (AC.reg proofmarklaw02_TermGrows_r38 [])   AC.ret)   AC.skip)))   (AC.reg proofmarklaw02_TermGrows_r39 [156, 157])))))))))   (AC.reg proofmarklaw02_TermGrows_r40 [135, 136])))) fr ⟨t, kG fmt v0 v1 v2 v3 v4 B ++ ex⟩ Q := by
  have hwf := hok.wf
  have hUo : ∀ x ∈ U, 0 ≤ x ∧ x < B.length := by rw [hU]; exact uses_ok
  have hUl : U.length ≤ B.length := nodup_len _ _ (by rw [hU]; exact uses_nodup) hUo
  have hpos : 0 < U.length := by rw [hU]; exact (uses_last hwf (by omega) (by omega)).1
  have hDb := deeps_bd B
  refine sem_invE (s := []) (fun m fr σ' => ∃ (k t' : Nat), k ≤ U.length - 1 ∧ m = U.length - 1 - k ∧ t ≤ t' ∧ gfr v0 n r8 r9 i U (deepA (deeps B) (U.take k)) k fr ∧ σ' = ⟨t', kG fmt v0 v1 v2 v3 v4 B ++ ex⟩)
    (fun e fr σ' => e = .ex 6 ∧ gfr v0 n r8 r9 i U (deepA (deeps B) (U.take (U.length - 1))) (U.length - 1) fr ∧ ∃ t', t ≤ t' ∧ σ' = ⟨t', kG fmt v0 v1 v2 v3 v4 B ++ ex⟩) (m0 := U.length - 1) ⟨0, t, Nat.zero_le _, rfl, Nat.le_refl _, hf, rfl⟩ (fun m fr σ' hJ => ?_) (fun e fr σ' hE => ?_)
  · clear hf
    obtain ⟨k, t', hk, rfl, ht', ⟨f5, f7, f8, f9, f14, f15, f18, f19, f20⟩, rfl⟩ := hJ
    have hw : IntKind.i64.wrap ((k : Int) + 1) = ((k + 1 : Nat) : Int) := by
      rw [wrap_i64 (by omega) (by omega)]; rfl
    refine W_run 1000 ?_
    rcases Nat.lt_or_ge k (U.length - 1) with hlt | hge
    · obtain ⟨y, hy⟩ : ∃ y, U[k]? = some y := ⟨_, List.getElem?_eq_getElem (by omega)⟩
      have hg : (U.map (V.int .i64)).getD k .any = V.int .i64 y := by simp [List.getD_eq_getElem?_getD, hy]
      have hyU := List.mem_of_getElem? hy
      have hyo := hUo y hyU
      have hkl : k < U.length := by omega
      have hk1 : k + 1 < U.length := by omega
      simp -implicitDefEqProofs (disch := omega) only [go_sem, need_of, ↓reduceIte, Nat.reduceEqDiff, Nat.zero_add, decide_true, Nat.le_refl, proofmarklaw02_TermGrows_r32, proofmarklaw02_TermGrows_r33, proofmarklaw02_TermGrows_r34, proofmarklaw02_TermGrows_r35, proofmarklaw02_TermGrows_r36, proofmarklaw02_TermGrows_r37, proofmarklaw02_TermGrows_r38, proofmarklaw02_TermGrows_r39, proofmarklaw02_TermGrows_r40, List.length_map, f5, f18, f20, hw, hk1, hkl, hg]
      refine callT hT t_term_Graph_Uses (k_Uses hT SO (by omega) hwf [y] 1 true (.inl rfl) (by simp)) 1000 fun t2 ht2 => ?_
      have hyp := uses_pred (L := B) (Q := fun z => z ∈ U) (id := y) (fun z _ _ hz p hp => by rw [hU] at hz ⊢; exact uses_closed hwf hz hp) hyU
      have hyl : (usesL B [y]).length ≤ B.length := nodup_len _ _ uses_nodup uses_ok
      generalize usesL B [y] = W2 at *
      simp -implicitDefEqProofs (disch := omega) only [go_sem, need_of, ↓reduceIte, Nat.reduceEqDiff, Nat.zero_add, Nat.le_refl, List.length_map, f5, f18, f19, f20, hkl, hg]
      refine callT hT t_term_Graph_Deep (k_Deep hT) 1000 fun t3 ht3 => ?_
      simp -implicitDefEqProofs (disch := omega) only [go_sem, ↓reduceIte, Nat.reduceEqDiff, gt_iff_lt, hyo]
      have eA : deepA (deeps B) (U.take (k + 1)) = max (deepA (deeps B) (U.take k)) ((deeps B).getD y.toNat 0) := by
        rw [take_snoc2 hy, deepA, List.foldl_append]; rfl
      refine tg4 hT (v0 := v0) (n := n) (r8 := r8) (r9 := r9) (i := i) (a := deepA (deeps B) (U.take (k + 1))) (k := k) hyp (by omega) (by omega) ?_ (by simp -implicitDefEqProofs (disch := omega) only [go_sem, ↓reduceIte, Nat.reduceEqDiff]) (by simp -implicitDefEqProofs (disch := omega) only [go_sem, ↓reduceIte]) fun fr' hf' => ?_
      · unfold gfr
        rw [eA]
        simp -implicitDefEqProofs (disch := omega) only [go_sem, ↓reduceIte, Nat.reduceEqDiff, f5, f7, f8, f9, f14, f15, f18, f20]
        first | rfl | (congr 1; omega) | (split <;> (congr 1; omega)) | trace_state
      · obtain ⟨g5, g7, g8, g9, g14, g15, g18, g19, g20⟩ := hf'
        refine run_sem 1000 ?_
        simp -implicitDefEqProofs (disch := omega) only [go_sem, ↓reduceIte, g20]
        refine ⟨U.length - 1 - (k + 1), _, _, by omega, Shift.refl _ _ _ _, k + 1, t3, by omega, rfl, by omega, ?_, rfl⟩
        unfold gfr
        simp -implicitDefEqProofs (disch := omega) only [go_sem, ↓reduceIte, Nat.reduceEqDiff, g5, g7, g8, g9, g14, g15, g18, g19, hw]
    · have hk2 : k = U.length - 1 := by omega
      subst hk2
      simp -implicitDefEqProofs (disch := omega) only [go_sem, ↓reduceIte, Nat.reduceEqDiff, decide_false, proofmarklaw02_TermGrows_r32, proofmarklaw02_TermGrows_r33, proofmarklaw02_TermGrows_r34, proofmarklaw02_TermGrows_r35, proofmarklaw02_TermGrows_r36, proofmarklaw02_TermGrows_r37, proofmarklaw02_TermGrows_r38, proofmarklaw02_TermGrows_r39, proofmarklaw02_TermGrows_r40, List.length_map, f18, f20, hw, show ¬ (U.length - 1 + 1 < U.length) from by omega]
      unfold gfr
      simp -implicitDefEqProofs (disch := omega) only [go_sem, ↓reduceIte, Nat.reduceEqDiff, f5, f7, f8, f9, f14, f15, f18, f19, f20]
      exact ⟨t', ht', rfl⟩
  · obtain ⟨rfl, hf, t', ht', rfl⟩ := hE
    exact hQ fr t' ht' hf
end Go.Proofs.YtchcnfokhagpkaaDoor
