/- The law TermGrows: its loops. -/
import Derived.Test.YtchcnfokhagpkaaDoorTerm13
namespace Go.Proofs.YtchcnfokhagpkaaDoor
open Go Go.Am
set_option maxRecDepth 100000
set_option maxHeartbeats 1000000
variable {P : Program} {G : Nat → Option V}

theorem k_NodeAt (hT : TabOk P tab) {base : Nat} {fmt : Int → List UInt8} {v0 v1 v2 v3 v4 t : Nat} {L : List Nd} {ex : List (Option Ob)} {i : Nat} {d : Nd} (hd : L[i]? = some d) :
   C P G base n_term_Graph_Node [.ptr 1 v0 0, .int .i64 i] ⟨t, kG fmt v0 v1 v2 v3 v4 L ++ ex⟩ fun v σ => v = .tup [.agg d.cells, .bool true] ∧ ∃ t', t ≤ t' ∧ σ = ⟨t', kG fmt v0 v1 v2 v3 v4 L ++ ex⟩ := by
  have := k_Node (G := G) hT (base := base) (fmt := fmt) (v0 := v0) (v1 := v1) (v2 := v2) (v3 := v3) (v4 := v4) (t := t) (L := L) (ex := ex) (id := (i : Int))
  have hi := (List.getElem?_eq_some_iff.1 hd).1
  rw [if_pos ⟨by omega, by omega⟩, show L.getD (i : Int).toNat zeroNd = d from by simp [List.getD_eq_getElem?_getD, hd]] at this
  exact this
theorem k_DeepAt (hT : TabOk P tab) {base : Nat} {fmt : Int → List UInt8} {v0 v1 v2 v3 v4 t : Nat} {L : List Nd} {ex : List (Option Ob)} {i : Nat} (hi : i < L.length) :
   C P G base n_term_Graph_Deep [.ptr 1 v0 0, .int .i64 i] ⟨t, kG fmt v0 v1 v2 v3 v4 L ++ ex⟩ fun v σ => v = .int .i64 ((deeps L).getD i 0) ∧ ∃ t', t ≤ t' ∧ σ = ⟨t', kG fmt v0 v1 v2 v3 v4 L ++ ex⟩ := by
  have := k_Deep (G := G) hT (base := base) (fmt := fmt) (v0 := v0) (v1 := v1) (v2 := v2) (v3 := v3) (v4 := v4) (t := t) (L := L) (ex := ex) (id := (i : Int))
  rw [if_pos ⟨by omega, by omega⟩, Int.toNat_natCast] at this
  exact this

def txs (fmt : Int → List UInt8) (A : List Nd) (n : Nat) : List V := (List.range n).map fun (j : Nat) => V.str (textL fmt A (j : Int))

theorem tg2 (hT : TabOk P tab) (F : Fmt P G) (SO : SortOk P) {v0 v1 v2 v3 v4 r8 r9 t : Nat} {A B : List Nd} (hpre : A <+: B) (hB : B.length ≤ 1000) (hok : okN B) {Q : AE → Fr → H → Prop} {fr : Fr} (f5 : fget fr 5 = .ptr 1 v0 0) (f7 : fget fr 7 = .int .i64 A.length) (f8 : fget fr 8 = .sl 5 r8 0 6 A.length none) (f9 : fget fr 9 = .sl 6 r9 0 1 A.length none) (f14 : fget fr 14 = .int .i64 0)
    (hQ : ∀ fr' σ', Q (.ex 4) fr' σ') : W P G 172 0 (.loop (AC.seq (AC.seq (AC.reg proofmarklaw02_TermGrows_r22 [81, 82])   (AC.cond (Arg.t 83)   AC.skip   (AC.exit 4)))   (AC.seq (AC.block 5 (AC.seq (AC.reg proofmarklaw02_TermGrows_r23 [86])   (AC.seq (AC.reg proofmarklaw02_TermGrows_r24 [88, 89, 90, 87, 91, 92])   (AC.seq (AC.seq (AC.reg proofmarklaw02_TermGrows_r25 [93, 94, 95, 96, 97, 98, 99, 100, 101, 102, 103, 104, 105, 106, 107, 108, 109, 110, 111])   (AC.cond (Arg.t 112)   (AC.seq (AC.reg proofmarklaw02_TermGrows_r26 [])   AC.ret)   AC.skip))   (AC.seq (AC.reg proofmarklaw02_TermGrows_r27 [113, 114, 115, 116])   (AC.seq (AC.seq (AC.reg proofmarklaw02_TermGrows_r28 [117, 118, 119, 120, 121, 122, 123, 124, 125, 126, 127, 128])   (AC.cond (Arg.t 129)   (AC.seq (AC.reg proofmarklaw02_TermGrows_r29 [])   AC.ret)   AC.skip))   (AC.seq (AC.reg proofmarklaw02_TermGrows_r30 [])   (AC.seq (AC.seq (AC.reg proofmarklaw02_TermGrows_r31 [])   (AC.block 6 (AC.loop (AC.seq (AC.seq (AC.reg proofmarklaw02_TermGrows_r32 [130, 131, 132, 133])   (AC.cond (Arg.t 134)   AC.skip   (AC.exit 6)))   (AC.seq (AC.block 7 (AC.seq (AC.reg proofmarklaw02_TermGrows_r33 [137, 138, 139, 140, 141, 142, 143])   (AC.seq (AC.reg proofmarklaw02_TermGrows_r34 [144, 145, 146, 147, 148, 149, 150, 151])   (AC.seq (AC.reg proofmarklaw02_TermGrows_r35 [])   (AC.block 8 (AC.loop (AC.seq (AC.seq (AC.reg proofmarklaw02_TermGrows_r36 [152, 153, 154])   (AC.cond (Arg.t 155)   AC.skip   (AC.exit 8)))   (AC.seq (AC.block 9 (AC.seq (AC.reg proofmarklaw02_TermGrows_r37 [158, 159, 160, 161, 162, 163])   (AC.cond (Arg.t 164)   (AC.seq (AC.reg proofmarklaw02_TermGrows_r38 [])   AC.ret)   AC.skip)))   (AC.reg proofmarklaw02_TermGrows_r39 [156, 157])))))))))   (AC.reg proofmarklaw02_TermGrows_r40 [135, 136]))))))   (AC.seq (AC.reg proofmarklaw02_TermGrows_r41 [165, 166, 167, 168, 169])   (AC.cond (Arg.t 170)   (AC.seq (AC.reg proofmarklaw02_TermGrows_r42 [])   AC.ret)   AC.skip))))))))))   (AC.reg proofmarklaw02_TermGrows_r43 [84, 85])))) fr ⟨t, kG F.fmt v0 v1 v2 v3 v4 B ++ [some (.arr r8 34 (ndC A)), some (.arr r9 9 (txs F.fmt A A.length))]⟩ Q := by
  have hAB := hpre.length_le
  have hwf := hok.wf
  refine sem_invE (s := []) (fun m fr σ' => ∃ (i t' : Nat), i ≤ A.length ∧ m = A.length - i ∧ fget fr 5 = .ptr 1 v0 0 ∧ fget fr 7 = .int .i64 A.length ∧ fget fr 8 = .sl 5 r8 0 6 A.length none ∧ fget fr 9 = .sl 6 r9 0 1 A.length none ∧ fget fr 14 = .int .i64 i ∧
       σ' = ⟨t', kG F.fmt v0 v1 v2 v3 v4 B ++ [some (.arr r8 34 (ndC A)), some (.arr r9 9 (txs F.fmt A A.length))]⟩)
    (fun e fr σ' => e = .ex 4) (m0 := A.length) ⟨0, t, Nat.zero_le _, rfl, f5, f7, f8, f9, f14, rfl⟩ (fun m fr σ' hJ => ?_) (fun e fr σ' hE => ?_)
  · clear f5 f7 f8 f9 f14
    obtain ⟨i, t', hi, rfl, f5, f7, f8, f9, f14, rfl⟩ := hJ
    refine W_run 1000 ?_
    rcases Nat.lt_or_ge i A.length with hlt | hge
    · obtain ⟨d, hd⟩ : ∃ d, A[i]? = some d := ⟨_, List.getElem?_eq_getElem hlt⟩
      have hdB : B[i]? = some d := by rw [pre_get hpre hlt]; exact hd
      have hl := ndC_length A
      have hc := ndC_get hd
      have h6 : i * 6 + 6 ≤ (ndC A).length := by omega
      have htx : (txs F.fmt A A.length).length = A.length := by simp [txs]
      have htg : (txs F.fmt A A.length).getD i .any = .str (textL F.fmt A (i : Int)) := by simp [txs, List.getD_eq_getElem?_getD, List.getElem?_range hlt]
      have htp := textL_pre F.fmt hpre hlt
      have hiB : i < B.length := by omega
      have hUd := uses_deep hok (id := (i : Int)) (by omega) (by omega)
      obtain ⟨hUp, hUl⟩ := uses_last hwf (id := (i : Int)) (by omega) (by omega)
      have hUn : (usesL B [(i : Int)]).length ≤ B.length := nodup_len _ _ uses_nodup uses_ok
      obtain ⟨U, hU⟩ : ∃ U, usesL B [(i : Int)] = U := ⟨_, rfl⟩
      rw [hU] at hUd hUp hUl hUn
      have hug : (U.map (V.int .i64)).getD (U.length - 1) .any = V.int .i64 i := by simp [List.getD_eq_getElem?_getD, hUl]
      have hw0 : IntKind.i64.wrap ((U.length : Int) - 1) = ((U.length - 1 : Nat) : Int) := by
        rw [wrap_i64 (by omega) (by omega)]; omega
      have hUne : ¬ (U.length : Int) = 0 := by omega
      have hwi : IntKind.i64.wrap ((i : Int) + 1) = ((i + 1 : Nat) : Int) := by
        rw [wrap_i64 (by omega) (by omega)]; rfl
      have hDb := deepA_bd (deeps_bd B) (by omega) (U.take (U.length - 1))
      have hwd : IntKind.i64.wrap (deepA (deeps B) (U.take (U.length - 1)) + 1) = deepA (deeps B) (U.take (U.length - 1)) + 1 := wrap_i64 (by omega) (by omega)
      rw [Int.toNat_natCast] at hUd
      have hul1 : U.length - 1 < U.length := by omega
      simp -implicitDefEqProofs (disch := omega) only [go_sem, ↓reduceIte, Nat.reduceEqDiff, decide_true, proofmarklaw02_TermGrows_r22, proofmarklaw02_TermGrows_r23, proofmarklaw02_TermGrows_r24, proofmarklaw02_TermGrows_r25, proofmarklaw02_TermGrows_r26, proofmarklaw02_TermGrows_r27, proofmarklaw02_TermGrows_r28, proofmarklaw02_TermGrows_r29, proofmarklaw02_TermGrows_r30, proofmarklaw02_TermGrows_r31, proofmarklaw02_TermGrows_r32, proofmarklaw02_TermGrows_r33, proofmarklaw02_TermGrows_r34, proofmarklaw02_TermGrows_r35, proofmarklaw02_TermGrows_r36, proofmarklaw02_TermGrows_r37, proofmarklaw02_TermGrows_r38, proofmarklaw02_TermGrows_r39, proofmarklaw02_TermGrows_r40, proofmarklaw02_TermGrows_r41, proofmarklaw02_TermGrows_r42, proofmarklaw02_TermGrows_r43, f5, f7, f14, hlt]
      refine callT hT t_term_Graph_Node (k_NodeAt hT hdB) 1000 fun t1 ht1 => ?_
      simp -implicitDefEqProofs (disch := omega) only [go_sem, need_of, ↓reduceIte, reduceCtorEq, Nat.reduceAdd, Nat.reduceEqDiff, Nat.reduceLT, Nat.zero_add, Nat.mul_one, Bool.not_true, Bool.not_false, Nat.le_refl, Nat.zero_le, beq_self_eq_true, f5, f8, f9, f14, hlt, Nd.cells, kG_len, kG_app, kG_5, kG_6, kG_7, kGs_7, List.length_cons, List.length_nil, List.cons_append, List.nil_append, hc, h6, htx, htg]
      refine callT hT t_term_Graph_Text (k_Text hT F SO (by omega) hok) 1000 fun t2 ht2 => ?_
      simp -implicitDefEqProofs (disch := omega) only [go_sem, ↓reduceIte, Nat.reduceAdd, Nat.reduceEqDiff, Nat.zero_add, Nat.le_refl, bne_self_eq_false, f5, htp]
      refine callT hT t_term_Graph_Uses (k_Uses hT SO (by omega) hwf [(i : Int)] 1 true (.inl rfl) (by simp)) 1000 fun t3 ht3 => ?_
      simp -implicitDefEqProofs (disch := omega) only [go_sem, need_of, ↓reduceIte, reduceCtorEq, Nat.reduceAdd, Nat.reduceEqDiff, Nat.zero_add, Nat.le_refl, bne_self_eq_false, List.length_map, hU, hw0, hug, hUne, hul1]
      refine tg3 hT SO (n := A.length) (r8 := r8) (r9 := r9) (i := i) (U := U) hB hok hiB hU.symm ?_ fun fr' t4 ht4 hf' => ?_
      · unfold gfr
        simp -implicitDefEqProofs (disch := omega) only [go_sem, ↓reduceIte, Nat.reduceEqDiff, f5, f7, f8, f9, f14]
        try rfl
      · obtain ⟨g5, g7, g8, g9, g14, g15, g18, g19, g20⟩ := hf'
        refine run_sem 1000 ?_
        simp -implicitDefEqProofs (disch := omega) only [go_sem, ↓reduceIte, Nat.reduceEqDiff, g5, g15]
        refine callT hT t_term_Graph_Deep (k_DeepAt hT hiB) 1000 fun t5 ht5 => ?_
        simp -implicitDefEqProofs (disch := omega) only [go_sem, ↓reduceIte, Nat.reduceEqDiff, bne_self_eq_false, g14, g19, hUd, hwd, hwi]
        refine ⟨A.length - (i + 1), _, _, by omega, Shift.drop (o' := kG F.fmt v0 v1 v2 v3 v4 B ++ [some (.arr r8 34 (ndC A)), some (.arr r9 9 (txs F.fmt A A.length))]) (t' := t5) (by simp [subObs, kG]) (Nat.le_refl _) (Nat.zero_le _), i + 1, t5, hlt, rfl, ?_⟩
        simp -implicitDefEqProofs (disch := omega) only [go_sem, ↓reduceIte, Nat.reduceEqDiff, g5, g7, g8, g9]
    · simp -implicitDefEqProofs (disch := omega) only [go_sem, ↓reduceIte, Nat.reduceEqDiff, decide_false, proofmarklaw02_TermGrows_r22, proofmarklaw02_TermGrows_r23, proofmarklaw02_TermGrows_r24, proofmarklaw02_TermGrows_r25, proofmarklaw02_TermGrows_r26, proofmarklaw02_TermGrows_r27, proofmarklaw02_TermGrows_r28, proofmarklaw02_TermGrows_r29, proofmarklaw02_TermGrows_r30, proofmarklaw02_TermGrows_r31, proofmarklaw02_TermGrows_r32, proofmarklaw02_TermGrows_r33, proofmarklaw02_TermGrows_r34, proofmarklaw02_TermGrows_r35, proofmarklaw02_TermGrows_r36, proofmarklaw02_TermGrows_r37, proofmarklaw02_TermGrows_r38, proofmarklaw02_TermGrows_r39, proofmarklaw02_TermGrows_r40, proofmarklaw02_TermGrows_r41, proofmarklaw02_TermGrows_r42, proofmarklaw02_TermGrows_r43, f7, f14, show ¬ i < A.length from by omega]
  · subst hE
    exact hQ fr σ'
end Go.Proofs.YtchcnfokhagpkaaDoor
