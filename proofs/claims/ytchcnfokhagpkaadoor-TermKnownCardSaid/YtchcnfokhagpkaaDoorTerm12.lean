/- The law TermGrows: its parts. -/
import Derived.Test.YtchcnfokhagpkaaDoorTerm11
namespace Go.Proofs.YtchcnfokhagpkaaDoor
open Go Go.Am
set_option maxRecDepth 100000
set_option maxHeartbeats 2000000
variable {P : Program} {G : Nat → Option V}

theorem k_Text (hT : TabOk P tab) (F : Fmt P G) (SO : SortOk P) {base : Nat} {v0 v1 v2 v3 v4 t : Nat} {L : List Nd} {ex : List (Option Ob)} {id : Int} (hL : L.length ≤ 1000000) (hok : okN L) :
   C P G base n_term_Graph_Text [.ptr 1 v0 0, .int .i64 id] ⟨t, kG F.fmt v0 v1 v2 v3 v4 L ++ ex⟩ fun v σ => v = .str (textL F.fmt L id) ∧ ∃ t', t ≤ t' ∧ σ = ⟨t', kG F.fmt v0 v1 v2 v3 v4 L ++ ex⟩ :=
  k_read (c_Text hT F SO hL hok) rfl rfl

theorem c_in (hT : TabOk P tab) (U : List Int) (tight : Bool) (x : Int) (hU : U.length ≤ 1000000000) : Pure P G n_proofmarklaw02_in [.lst 1 (U.map (V.int .i64)) tight, .int .i64 x] fun v => v = .bool (decide (x ∈ U)) := by
  intro t
  refine C_tab hT t_proofmarklaw02_in (by simp [proofmarklaw02_in]) (W_run 1000 ?_)
  simp -implicitDefEqProofs (disch := omega) only [go_sem, ↓reduceIte, reduceCtorEq, Nat.reduceEqDiff, Nat.zero_add, proofmarklaw02_in, proofmarklaw02_in_r0, proofmarklaw02_in_r1, proofmarklaw02_in_r2, proofmarklaw02_in_r3, proofmarklaw02_in_r4, proofmarklaw02_in_r5, proofmarklaw02_in_r6]
  refine sem_invE (fun m fr σ => ∃ i : Nat, i ≤ U.length ∧ m = U.length - i ∧ x ∉ U.take i ∧ fget fr 0 = .lst 1 (U.map (V.int .i64)) tight ∧ fget fr 1 = .int .i64 x ∧ fget fr 5 = .int .i64 i)
    (fun e fr σ => (e = .ret ∧ x ∈ U ∧ fget fr 4 = .bool true) ∨ (e = .ex 0 ∧ x ∉ U)) (m0 := U.length) ⟨0, Nat.zero_le _, rfl, by simp, ?_⟩ (fun m fr σ hJ => ?_) (fun e fr σ hE => ?_)
  · simp -implicitDefEqProofs (disch := omega) only [go_sem, ↓reduceIte, reduceCtorEq, Nat.reduceEqDiff]
    exact rfl
  · obtain ⟨i, hi, rfl, hne, f0, f1, f5⟩ := hJ
    refine W_run 1000 ?_
    rcases Nat.lt_or_ge i U.length with hlt | hge
    · obtain ⟨y, hy⟩ : ∃ y, U[i]? = some y := ⟨_, List.getElem?_eq_getElem hlt⟩
      have hg : (U.map (V.int .i64)).getD i .any = V.int .i64 y := by simp [List.getD_eq_getElem?_getD, hy]
      have hym := List.mem_of_getElem? hy
      by_cases hxy : y = x
      · subst hxy
        simp -implicitDefEqProofs (disch := omega) only [go_sem, need_of, ↓reduceIte, reduceCtorEq, Nat.reduceEqDiff, Nat.succ_ne_zero, Nat.zero_add, decide_true, Nat.le_refl, beq_self_eq_true, List.length_map, f0, f1, f5, hlt, hg]
        exact hym
      · simp -implicitDefEqProofs (disch := omega) only [go_sem, need_of, ↓reduceIte, reduceCtorEq, Nat.reduceEqDiff, Nat.succ_ne_zero, Nat.zero_add, decide_true, Nat.le_refl, List.length_map, f0, f1, f5, hlt, hg, hxy]
        refine ⟨fun h => h.elim, U.length - (i + 1), _, _, by omega, Shift.refl _ _ _ _, i + 1, hlt, rfl, ?_, ?_⟩
        · rw [List.take_add_one, hy]; simp [hne]; exact fun h => hxy h.symm
        · have hw : IntKind.i64.wrap ((i : Int) + 1) = ((i + 1 : Nat) : Int) := by
            rw [wrap_i64 (by omega) (by omega)]; rfl
          simp -implicitDefEqProofs (disch := omega) only [go_sem, ↓reduceIte, reduceCtorEq, Nat.reduceEqDiff, Nat.succ_ne_zero, f0, f1, hw]
    · simp -implicitDefEqProofs (disch := omega) only [go_sem, ↓reduceIte, reduceCtorEq, Nat.reduceEqDiff, Nat.succ_ne_zero, decide_false, List.length_map, f0, f5, show ¬ i < U.length from by omega]
      rw [List.take_of_length_le (by omega)] at hne
      exact hne
  · refine run_sem 1000 ?_
    rcases hE with ⟨rfl, hm, f4⟩ | ⟨rfl, hm⟩
    · simp -implicitDefEqProofs (disch := omega) only [go_sem, decide_true, f4, hm]
    · simp -implicitDefEqProofs (disch := omega) only [go_sem, ↓reduceIte, decide_false, hm]

/-- What a prefix says. -/
theorem pre_get {L M : List Nd} (h : L <+: M) {i : Nat} (hi : i < L.length) : M[i]? = L[i]? := by
  obtain ⟨r, rfl⟩ := h
  rw [List.getElem?_append_left hi]
theorem deeps_get {L M : List Nd} (h : L <+: M) {i : Nat} (hi : i < L.length) : (deeps M).getD i 0 = (deeps L).getD i 0 := by
  obtain ⟨r, hr⟩ := deeps_pre h
  rw [hr, getD_append_lt _ _ _ _ (by rw [deeps_length]; exact hi)]
theorem textL_pre (fmt : Int → List UInt8) {L M : List Nd} (h : L <+: M) {i : Nat} (hi : i < L.length) : textL fmt M i = textL fmt L i := by
  have hl := h.length_le
  obtain ⟨r, hr⟩ := longs_pre fmt h
  obtain ⟨s, hs⟩ := texts_pre fmt h
  have e1 : (longs fmt M).getD i 0 = (longs fmt L).getD i 0 := by rw [hr, getD_append_lt _ _ _ _ (by rw [longs_length]; exact hi)]
  have e2 : (texts fmt M).getD i [] = (texts fmt L).getD i [] := by rw [hs, getD_append_lt _ _ _ _ (by rw [texts_length]; exact hi)]
  unfold textL
  simp only [Int.toNat_natCast, e1, e2]
  have : ((0 : Int) ≤ i ∧ (i : Int) < M.length) ↔ ((0 : Int) ≤ i ∧ (i : Int) < L.length) := by omega
  simp only [this]

theorem pts_at {L : List Nd} {x : Nat} {d : Nd} (h : L[x]? = some d) : pts L x = d.parts := by simp [pts, List.getD_eq_getElem?_getD, h]

theorem deepA_mono {D : List Int} : ∀ (ps : List Int) (m : Int), m ≤ ps.foldl (fun m p => max m (D.getD p.toNat 0)) m ∧ ∀ p ∈ ps, D.getD p.toNat 0 ≤ ps.foldl (fun m p => max m (D.getD p.toNat 0)) m
  | [], m => ⟨Int.le_refl _, by simp⟩
  | p :: ps, m => by
    obtain ⟨h1, h2⟩ := deepA_mono (D := D) ps (max m (D.getD p.toNat 0))
    simp only [List.foldl_cons]
    refine ⟨by omega, fun q hq => ?_⟩
    simp only [List.mem_cons] at hq
    rcases hq with rfl | hq
    · omega
    · exact h2 q hq
theorem deepA_upper {D : List Int} {b : Int} : ∀ (ps : List Int) (m : Int), m ≤ b → (∀ p ∈ ps, D.getD p.toNat 0 ≤ b) → ps.foldl (fun m p => max m (D.getD p.toNat 0)) m ≤ b
  | [], m, h, _ => h
  | p :: ps, m, h, hp => deepA_upper ps _ (by have := hp p (by simp); show max m (D.getD p.toNat 0) ≤ b; omega) fun q hq => hp q (by simp [hq])

/-- How deep a term is, by its parts in the same graph. -/
theorem deeps_of {L : List Nd} (hok : okN L) {i : Nat} {d : Nd} (h : L[i]? = some d) : (deeps L).getD i 0 = deepA (deeps L) d.parts + 1 := by
  rw [deeps_at h]
  have hi := (List.getElem?_eq_some_iff.1 h).1
  have hp := (may_parts (hok i d h).2.2).1
  congr 1
  unfold deepA
  have : ∀ (ps : List Int) (m : Int), (∀ p ∈ ps, 0 ≤ p ∧ p < i) → ps.foldl (fun m p => max m ((deeps (L.take i)).getD p.toNat 0)) m = ps.foldl (fun m p => max m ((deeps L).getD p.toNat 0)) m := fun ps => by
    induction ps with
    | nil => intro m _; rfl
    | cons p ps ih =>
      intro m hps
      have := hps p (by simp)
      simp only [List.foldl_cons]
      rw [deeps_take (p := p.toNat) (by omega) (by omega)]
      exact ih _ fun q hq => hps q (by simp [hq])
  exact this _ _ hp

theorem uses_last {L : List Nd} (hwf : gwf L) {id : Int} (h0 : 0 ≤ id) (h1 : id < L.length) : 0 < (usesL L [id]).length ∧ (usesL L [id])[(usesL L [id]).length - 1]? = some id := by
  have hm := uses_self hwf h0 h1
  have hpos := List.length_pos_of_mem hm
  refine ⟨hpos, ?_⟩
  obtain ⟨j, hj⟩ := List.getElem?_of_mem hm
  obtain ⟨y, hy⟩ : ∃ y, (usesL L [id])[(usesL L [id]).length - 1]? = some y := ⟨_, List.getElem?_eq_getElem (by omega)⟩
  have hyU := List.mem_of_getElem? hy
  have hle := uses_le hwf y hyU
  have hjl := List.getElem?_eq_some_iff.1 hj
  have hyl := List.getElem?_eq_some_iff.1 hy
  by_cases hlt : j < (usesL L [id]).length - 1
  · have := (List.pairwise_iff_getElem.1 (uses_sorted (L := L) (roots := [id]))) j _ hjl.1 hyl.1 hlt
    rw [hjl.2, hyl.2] at this
    omega
  · have : j = (usesL L [id]).length - 1 := by have := hjl.1; omega
    rw [← this]; exact hj

theorem uses_deep {L : List Nd} (hok : okN L) {id : Int} (h0 : 0 ≤ id) (h1 : id < L.length) : (deeps L).getD id.toNat 0 = deepA (deeps L) ((usesL L [id]).take ((usesL L [id]).length - 1)) + 1 := by
  have hwf := hok.wf
  obtain ⟨d, hd⟩ : ∃ d, L[id.toNat]? = some d := ⟨_, List.getElem?_eq_getElem (by omega)⟩
  rw [deeps_of hok hd]
  obtain ⟨hpos, hlast⟩ := uses_last hwf h0 h1
  have hsplit : (usesL L [id]).take ((usesL L [id]).length - 1) ++ [id] = usesL L [id] := by
    have : (usesL L [id]).take ((usesL L [id]).length - 1 + 1) = (usesL L [id]).take ((usesL L [id]).length - 1) ++ [id] := by rw [List.take_add_one, hlast]; rfl
    rw [← this, List.take_of_length_le (by omega)]
  have hnd : id ∉ (usesL L [id]).take ((usesL L [id]).length - 1) := not_ahead uses_sorted hlast
  have hdp : pts L id = d.parts := by simp [pts, List.getD_eq_getElem?_getD, hd]
  congr 1
  apply Int.le_antisymm
  · refine deepA_upper _ _ (deepA_mono _ 0).1 fun p hp => (deepA_mono _ 0).2 p ?_
    have hpU := uses_closed hwf (uses_self hwf h0 h1) (by rw [hdp]; exact hp)
    have hpl := pts_lt hwf h0 h1 p (by rw [hdp]; exact hp)
    rw [← hsplit] at hpU
    simp only [List.mem_append, List.mem_singleton] at hpU
    rcases hpU with h | h
    · exact h
    · omega
  · refine deepA_upper _ _ (deepA_mono _ 0).1 fun x hx => ?_
    have hxU := List.mem_of_mem_take hx
    have hxne : x ≠ id := fun e => hnd (e ▸ hx)
    have key := uses_pred (L := L) (Q := fun x => x = id ∨ (deeps L).getD x.toNat 0 ≤ deepA (deeps L) d.parts) (id := id) (fun z z0 z1 hz p hp => by
      right
      rcases hz with rfl | hz
      · rw [hdp] at hp
        exact (deepA_mono _ 0).2 p hp
      · obtain ⟨e, he⟩ : ∃ e, L[z.toNat]? = some e := ⟨_, List.getElem?_eq_getElem (by omega)⟩
        have hep : pts L z = e.parts := by simp [pts, List.getD_eq_getElem?_getD, he]
        rw [hep] at hp
        rw [deeps_of hok he] at hz
        have h2 : (deeps L).getD p.toNat 0 ≤ deepA (deeps L) e.parts := (deepA_mono (D := deeps L) e.parts 0).2 p hp
        omega) (.inl rfl) x hxU
    rcases key with h | h
    · exact absurd h hxne
    · exact h

theorem ndC_snoc (L : List Nd) (d : Nd) : ndC (L ++ [d]) = ndC L ++ d.cells := by simp [ndC]
theorem take_snoc2 {α : Type} {L : List α} {i : Nat} {d : α} (h : L[i]? = some d) : L.take (i + 1) = L.take i ++ [d] := by rw [List.take_add_one, h]; rfl
end Go.Proofs.YtchcnfokhagpkaaDoor
