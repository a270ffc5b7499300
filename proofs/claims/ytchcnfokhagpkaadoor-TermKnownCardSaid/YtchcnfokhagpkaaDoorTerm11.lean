/- The text of a term. -/
import Derived.Test.YtchcnfokhagpkaaDoorTerm10
namespace Go.Proofs.YtchcnfokhagpkaaDoor
open Go Go.Am
set_option maxRecDepth 100000
variable {P : Program} {G : Nat → Option V}

theorem words_congr (fmt : Int → List UInt8) (d : Nd) {x y x' y' : List UInt8} (h3 : d.kind = 3 → y = y') (h4 : d.kind = 1 ∨ d.kind = 2 ∨ d.kind = 3 ∨ (x = x' ∧ y = y')) : d.words fmt x y = d.words fmt x' y' := by
  unfold Nd.words
  split
  · rfl
  · split
    · rfl
    · split
      · rename_i h; rw [h3 h]
      · rcases h4 with h | h | h | ⟨h, h'⟩
        · contradiction
        · contradiction
        · contradiction
        · rw [h, h']
theorem words_len3 (fmt : Int → List UInt8) (d : Nd) (x y : List UInt8) (h : d.kind = 3) : (d.words fmt x y).length = (d.words fmt [] []).length + y.length := by
  unfold Nd.words
  simp only [h]
  simp; omega
theorem words_len4 (fmt : Int → List UInt8) (d : Nd) (x y : List UInt8) (h : d.kind = 4) : (d.words fmt x y).length = (d.words fmt [] []).length + x.length + y.length := by
  unfold Nd.words
  simp only [h]
  simp; omega

theorem nnN (fmt : Int → List UInt8) (L : List Nd) (p : Nat) : 0 ≤ (longs fmt L).getD p 0 := by
  rw [List.getD_eq_getElem?_getD]
  cases hx : (longs fmt L)[p]? with
  | none => simp
  | some x => simpa using (longs_bd fmt L x (List.mem_of_getElem? hx)).1

/-- A text is as long as told, where that is told. -/
theorem long_len (fmt : Int → List UInt8) {L : List Nd} (hok : okN L) : ∀ (i : Nat) (d : Nd), L[i]? = some d → (longs fmt L).getD i 0 ≤ 65536 →
    (((texts fmt L).getD i []).length : Int) = (longs fmt L).getD i 0 ∧ ∀ p ∈ d.parts, (longs fmt L).getD p.toNat 0 ≤ 65536 := by
  intro i
  induction i using Nat.strongRecOn with
  | _ i ih =>
    intro d hd hN
    have hi := (List.getElem?_eq_some_iff.1 hd).1
    obtain ⟨hpp, hop, hk⟩ := may_parts (hok i d hd).2.2
    rw [longs_at fmt hd] at hN ⊢
    rw [texts_at fmt hd]
    have hA : longA (longs fmt (L.take i)) d.parts ((d.words fmt [] []).length : Int) ≤ 65536 ∧ longF fmt (longs fmt (L.take i)) d = longA (longs fmt (L.take i)) d.parts ((d.words fmt [] []).length : Int) := by
      unfold longF at hN ⊢
      split at hN
      · omega
      · rename_i h; rw [if_neg h]; exact ⟨hN, rfl⟩
    rw [hA.2]
    have part : ∀ p ∈ d.parts, (longs fmt (L.take i)).getD p.toNat 0 = (longs fmt L).getD p.toNat 0 ∧ ((longs fmt L).getD p.toNat 0 ≤ 65536 → (((texts fmt (L.take i)).getD p.toNat []).length : Int) = (longs fmt L).getD p.toNat 0) := fun p hp => by
      have hb := hpp p hp
      obtain ⟨e, he⟩ : ∃ e, L[p.toNat]? = some e := ⟨_, List.getElem?_eq_getElem (by omega)⟩
      refine ⟨longs_take fmt (by omega) (by omega), fun h => ?_⟩
      rw [texts_take fmt (by omega) (by omega)]
      exact (ih p.toNat (by omega) e he h).1
    rcases hk with h | h | h | h
    · have hps : d.parts = [] := by simp [Nd.parts, h]
      rw [hps] at hA ⊢
      refine ⟨?_, by simp⟩
      rw [words_congr fmt d (x' := []) (y' := []) (by omega) (.inl h)]
      simp [longA]
    · have hps : d.parts = [] := by simp [Nd.parts, h]
      rw [hps] at hA ⊢
      refine ⟨?_, by simp⟩
      rw [words_congr fmt d (x' := []) (y' := []) (by omega) (.inr (.inl h))]
      simp [longA]
    · have hps : d.parts = [d.y] := by simp [Nd.parts, h]
      obtain ⟨q1, q2⟩ := part d.y (by simp [hps])
      have nn := nnN fmt L d.y.toNat
      rw [hps] at hA ⊢
      simp only [longA, List.foldl_cons, List.foldl_nil, q1] at hA ⊢
      have hle : (longs fmt L).getD d.y.toNat 0 ≤ 65536 := by omega
      refine ⟨?_, by simpa using hle⟩
      rw [words_len3 fmt d _ _ h]
      have := q2 hle
      omega
    · have hps : d.parts = [d.x, d.y] := by simp [Nd.parts, h]
      obtain ⟨q1, q2⟩ := part d.y (by simp [hps])
      obtain ⟨r1, r2⟩ := part d.x (by simp [hps])
      have nn := nnN fmt L d.y.toNat
      have nn2 := nnN fmt L d.x.toNat
      rw [hps] at hA ⊢
      simp only [longA, List.foldl_cons, List.foldl_nil, q1, r1] at hA ⊢
      have hle : (longs fmt L).getD d.y.toNat 0 ≤ 65536 := by omega
      have hle2 : (longs fmt L).getD d.x.toNat 0 ≤ 65536 := by omega
      refine ⟨?_, by simpa using ⟨hle2, hle⟩⟩
      rw [words_len4 fmt d _ _ h]
      have := q2 hle
      have := r2 hle2
      omega

theorem long_uses (fmt : Int → List UInt8) {L : List Nd} (hok : okN L) {id : Int} (h : (longs fmt L).getD id.toNat 0 ≤ 65536) : ∀ x ∈ usesL L [id], (longs fmt L).getD x.toNat 0 ≤ 65536 :=
  uses_pred (Q := fun x => (longs fmt L).getD x.toNat 0 ≤ 65536) (fun x h0 h1 hx p hp => by
    obtain ⟨d, hd⟩ : ∃ d, L[x.toNat]? = some d := ⟨_, List.getElem?_eq_getElem (by omega)⟩
    have : pts L x = d.parts := by simp [pts, List.getD_eq_getElem?_getD, hd]
    rw [this] at hp
    exact (long_len fmt hok x.toNat d hd hx).2 p hp) h

theorem text_le (fmt : Int → List UInt8) {L : List Nd} (hok : okN L) {i : Nat} (hi : i < L.length) (h : (longs fmt L).getD i 0 ≤ 65536) : ((texts fmt L).getD i []).length ≤ 65536 := by
  obtain ⟨d, hd⟩ : ∃ d, L[i]? = some d := ⟨_, List.getElem?_eq_getElem hi⟩
  have := (long_len fmt hok i d hd h).1
  omega

def textL (fmt : Int → List UInt8) (L : List Nd) (id : Int) : List UInt8 := if (0 ≤ id ∧ id < L.length) ∧ (longs fmt L).getD id.toNat 0 ≤ 65536 then (texts fmt L).getD id.toNat [] else []

/-- In a sorted row: what is less than the one at a place stands ahead. -/
theorem ahead_of {U : List Int} (hs : U.Pairwise (· < ·)) {k : Nat} {i y : Int} (hk : U[k]? = some i) (hy : y ∈ U) (hlt : y < i) : y ∈ U.take k := by
  obtain ⟨j, hj⟩ := List.getElem?_of_mem hy
  have hjl := (List.getElem?_eq_some_iff.1 hj).1
  have hkl := (List.getElem?_eq_some_iff.1 hk).1
  have ej := (List.getElem?_eq_some_iff.1 hj).2
  have ek := (List.getElem?_eq_some_iff.1 hk).2
  have hjk : j < k := by
    rcases Nat.lt_trichotomy j k with h | h | h
    · exact h
    · subst h; rw [hj] at hk; cases hk; omega
    · have := (List.pairwise_iff_getElem.1 hs) k j hkl hjl h
      omega
  rw [List.mem_iff_getElem?]
  exact ⟨j, by rw [List.getElem?_take, if_pos hjk]; exact hj⟩
theorem not_ahead {U : List Int} (hs : U.Pairwise (· < ·)) {k : Nat} {i : Int} (hk : U[k]? = some i) : i ∉ U.take k := by
  intro hm
  obtain ⟨j, hj⟩ := List.getElem?_of_mem hm
  rw [List.getElem?_take] at hj
  split at hj
  · rename_i hjk
    have ej := (List.getElem?_eq_some_iff.1 hj)
    have ek := (List.getElem?_eq_some_iff.1 hk)
    have := (List.pairwise_iff_getElem.1 hs) j k ej.1 ek.1 hjk
    rw [ej.2, ek.2] at this
    omega
  · cases hj

def shown (fmt : Int → List UInt8) (L : List Nd) : Int → V := fun i => .agg [.str ((texts fmt L).getD i.toNat [])]
def look (fmt : Int → List UInt8) (L : List Nd) (S : List Int) (x : Int) : List UInt8 := if x ∈ S then (texts fmt L).getD x.toNat [] else []
theorem mget_shown (fmt : Int → List UInt8) (L : List Nd) (S : List Int) (x : Int) : (mget [.i] (.int .i64 x) (im .i64 (shown fmt L) S)).getD (.agg [.str []]) = .agg [.str (look fmt L S x)] := by
  rw [mget_im]
  unfold look
  split <;> rfl

theorem c_Text (hT : TabOk P tab) (F : Fmt P G) (SO : SortOk P) {v0 v1 v2 v3 v4 t : Nat} {L : List Nd} {id : Int} (hL : L.length ≤ 1000000) (hok : okN L) :
   C P G 5 n_term_Graph_Text [.ptr 0 v0 0, .int .i64 id] ⟨t, gG F.fmt v0 v1 v2 v3 v4 L⟩ fun v σ => v = .str (textL F.fmt L id) ∧ ∃ t', t ≤ t' ∧ σ = ⟨t', gG F.fmt v0 v1 v2 v3 v4 L⟩ := by
  have hN := longs_length F.fmt L
  have hwf := hok.wf
  refine C_keep 5 (Nat.le_refl _) (C_tab hT t_term_Graph_Text (by simp [term_Graph_Text]) (W_run 1000 ?_))
  simp -implicitDefEqProofs (disch := omega) only [go_sem, ↓reduceIte, reduceCtorEq, Nat.reduceEqDiff, Nat.zero_add, term_Graph_Text, term_Graph_Text_r0, term_Graph_Text_r1, term_Graph_Text_r2, term_Graph_Text_r3, term_Graph_Text_r4, term_Graph_Text_r5, term_Graph_Text_r6, term_Graph_Text_r7, term_Graph_Text_r8, term_Graph_Text_r9, term_Graph_Text_r10, gG, gH, gS]
  refine call hT t_term_Graph_is (c_is hT) 1000 fun v σ hv => ?_
  obtain ⟨rfl, rfl⟩ := hv
  by_cases h : 0 ≤ id ∧ id < L.length
  · have hlen : id.toNat < L.length := by omega
    obtain ⟨x, hx⟩ : ∃ x, (longs F.fmt L)[id.toNat]? = some x := ⟨_, List.getElem?_eq_getElem (by omega)⟩
    have hg : ((longs F.fmt L).map (V.int .i64)).getD id.toNat .any = V.int .i64 x := by simp [List.getD_eq_getElem?_getD, hx]
    have hg2 : (longs F.fmt L).getD id.toNat 0 = x := by simp [List.getD_eq_getElem?_getD, hx]
    by_cases hbig : 65536 < x
    · simp -implicitDefEqProofs (disch := omega) only [go_sem, need_of, ↓reduceIte, reduceCtorEq, Nat.reduceAdd, Nat.reduceEqDiff, Nat.zero_add, Nat.mul_one, decide_true, Bool.not_true, Nat.le_refl, gt_iff_lt, gS, h, hlen, hg, hN, hbig, List.length_map]
      refine ⟨?_, _, by omega, rfl⟩
      rw [textL, hg2, if_neg (by omega)]
    · simp -implicitDefEqProofs (disch := omega) only [go_sem, need_of, ↓reduceIte, reduceCtorEq, Nat.reduceAdd, Nat.reduceEqDiff, Nat.zero_add, Nat.mul_one, decide_true, decide_false, Bool.not_true, Nat.le_refl, gt_iff_lt, gS, h, hlen, hg, hN, hbig, List.length_map]
      have hN6 : (longs F.fmt L).getD id.toNat 0 ≤ 65536 := by omega
      refine callE (oS := gH v0 v1 v2 v3 v4 L (deeps L) (longs F.fmt L)) (ex := [some (.map t [])]) hT t_term_Graph_Uses (c_Uses hT SO (Nat.le_refl 5) hL hwf [id] 1 true (.inl rfl) (by simp)) rfl (gH_und ..) (Nat.le_refl 5) rfl 1000 fun v σ hv => ?_
      obtain ⟨rfl, t2, ht2, rfl⟩ := hv
      refine ⟨rfl, gH_und .., rfl, ?_⟩
      simp only at ht2
      simp -implicitDefEqProofs (disch := omega) only [go_sem, ↓reduceIte, reduceCtorEq, Nat.reduceEqDiff, gH, gS, List.length_map, List.nil_append, List.cons_append]
      have hUs := uses_sorted (L := L) (roots := [id])
      have hUo := uses_ok (L := L) (roots := [id])
      have hUl := long_uses F.fmt hok hN6
      have hUid := uses_self hwf h.1 h.2
      have hUc : ∀ i ∈ usesL L [id], ∀ p ∈ pts L i, p ∈ usesL L [id] := fun i hi p hp => uses_closed hwf hi hp
      have hUlen : (usesL L [id]).length ≤ L.length := by
        have := okS_len (okS_walks L [id] [] ⟨List.nodup_nil, by simp⟩)
        simpa [usesL] using this
      generalize usesL L [id] = U at *
      refine sem_invE (fun m fr σ => ∃ (k t' : Nat), k ≤ U.length ∧ m = U.length - k ∧ t ≤ t' ∧ fget fr 0 = .ptr 0 v0 0 ∧ fget fr 1 = .int .i64 id ∧ fget fr 5 = .mp 5 t ∧ fget fr 27 = .lst 1 (U.map (V.int .i64)) false ∧ fget fr 28 = .int .i64 U.length ∧ fget fr 29 = .int .i64 k ∧
           σ = ⟨t', gH v0 v1 v2 v3 v4 L (deeps L) (longs F.fmt L) ++ [some (.map t (im .i64 (shown F.fmt L) (U.take k)))]⟩)
        (fun e fr σ => e = .ex 0 ∧ fget fr 1 = .int .i64 id ∧ fget fr 5 = .mp 5 t ∧ ∃ t', t ≤ t' ∧ σ = ⟨t', gH v0 v1 v2 v3 v4 L (deeps L) (longs F.fmt L) ++ [some (.map t (im .i64 (shown F.fmt L) U))]⟩)
        (m0 := U.length) ⟨0, t2, Nat.zero_le _, rfl, by omega, ?_⟩ (fun m fr σ hJ => ?_) (fun e fr σ hE => ?_)
      · simp -implicitDefEqProofs (disch := omega) only [go_sem, ↓reduceIte, reduceCtorEq, Nat.reduceEqDiff]
        exact ⟨rfl, rfl⟩
      · obtain ⟨k, t', hk, rfl, ht', f0, f1, f5, f27, f28, f29, rfl⟩ := hJ
        refine W_run 1000 ?_
        rcases Nat.lt_or_ge k U.length with hlt | hge
        · obtain ⟨i, hi⟩ : ∃ i, U[k]? = some i := ⟨_, List.getElem?_eq_getElem hlt⟩
          have hiU := List.mem_of_getElem? hi
          obtain ⟨hi0, hi1⟩ := hUo i hiU
          have hgU : (U.map (V.int .i64)).getD k .any = V.int .i64 i := by simp [List.getD_eq_getElem?_getD, hi]
          obtain ⟨d, hd⟩ : ∃ d, L[i.toNat]? = some d := ⟨_, List.getElem?_eq_getElem (by omega)⟩
          have hl := ndC_length L
          have hc := ndC_get hd
          have hilen : i.toNat < L.length := by omega
          have h6 : i.toNat * 6 + 6 ≤ (ndC L).length := by omega
          have hps : pts L i = d.parts := by simp [pts, List.getD_eq_getElem?_getD, hd]
          obtain ⟨hdn, hda, hdm⟩ := hok _ d hd
          obtain ⟨hdp, hdo, hdk⟩ := may_parts hdm
          have hx1 := mget_shown F.fmt L (U.take k) d.x
          have hy1 := mget_shown F.fmt L (U.take k) d.y
          have hkx := keysOk_im .i64 (shown F.fmt L) (U.take k) d.x
          have hky := keysOk_im .i64 (shown F.fmt L) (U.take k) d.y
          have hki := keysOk_im .i64 (shown F.fmt L) (U.take k) i
          have lk : ∀ z, (look F.fmt L (U.take k) z).length ≤ 1000000 := fun z => by
            unfold look
            split
            · rename_i hz
              have hzU := List.mem_of_mem_take hz
              have := text_le F.fmt hok (i := z.toNat) (by have := hUo z hzU; omega) (hUl z hzU)
              omega
            · simp
          have hin : ∀ z ∈ d.parts, look F.fmt L (U.take k) z = (texts F.fmt (L.take i.toNat)).getD z.toNat [] := fun z hz => by
            have hzU := hUc i hiU z (by rw [hps]; exact hz)
            have hzb := hdp z hz
            have := ahead_of hUs hi hzU (by omega)
            unfold look
            rw [if_pos this, texts_take F.fmt (by omega) (by omega)]
          have hword : d.words F.fmt (look F.fmt L (U.take k) d.x) (look F.fmt L (U.take k) d.y) = (texts F.fmt L).getD i.toNat [] := by
            rw [texts_at F.fmt hd]
            refine words_congr F.fmt d (fun h3 => hin d.y (by simp [Nd.parts, h3])) ?_
            rcases hdk with q | q | q | q
            · exact .inl q
            · exact .inr (.inl q)
            · exact .inr (.inr (.inl q))
            · exact .inr (.inr (.inr ⟨hin d.x (by simp [Nd.parts, q]), hin d.y (by simp [Nd.parts, q])⟩))
          have hmp := mput_im .i64 (shown F.fmt L) i (.agg [.str ((texts F.fmt L).getD i.toNat [])]) rfl (U.take k) (not_ahead hUs hi)
          simp -implicitDefEqProofs (disch := omega) only [go_sem, need_of, ↓reduceIte, reduceCtorEq, Nat.reduceAdd, Nat.reduceEqDiff, Nat.reduceLeDiff, Nat.succ_ne_zero, Nat.zero_add, Nat.add_zero, decide_true, Bool.not_false, Nat.le_refl, gH, gS, List.length_map, List.nil_append, List.cons_append, f0, f5, f27, f28, f29, hlt, hgU, hi0, hilen, h6, hc, Nd.cells, hx1, hy1, hkx, hky]
          refine callPS hT t_term_words (c_words hT F d _ _ hdn hda hdo (lk d.x) (lk d.y)) rfl 1000 ?_
          simp -implicitDefEqProofs (disch := omega) only [go_sem, ↓reduceIte, Nat.reduceEqDiff, Nat.zero_add, Bool.not_false, Nat.le_refl, List.nil_append, List.cons_append, f29, hword, hki, hmp]
          have htk : U.take (k + 1) = U.take k ++ [i] := by rw [List.take_add_one, hi]; rfl
          refine ⟨U.length - (k + 1), _, _, by omega, Shift.drop (o' := gH v0 v1 v2 v3 v4 L (deeps L) (longs F.fmt L) ++ [some (.map t (im .i64 (shown F.fmt L) (U.take k ++ [i])))]) (t' := t' + 1) (by simp [subObs, gH, gS]) (Nat.le_refl _) (by simp [gH]), k + 1, t' + 1, hlt, rfl, by omega, ?_⟩
          · have hw : IntKind.i64.wrap ((k : Int) + 1) = ((k + 1 : Nat) : Int) := by
              rw [wrap_i64 (by omega) (by omega)]; rfl
            simp -implicitDefEqProofs (disch := omega) only [go_sem, ↓reduceIte, reduceCtorEq, Nat.reduceEqDiff, Nat.succ_ne_zero, f0, f1, f5, f27, f28, hw, htk]
            rfl
        · simp -implicitDefEqProofs (disch := omega) only [go_sem, ↓reduceIte, Nat.reduceEqDiff, decide_false, f1, f5, f28, f29, show ¬ k < U.length from by omega]
          rw [List.take_of_length_le (by omega)]
          exact ⟨t', ht', rfl, rfl⟩
      · obtain ⟨rfl, f1, f5, t', ht', rfl⟩ := hE
        have hkid := keysOk_im .i64 (shown F.fmt L) U id
        have hmid := mget_shown F.fmt L U id
        have hlk : look F.fmt L U id = (texts F.fmt L).getD id.toNat [] := by unfold look; rw [if_pos hUid]
        refine run_sem 1000 ?_
        simp -implicitDefEqProofs (disch := omega) only [go_sem, ↓reduceIte, Nat.reduceAdd, Nat.reduceEqDiff, Nat.reduceLeDiff, Nat.zero_add, Nat.le_refl, gH, gS, List.nil_append, List.cons_append, f1, f5, hkid, hmid, hlk]
        refine ⟨?_, _, ht', rfl⟩
        rw [textL, if_pos ⟨h, hN6⟩]
  · simp -implicitDefEqProofs (disch := omega) only [go_sem, ↓reduceIte, reduceCtorEq, Nat.reduceAdd, Nat.reduceEqDiff, Nat.zero_add, decide_false, Bool.not_false, Nat.le_refl, gS, h]
    refine ⟨?_, _, by omega, rfl⟩
    rw [textL, if_neg (fun hh => h hh.1)]
end Go.Proofs.YtchcnfokhagpkaaDoor
