/- Adding, with how deep and how long all is. -/
import Derived.Test.YtfligilbnpcnaaaGreatDoorTerm7
import Derived.Test.YtfligilbnpcnaaaGreatDoorAmD
namespace Go.Proofs.YtfligilbnpcnaaaGreatDoor
open Go Go.Am
set_option maxRecDepth 100000
variable {P : Program} {G : Nat → Option V}

/-- How deep, over how deep the others are. -/
def deepA (D : List Int) (ps : List Int) : Int := ps.foldl (fun m p => max m (D.getD p.toNat 0)) 0
def deepF (D : List Int) (d : Nd) : Int := deepA D d.parts + 1
def deeps (L : List Nd) : List Int := L.foldl (fun D d => D ++ [deepF D d]) []
theorem deeps_add (L : List Nd) (d : Nd) : deeps (L ++ [d]) = deeps L ++ [deepF (deeps L) d] := by simp [deeps, List.foldl_append]
/-- How long, at most 65537. -/
def longA (N : List Int) (ps : List Int) (b : Int) : Int := ps.foldl (fun m p => m + N.getD p.toNat 0) b
def longF (fmt : Int → List UInt8) (N : List Int) (d : Nd) : Int := if 65537 < longA N d.parts ((d.words fmt [] []).length : Int) then 65537 else longA N d.parts ((d.words fmt [] []).length : Int)
def longs (fmt : Int → List UInt8) (L : List Nd) : List Int := L.foldl (fun N d => N ++ [longF fmt N d]) []
theorem longs_add (fmt : Int → List UInt8) (L : List Nd) (d : Nd) : longs fmt (L ++ [d]) = longs fmt L ++ [longF fmt (longs fmt L) d] := by simp [longs, List.foldl_append]

theorem snoc_ind {α : Type} {p : List α → Prop} (h0 : p []) (h1 : ∀ l a, p l → p (l ++ [a])) (l : List α) : p l := by
  have : ∀ r : List α, p r.reverse := fun r => by
    induction r with
    | nil => exact h0
    | cons a r ih => rw [List.reverse_cons]; exact h1 _ _ ih
  simpa using this l.reverse

theorem deeps_length (L : List Nd) : (deeps L).length = L.length := by
  refine snoc_ind (p := fun L => (deeps L).length = L.length) rfl (fun l a h => ?_) L
  rw [deeps_add]; simp [h]
theorem longs_length (fmt : Int → List UInt8) (L : List Nd) : (longs fmt L).length = L.length := by
  refine snoc_ind (p := fun L => (longs fmt L).length = L.length) rfl (fun l a h => ?_) L
  rw [longs_add]; simp [h]

theorem deepA_bd {D : List Int} {b : Int} (hD : ∀ x ∈ D, 0 ≤ x ∧ x ≤ b) (h0 : 0 ≤ b) (ps : List Int) : 0 ≤ deepA D ps ∧ deepA D ps ≤ b := by
  have : ∀ (ps : List Int) (m : Int), 0 ≤ m ∧ m ≤ b → 0 ≤ ps.foldl (fun m p => max m (D.getD p.toNat 0)) m ∧ ps.foldl (fun m p => max m (D.getD p.toNat 0)) m ≤ b := fun ps => by
    induction ps with
    | nil => intro m h; exact h
    | cons p ps ih =>
      intro m h
      refine ih _ ?_
      have : 0 ≤ D.getD p.toNat 0 ∧ D.getD p.toNat 0 ≤ b := by
        rw [List.getD_eq_getElem?_getD]
        cases hx : D[p.toNat]? with
        | none => simp; exact h0
        | some x => simpa using hD x (List.mem_of_getElem? hx)
      show 0 ≤ max m (D.getD p.toNat 0) ∧ max m (D.getD p.toNat 0) ≤ b
      omega
  exact this ps 0 ⟨Int.le_refl _, h0⟩
theorem deeps_bd (L : List Nd) : ∀ x ∈ deeps L, 0 ≤ x ∧ x ≤ L.length := by
  refine snoc_ind (p := fun L => ∀ x ∈ deeps L, 0 ≤ x ∧ x ≤ L.length) (by simp [deeps]) (fun l a h => ?_) L
  rw [deeps_add]
  intro x hx
  simp only [List.mem_append, List.mem_singleton] at hx
  rcases hx with hx | rfl
  · have := h x hx; simp; omega
  · have := deepA_bd (b := l.length) h (by omega) a.parts
    simp [deepF]; omega
theorem longA_nn {N : List Int} (hN : ∀ x ∈ N, 0 ≤ x ∧ x ≤ 65537) (ps : List Int) (b : Int) (hb : 0 ≤ b) : 0 ≤ longA N ps b ∧ longA N ps b ≤ b + 65537 * ps.length := by
  induction ps generalizing b with
  | nil => simp [longA]; exact hb
  | cons p ps ih =>
    have : 0 ≤ N.getD p.toNat 0 ∧ N.getD p.toNat 0 ≤ 65537 := by
      rw [List.getD_eq_getElem?_getD]
      cases hx : N[p.toNat]? with
      | none => simp
      | some x => simpa using hN x (List.mem_of_getElem? hx)
    have h2 := ih (b + N.getD p.toNat 0) (by omega)
    simp only [longA, List.foldl_cons, List.length_cons] at h2 ⊢
    omega
theorem longs_bd (fmt : Int → List UInt8) (L : List Nd) : ∀ x ∈ longs fmt L, 0 ≤ x ∧ x ≤ 65537 := by
  refine snoc_ind (p := fun L => ∀ x ∈ longs fmt L, 0 ≤ x ∧ x ≤ 65537) (by simp [longs]) (fun l a h => ?_) L
  rw [longs_add]
  intro x hx
  simp only [List.mem_append, List.mem_singleton] at hx
  rcases hx with hx | rfl
  · exact h x hx
  · have := longA_nn h a.parts ((a.words fmt [] []).length : Int) (by omega)
    unfold longF
    split <;> omega
theorem signs_le {o : Int} (ho : 0 ≤ o ∧ o ≤ 16) : (signs.getD o.toNat []).length ≤ 3 := by
  have : o = 0 ∨ o = 1 ∨ o = 2 ∨ o = 3 ∨ o = 4 ∨ o = 5 ∨ o = 6 ∨ o = 7 ∨ o = 8 ∨ o = 9 ∨ o = 10 ∨ o = 11 ∨ o = 12 ∨ o = 13 ∨ o = 14 ∨ o = 15 ∨ o = 16 := by omega
  rcases this with h | h | h | h | h | h | h | h | h | h | h | h | h | h | h | h | h <;> rw [h] <;> decide
theorem words_le (F : Fmt P G) (d : Nd) (x y : List UInt8) (ho : 0 ≤ d.op ∧ d.op ≤ 16) : (d.words F.fmt x y).length ≤ x.length + y.length + 60 := by
  have l1 := F.le d.n
  have l2 := F.le d.a
  have l3 := signs_le ho
  unfold Nd.words
  split
  · omega
  · split
    · simp only [List.length_append, List.length_cons, List.length_nil]; omega
    · split
      · simp only [List.length_append, List.length_cons, List.length_nil]; omega
      · simp only [List.length_append, List.length_cons, List.length_nil]; omega

/-- A graph's heap, all told by its nodes. -/
def gG (fmt : Int → List UInt8) (v0 v1 v2 v3 v4 : Nat) (L : List Nd) : List (Option Ob) := gH v0 v1 v2 v3 v4 L (deeps L) (longs fmt L)

theorem c_AddG (hT : TabOk P tab) (F : Fmt P G) {v0 v1 v2 v3 v4 t : Nat} {L : List Nd} (d : Nd) (hL : L.length ≤ 1000000) (hn : i64 d.n) (ha : i64 d.a) :
   C P G 0 n_term_Graph_Add [.ptr 0 v0 0, .agg d.cells] ⟨t, gG F.fmt v0 v1 v2 v3 v4 L⟩ fun v σ => v = .int .i64 (addN L d).1 ∧ ∃ t' v2' v3' v4', t ≤ t' ∧ σ = ⟨t', gG F.fmt v0 v1 v2' v3' v4' (addN L d).2⟩ := by
  have hD := deeps_length L
  have hN := longs_length F.fmt L
  have hDb := deeps_bd L
  have hNb := longs_bd F.fmt L
  have hDD := deeps_add L d
  have hNN := longs_add F.fmt L d
  unfold gG
  generalize hDe : deeps L = D at hD hDb hDD ⊢
  generalize hNe : longs F.fmt L = N at hN hNb hNN ⊢
  have hkm := mget_ents d 0 L
  have hki := midx_ents d 0 L
  have hkk := keysOk_ents d 0 L
  have hkl := ents_length 0 L
  refine C_keep 5 (Nat.zero_le _) (C_tab hT t_term_Graph_Add (by simp [term_Graph_Add]) (W_run 1000 ?_))
  simp -implicitDefEqProofs (disch := omega) only [go_sem, ↓reduceIte, reduceCtorEq, Nat.reduceAdd, Nat.reduceEqDiff, Nat.zero_add, Nat.le_refl, term_Graph_Add, zqi_0, zqi_1, zqi_2, zqi_3, zqi_4, zqi_5, zqi_6, zqi_7, zqi_8, zqi_9, zqi_10, zqi_11, zqi_12, zqi_13, zqi_14, zqi_15, gH, gS, Nd.cells]
  refine callE (ex := _) hT t_term_Graph_may (c_may (o1 := _) (o2 := _) (o3 := _) (o4 := _) hT d (Nat.zero_le _)) rfl (gH_und ..) (Nat.zero_le _) rfl 1000 fun v σ hv => ?_
  obtain ⟨rfl, t1, ht1, rfl⟩ := hv
  refine ⟨rfl, gH_und .., rfl, ?_⟩
  simp only at ht1
  cases hmay : d.may L.length
  · simp -implicitDefEqProofs (disch := omega) only [go_sem, ↓reduceIte, reduceCtorEq, Nat.reduceAdd, Nat.reduceEqDiff, Nat.reduceLeDiff, Nat.zero_add, Bool.not_false, gS]
    have e1 : addN L d = (-1, L) := by simp [addN, hmay]
    rw [e1]
    simp only [hDe, hNe]
    exact ⟨trivial, _, _, _, _, by omega, ⟨rfl, rfl⟩⟩
  · simp only [Nd.cells] at hkm hki hkk
    cases hidx : idx d L with
    | some i =>
      simp -implicitDefEqProofs (disch := omega) only [go_sem, ↓reduceIte, reduceCtorEq, Nat.reduceAdd, Nat.reduceEqDiff, Nat.reduceLeDiff, Nat.reduceLT, Nat.zero_add, Bool.not_true, Nat.le_refl, Option.isSome_some, Option.getD_some, gS, hkm, hkk, hidx]
      have e1 : addN L d = ((i : Int), L) := by simp [addN, hmay, hidx]
      rw [e1]
      simp only [hDe, hNe]
      exact ⟨trivial, _, _, _, _, by omega, ⟨rfl, rfl⟩⟩
    | none =>
      simp -implicitDefEqProofs (disch := omega) only [go_sem, ↓reduceIte, reduceCtorEq, Nat.reduceAdd, Nat.reduceEqDiff, Nat.reduceLeDiff, Nat.reduceLT, Nat.zero_add, Nat.add_zero, Bool.not_true, Nat.le_refl, Option.isSome_none, Option.getD_none, gS, hkm, hkk, hidx]
      have hop : 0 ≤ d.op ∧ d.op ≤ 16 := by simp only [Nd.may] at hmay; grind
      refine callP hT t_term_words (c_words hT F d [] [] hn ha hop (by simp) (by simp)) rfl 1000 fun v hv => ?_
      subst hv
      simp -implicitDefEqProofs (disch := omega) only [go_sem, ↓reduceIte, reduceCtorEq, Nat.reduceAdd, Nat.reduceEqDiff, Nat.zero_add, Nat.le_refl]
      refine callP hT t_term_parts (c_parts hT d) rfl 1000 fun v hv => ?_
      obtain ⟨z, rfl, hz⟩ := hv
      simp -implicitDefEqProofs (disch := omega) only [go_sem, ↓reduceIte, reduceCtorEq, Nat.reduceEqDiff, List.length_map]
      have hpp : ∀ p ∈ d.parts, 0 ≤ p ∧ p < L.length := by simp only [Nd.may] at hmay; simp only [Nd.parts]; grind
      refine sem_inv (fun m fr σ => ∃ i : Nat, i ≤ d.parts.length ∧ m = d.parts.length - i ∧ fget fr 0 = .ptr 0 v0 0 ∧ fget fr 3 = .ptr 5 t 0 ∧ fget fr 7 = .int .i64 L.length ∧ fget fr 8 = .int .i64 (deepA D (d.parts.take i)) ∧ fget fr 9 = .int .i64 (longA N (d.parts.take i) ((d.words F.fmt [] []).length : Int)) ∧
        fget fr 40 = .lst z (d.parts.map (V.int .i64)) true ∧ fget fr 41 = .int .i64 d.parts.length ∧ fget fr 42 = .int .i64 i ∧ σ = ⟨t1, gH v0 v1 v2 v3 v4 L D N ++ [some (.arr t 50 d.cells)]⟩) (fun m fr σ hJ => ?_) (m0 := d.parts.length) ⟨0, Nat.zero_le _, rfl, ?_⟩
      · obtain ⟨i, hi, rfl, f0, f3, f7, f8, f9, f40, f41, f42, rfl⟩ := hJ
        refine W_run 1000 ?_
        rcases Nat.lt_or_ge i d.parts.length with hlt | hge
        · have hz1 : z = 1 := by rcases hz with h | h; exact h; rw [h] at hlt; simp at hlt
          subst hz1
          obtain ⟨p, hp⟩ : ∃ p, d.parts[i]? = some p := ⟨_, List.getElem?_eq_getElem hlt⟩
          obtain ⟨hp0, hp1⟩ := hpp p (List.mem_of_getElem? hp)
          have hg : (d.parts.map (V.int .i64)).getD i .any = V.int .i64 p := by simp [List.getD_eq_getElem?_getD, hp]
          have hp2 : p.toNat < L.length := by omega
          obtain ⟨x, hx⟩ : ∃ x, D[p.toNat]? = some x := ⟨_, List.getElem?_eq_getElem (by omega)⟩
          obtain ⟨y, hy⟩ : ∃ y, N[p.toNat]? = some y := ⟨_, List.getElem?_eq_getElem (by omega)⟩
          have hgD : (D.map (V.int .i64)).getD p.toNat .any = V.int .i64 x := by simp [List.getD_eq_getElem?_getD, hx]
          have hgN : (N.map (V.int .i64)).getD p.toNat .any = V.int .i64 y := by simp [List.getD_eq_getElem?_getD, hy]
          simp -implicitDefEqProofs (disch := omega) only [go_sem, need_of, ↓reduceIte, reduceCtorEq, Nat.reduceAdd, Nat.reduceEqDiff, Nat.reduceLeDiff, Nat.succ_ne_zero, Nat.zero_add, Nat.mul_one, decide_true, Nat.le_refl, gt_iff_lt, gH, gS, Nd.cells, List.length_map, f0, f8, f9, f40, f41, f42, hlt, hg, hp0, hp2, hgD, hgN]
          refine ⟨d.parts.length - (i + 1), _, _, by omega, Shift.refl _ _ _ _, i + 1, hlt, rfl, ?_⟩
          simp -implicitDefEqProofs (disch := omega) only [go_sem, ↓reduceIte, reduceCtorEq, Nat.reduceEqDiff, Nat.succ_ne_zero, f0, f3, f7, f40, f41]
          have hpl : d.parts.length ≤ 2 := by unfold Nd.parts; split <;> (try split) <;> simp
          have hw : IntKind.i64.wrap ((i : Int) + 1) = ((i + 1 : Nat) : Int) := by
            rw [wrap_i64 (by omega) (by omega)]; rfl
          have hpl2 : (d.parts.take i).length ≤ 2 := by rw [List.length_take]; omega
          have hA := deepA_bd hDb (by omega) (d.parts.take i)
          have hB := longA_nn hNb (d.parts.take i) ((d.words F.fmt [] []).length : Int) (by omega)
          have hxb := hDb x (List.mem_of_getElem? hx)
          have hyb := hNb y (List.mem_of_getElem? hy)
          have eA : deepA D (d.parts.take (i + 1)) = max (deepA D (d.parts.take i)) x := by
            rw [List.take_add_one, hp, Option.toList_some, deepA, List.foldl_append]; simp [deepA, List.getD_eq_getElem?_getD, hx]
          have eB : longA N (d.parts.take (i + 1)) ((d.words F.fmt [] []).length : Int) = longA N (d.parts.take i) ((d.words F.fmt [] []).length : Int) + y := by
            rw [List.take_add_one, hp, Option.toList_some, longA, List.foldl_append]; simp [longA, List.getD_eq_getElem?_getD, hy]
          have hwl := words_le F d [] [] hop
          simp only [List.length_nil] at hwl
          have hw2 : IntKind.i64.wrap (longA N (d.parts.take i) ((d.words F.fmt [] []).length : Int) + y) = longA N (d.parts.take i) ((d.words F.fmt [] []).length : Int) + y := wrap_i64 (by omega) (by omega)
          rw [hw, eA, eB, hw2]
          (repeat' (first | with_reducible refine And.intro ?_ ?_ | with_reducible intro _))
          all_goals first | rfl | (congr 1; omega) | skip
        · simp -implicitDefEqProofs (disch := omega) only [go_sem, ↓reduceIte, decide_false, gH, gS, Nd.cells, f41, f42, show ¬ i < d.parts.length from by omega]
          refine run_sem 1000 ?_
          simp -implicitDefEqProofs (disch := omega) only [go_sem, need_of, ↓reduceIte, reduceCtorEq, Nat.reduceAdd, Nat.reduceEqDiff, Nat.reduceLeDiff, Nat.reduceLT, Nat.succ_ne_zero, Nat.zero_add, Nat.add_zero, Nat.mul_one, Bool.not_true, Bool.not_false, Nat.le_refl, Nat.zero_le, Option.getD_none, List.length_map, f0, f3, f7, f8, f9, hkm, hki, hkk, hkl, hidx, ndC_length, hD, hN]
          obtain ⟨hm1, hm2⟩ := ents_ment L d hidx
          simp only [Nd.cells] at hm1 hm2
          refine ⟨⟨by omega, hm1⟩, ?_⟩
          simp only [addN, hmay, hidx, if_true]
          refine ⟨trivial, _, t1, t1 + 1, t1 + 1 + 1, by omega, ⟨rfl, ?_⟩⟩
          rw [hm2, hDD, hNN]
          have hi : i = d.parts.length := by omega
          subst hi
          have hA := deepA_bd hDb (by omega) d.parts
          have hw3 : IntKind.i64.wrap (deepA D d.parts + 1) = deepA D d.parts + 1 := wrap_i64 (by omega) (by omega)
          simp [ndC, Nd.cells, deepF, longF, hw3]
      · simp -implicitDefEqProofs (disch := omega) only [go_sem, ↓reduceIte, reduceCtorEq, Nat.reduceEqDiff, gH, gS, Nd.cells]
        exact ⟨rfl, rfl, rfl⟩
end Go.Proofs.YtfligilbnpcnaaaGreatDoor

