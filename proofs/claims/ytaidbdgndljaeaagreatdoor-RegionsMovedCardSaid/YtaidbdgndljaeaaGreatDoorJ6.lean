/- Plain: cuts, counted in a map and sorted. -/
import Derived.Test.YtaidbdgndljaeaaGreatDoorJ5
/- Plain: cuts, counted in a map and sorted. -/
namespace Go.Rg
open Go Go.Am Go.Rv
set_option maxRecDepth 100000
theorem count_one {k : Int} : ∀ {l : List Int}, l.Nodup → k ∈ l → l.count k = 1
  | [], _, h => absurd h (by simp)
  | a :: l, hn, h => by
    obtain ⟨h1, h2⟩ := List.nodup_cons.1 hn
    rw [List.count_cons]
    by_cases e : a = k
    · subst e
      rw [List.count_eq_zero.2 h1]; simp
    · have hk : k ∈ l := by simpa [Ne.symm e] using h
      rw [count_one h2 hk]; simp [e]
theorem waysIn_succ (c : List In) (F : Int) (n : Nat) (k : Int) : waysIn c F (n + 1) k = waysIn c F n k + (next c F n).count k := by
  unfold waysIn
  rw [List.range_succ, List.countP_append]
  congr 1
  rw [List.countP_cons, List.countP_nil, Nat.zero_add]
  have hn := next_nodup c F n
  by_cases h : k ∈ next c F n
  · simp only [h, decide_true, if_true]
    exact (count_one hn h).symm
  · simp only [h, decide_false, Bool.false_eq_true, if_false]
    exact (List.count_eq_zero.2 h).symm
theorem waysIn_le (c : List In) (F : Int) (n : Nat) (k : Int) : waysIn c F n k ≤ n := by
  unfold waysIn
  have := List.countP_le_length (p := fun i : Nat => decide (k ∈ next c F (i : Int))) (l := List.range n)
  simpa using this
theorem waysIn_pos {c : List In} {F : Int} {n : Nat} {k : Int} (h : 0 < waysIn c F n k) : 0 ≤ k ∧ k < c.length := by
  unfold waysIn at h
  obtain ⟨i, _, hi⟩ := List.countP_pos_iff.1 h
  exact next_in (by simpa using hi)
theorem ext_lt : ∀ (l m : List Int), l.Pairwise (· < ·) → m.Pairwise (· < ·) → (∀ x, x ∈ l ↔ x ∈ m) → l = m
  | [], [], _, _, _ => rfl
  | [], b :: m, _, _, h => absurd ((h b).2 (by simp)) (by simp)
  | a :: l, [], _, _, h => absurd ((h a).1 (by simp)) (by simp)
  | a :: l, b :: m, hl, hm, h => by
    obtain ⟨ha, hl'⟩ := List.pairwise_cons.1 hl
    obtain ⟨hb, hm'⟩ := List.pairwise_cons.1 hm
    have hab : a = b := by
      have h1 := (h a).1 (by simp)
      have h2 := (h b).2 (by simp)
      simp only [List.mem_cons] at h1 h2
      rcases h1 with h1 | h1
      · exact h1
      · rcases h2 with h2 | h2
        · exact h2.symm
        · have := hb a h1; have := ha b h2; omega
    subst hab
    rw [ext_lt l m hl' hm' fun x => ?_]
    constructor
    · intro hx
      have := (h x).1 (by simp [hx])
      simp only [List.mem_cons] at this
      rcases this with rfl | h1
      · have := ha x hx; omega
      · exact h1
    · intro hx
      have := (h x).2 (by simp [hx])
      simp only [List.mem_cons] at this
      rcases this with rfl | h1
      · have := hb x hx; omega
      · exact h1
theorem cuts_lt (c : List In) (F : Int) : (cuts c F).Pairwise (· < ·) := by
  unfold cuts
  rw [List.pairwise_map]
  exact (List.pairwise_lt_range.filter _).imp fun h => by omega
theorem sort_lt {l : List Int} (h : l.Nodup) : (l.mergeSort fun x y => decide (x ≤ y)).Pairwise (· < ·) := by
  have h1 := List.pairwise_mergeSort (le := fun x y : Int => decide (x ≤ y)) (fun a b c h1 h2 => by simp at *; omega) (fun a b => by simp; omega) l
  have h2 : (l.mergeSort fun x y => decide (x ≤ y)).Nodup := (List.mergeSort_perm _ _).nodup_iff.2 h
  exact (h1.and h2).imp fun ⟨h1, h2⟩ => by
    simp at h1
    omega
theorem cuts_of {c : List In} {F : Int} {S : List Int} {seen : List Nat} (hS : S.Nodup) (hm : ∀ k, k ∈ S ↔ 0 < waysIn c F c.length k) (hn : seen.Nodup) (hlt : ∀ i ∈ seen, i < S.length) (hall : ∀ i, i < S.length → i ∈ seen) :
    (((seen.map fun i => S.getD i 0).filter fun k => decide (1 < waysIn c F c.length k)).mergeSort fun x y => decide (x ≤ y)) = cuts c F := by
  have hmap : (seen.map fun i => S.getD i 0).Nodup := by
    unfold List.Nodup
    rw [List.pairwise_map]
    refine hn.imp_of_mem fun {i j} hi hj hne => ?_
    intro e
    have h1 := hlt i hi
    have h2 := hlt j hj
    rw [List.getD_eq_getElem?_getD, List.getD_eq_getElem?_getD, List.getElem?_eq_getElem h1, List.getElem?_eq_getElem h2] at e
    exact hne ((List.getElem_inj hS).1 e)
  refine ext_lt _ _ (sort_lt (hmap.filter _)) (cuts_lt c F) fun x => ?_
  rw [List.mem_mergeSort, List.mem_filter, mem_cuts, List.mem_map]
  constructor
  · rintro ⟨_, h2⟩
    have h2 : 1 < waysIn c F c.length x := by simpa using h2
    exact ⟨(waysIn_pos (by omega : 0 < waysIn c F c.length x)).1, (waysIn_pos (by omega : 0 < waysIn c F c.length x)).2, h2⟩
  · rintro ⟨_, _, h2⟩
    obtain ⟨i, hi, e⟩ := List.mem_iff_getElem.1 ((hm x).2 (by omega))
    refine ⟨⟨i, hall i hi, ?_⟩, by simpa using h2⟩
    rw [List.getD_eq_getElem?_getD, List.getElem?_eq_getElem hi, e]; rfl
end Go.Rg
/- Functions: cuts. -/
namespace Go.Proofs.YtaidbdgndljaeaaGreatDoor
open Go Go.Am Go.Rv Go.Rg
set_option maxRecDepth 100000
variable {G : Nat → Option V}
def cf (cnt : Int → Nat) : Int → V := fun k => .int .i64 ((cnt k : Nat) : Int)
theorem kupd_cf (cnt : Int → Nat) (a : Int) : kupd (cf cnt) a (.int .i64 ((cnt a + 1 : Nat) : Int)) = cf fun k => if k = a then cnt a + 1 else cnt k := by
  funext k
  unfold kupd cf
  split <;> simp_all
def MapAt (S : List Int) (cnt : Int → Nat) : Prop := S.Nodup ∧ ∀ k, k ∈ S ↔ 0 < cnt k
theorem MapAt.add {S : List Int} {cnt : Int → Nat} (h : MapAt S cnt) (a : Int) : MapAt (kadd S a) fun k => if k = a then cnt a + 1 else cnt k := by
  refine ⟨kadd_nodup h.1, fun k => ?_⟩
  rw [mem_kadd]
  show _ ↔ 0 < (if k = a then cnt a + 1 else cnt k)
  split
  · rename_i e; subst e; exact ⟨fun _ => by omega, fun _ => .inr rfl⟩
  · rename_i e
    exact ⟨fun hk => hk.elim (fun hk => (h.2 k).1 hk) fun hk => absurd hk e, fun hk => .inl ((h.2 k).2 hk)⟩
abbrev wyJ (nm : List UInt8) (pl : Int) (c : List In) (F : Int) (K : List Int) (tm i : Nat) (L : List Int) (cnt0 : Int → Nat) : Nat → Fr → H → Prop := fun j fr σ => ∃ t S cnt, MapAt S cnt ∧ (∀ k, cnt k = cnt0 k + (L.take j).count k) ∧ fget fr 1 = .ref (.agg (fnC nm pl c F K)) 0 ∧ fget fr 2 = .lst 0 [] true ∧ fget fr 3 = .mp 1 tm ∧ fget fr 13 = .int .i64 c.length ∧ fget fr 14 = .int .i64 ((i : Nat) : Int) ∧ fget fr 19 = .lst 1 (ints L) false ∧ fget fr 20 = .int .i64 L.length ∧ fget fr 21 = .int .i64 ((j : Nat) : Int) ∧ σ = ⟨t, [none, some (.map tm (km kI (cf cnt) S))]⟩
abbrev wyE (nm : List UInt8) (pl : Int) (c : List In) (F : Int) (K : List Int) (tm i : Nat) (L : List Int) (cnt0 : Int → Nat) : AE → Fr → H → Prop := fun e fr σ => ∃ t S cnt, e = .ex 2 ∧ MapAt S cnt ∧ (∀ k, cnt k = cnt0 k + L.count k) ∧ fget fr 1 = .ref (.agg (fnC nm pl c F K)) 0 ∧ fget fr 2 = .lst 0 [] true ∧ fget fr 3 = .mp 1 tm ∧ fget fr 13 = .int .i64 c.length ∧ fget fr 14 = .int .i64 ((i : Nat) : Int) ∧ σ = ⟨t, [none, some (.map tm (km kI (cf cnt) S))]⟩
theorem wy_round {P : Program} {nm : List UInt8} {pl F : Int} {c : List In} {K : List Int} {tm i : Nat} {L : List Int} {cnt0 : Int → Nat} (hL : L.length ≤ 1000000) (h0 : ∀ k, cnt0 k ≤ 1000000) (hn : ∀ k, L.count k ≤ 1) {j : Nat} {x : Int} (hx : L[j]? = some x) {fr : Fr} {σ : H} (hJ : wyJ nm pl c F K tm i L cnt0 j fr σ) :
    W P G 47 0 (AC.seq (AC.reg zq1l_6 [])   (AC.seq (AC.cond (Arg.t 22)   AC.skip   (AC.exit 2))   (AC.seq (AC.block 3 (AC.seq (AC.reg zq1l_7 [23, 24])   (AC.reg zq1l_8 [25, 26, 27, 28])))   (AC.reg zq1l_9 [29])))) fr σ (seqQ (fun fr σ => ∃ fr' σ', Shift G 47 0 fr σ fr' σ' ∧ wyJ nm pl c F K tm i L cnt0 (j + 1) fr' σ') (wyE nm pl c F K tm i L cnt0)) := by
  obtain ⟨t, S, cnt, hM, hc, f1, f2, f3, f13, f14, f19, f20, f21, rfl⟩ := hJ
  have hlt := (List.getElem?_eq_some_iff.1 hx).1
  have hD := ints_getD hx
  have e2 := wnext hlt (by omega)
  have hcx := hc x
  have hle : (L.take j).count x ≤ L.count x := (List.take_sublist j L).count_le x
  have hcb : cnt x ≤ 1000001 := by have := h0 x; have := hn x; omega
  have w1 : IntKind.i64.wrap (((cnt x : Nat) : Int) + 1) = ((cnt x + 1 : Nat) : Int) := by rw [wself (by omega)]; rfl
  have hg : (mget [Kd.i] (.int .i64 x) (km kI (cf cnt) S)).getD (.int .i64 0) = .int .i64 ((cnt x : Nat) : Int) := by
    have := mget_km (ks := [Kd.i]) (key := kI) kI_eq (cf cnt) x S
    rw [show kI x = V.int .i64 x from rfl] at this
    rw [this]
    split
    · rfl
    · rename_i hx
      have : cnt x = 0 := by
        rcases Nat.eq_zero_or_pos (cnt x) with h | h
        · exact h
        · exact absurd ((hM.2 x).2 h) hx
      simp [this]
  have hp : mput [Kd.i] (.int .i64 x) (.int .i64 ((cnt x + 1 : Nat) : Int)) (km kI (cf cnt) S) = km kI (cf fun k => if k = x then cnt x + 1 else cnt k) (kadd S x) := by
    have := mput_km (ks := [Kd.i]) (key := kI) kI_eq (cf cnt) x (.int .i64 ((cnt x + 1 : Nat) : Int)) S hM.1
    rw [kupd_cf] at this
    exact this
  have hk : ∀ f S, keysOk false [Kd.i] (V.int .i64 x) (km kI f S) = True := fun f S => eq_true (keysOk_I x f S)
  have hnl : nameless (V.int .i64 x) = true := rfl
  refine W_round [(1, .ref (.agg (fnC nm pl c F K)) 0), (2, .lst 0 [] true), (3, .mp 1 tm), (13, .int .i64 c.length), (14, .int .i64 ((i : Nat) : Int)), (19, .lst 1 (ints L) false), (20, .int .i64 L.length), (21, .int .i64 ((j : Nat) : Int))] ⟨f1, f2, f3, f13, f14, f19, f20, f21, trivial⟩  1000 ?_
  simp -implicitDefEqProofs (disch := omega) only [go_sem, need_of, ↓reduceIte, Nat.reduceEqDiff, Nat.zero_add, decide_true, Bool.not_false, Nat.le_refl, Nat.zero_le, zq1l_6, zq1l_7, zq1l_8, zq1l_9, fnC, insV, cutsV, inC, V.cells, ints_length, true_implies, and_true, Bool.not_false, hlt, hD, hg, hp, hk, w1, hnl]
  refine ⟨_, _, Shift.refl _ _ _ _, t, kadd S x, _, hM.add x, fun k => ?_, ?_⟩
  · rw [List.take_add_one, hx, List.count_append]
    have := hc k
    by_cases e : k = x
    · subst e; simp; omega
    · simp [e, Ne.symm e]; omega
  · simp -implicitDefEqProofs (disch := omega) only [go_sem, ↓reduceIte, Nat.reduceEqDiff, fnC, insV, cutsV, inC, and_true, e2]
abbrev cuJ (nm : List UInt8) (pl : Int) (c : List In) (F : Int) (K : List Int) (tm : Nat) : Nat → Fr → H → Prop := fun i fr σ => ∃ t S cnt, MapAt S cnt ∧ (∀ k, cnt k = waysIn c F i k) ∧ fget fr 1 = .ref (.agg (fnC nm pl c F K)) 0 ∧ fget fr 2 = .lst 0 [] true ∧ fget fr 3 = .mp 1 tm ∧ fget fr 13 = .int .i64 c.length ∧ fget fr 14 = .int .i64 ((i : Nat) : Int) ∧ σ = ⟨t, [none, some (.map tm (km kI (cf cnt) S))]⟩
abbrev cuE (nm : List UInt8) (pl : Int) (c : List In) (F : Int) (K : List Int) (tm : Nat) : AE → Fr → H → Prop := fun e fr σ => ∃ t S cnt, e = .ex 0 ∧ MapAt S cnt ∧ (∀ k, cnt k = waysIn c F c.length k) ∧ fget fr 1 = .ref (.agg (fnC nm pl c F K)) 0 ∧ fget fr 2 = .lst 0 [] true ∧ fget fr 3 = .mp 1 tm ∧ σ = ⟨t, [none, some (.map tm (km kI (cf cnt) S))]⟩
theorem next_len (c : List In) (F i : Int) : (next c F i).length ≤ 2 := by
  unfold next
  split
  · simp
  · split
    · simp
    · refine Nat.le_trans (List.length_filter_le _ _) ?_
      unfold Rg.ways
      split
      · unfold two; split
        · simp
        · split <;> simp
      · split <;> simp
theorem cu_round (hT : TabOk Tryz.prog tab) {nm : List UInt8} {pl F : Int} {c : List In} {K : List Int} {tm : Nat} (hl : c.length ≤ 1000000) (hc : ∀ x ∈ c, InOk x) {i : Nat} {x : In} (hx : c[i]? = some x) {fr : Fr} {σ : H} (hJ : cuJ nm pl c F K tm i fr σ) :
    W Tryz.prog G 47 0 (AC.seq (AC.reg zq1l_3 [])   (AC.seq (AC.cond (Arg.t 15)   AC.skip   (AC.exit 0))   (AC.seq (AC.block 1 (AC.seq (AC.reg zq1l_4 [16])   (AC.seq (AC.reg zq1l_5 [17, 18])   (AC.block 2 (AC.loop (AC.seq (AC.reg zq1l_6 [])   (AC.seq (AC.cond (Arg.t 22)   AC.skip   (AC.exit 2))   (AC.seq (AC.block 3 (AC.seq (AC.reg zq1l_7 [23, 24])   (AC.reg zq1l_8 [25, 26, 27, 28])))   (AC.reg zq1l_9 [29])))))))))   (AC.reg zq1l_10 [30])))) fr σ (seqQ (fun fr σ => ∃ fr' σ', Shift G 47 0 fr σ fr' σ' ∧ cuJ nm pl c F K tm (i + 1) fr' σ') (cuE nm pl c F K tm)) := by
  obtain ⟨t, S, cnt, hM, hcn, f1, f2, f3, f13, f14, rfl⟩ := hJ
  have hlt := (List.getElem?_eq_some_iff.1 hx).1
  have e2 := wnext hlt (by omega)
  have hN := c_Next (G := G) hT nm pl F c K (i : Int) hl hc (by omega)
  have hn2 : namelessL [.agg (fnC nm pl c F K), .int .i64 (i : Int)] = true := by
    have hnl := fn_nl (nm := nm) (pl := pl) (F := F) (c := c) (K := K)
    simp [namelessL, nameless, hnl]
  have hll := next_len c F i
  have hnd := next_nodup c F i
  have hsuc := fun k => waysIn_succ c F i k
  generalize hL : next c F i = L at *
  simp only [fnC, insV, cutsV, inC] at hN hn2
  refine W_round [(1, .ref (.agg (fnC nm pl c F K)) 0), (2, .lst 0 [] true), (3, .mp 1 tm), (13, .int .i64 c.length), (14, .int .i64 ((i : Nat) : Int))] ⟨f1, f2, f3, f13, f14, trivial⟩  14 ?_
  simp -implicitDefEqProofs (disch := omega) only [go_sem, ↓reduceIte, Nat.reduceEqDiff, decide_true, zq1l_3, zq1l_4, zq1l_5, zq1l_6, zq1l_7, zq1l_8, zq1l_9, zq1l_10, fnC, insV, cutsV, inC, hlt]
  iterate 4 (try (refine run_sem 4 ?_; simp -implicitDefEqProofs (disch := omega) only [go_sem, ↓reduceIte, reduceCtorEq, Nat.reduceAdd, Nat.reduceEqDiff, Nat.zero_add, Nat.le_refl, V.cells, false_implies, and_true]))
  refine callPS hT t_regions_Func_Next hN hn2 12 ?_
  simp -implicitDefEqProofs (disch := omega) only [go_sem, ↓reduceIte, Nat.reduceEqDiff, ints_length]
  refine sem_for L (wyJ nm pl c F K tm i L cnt) (wyE nm pl c F K tm i L cnt) ⟨t, S, cnt, hM, by simp, ?_⟩ (fun j x hx fr σ hJ => wy_round (by omega) (fun k => by rw [hcn]; have := waysIn_le c F i k; omega) (fun k => ?_) hx hJ) (fun j hj fr σ hJ => ?_) (fun e fr σ hE => ?_)
  · simp -implicitDefEqProofs (disch := omega) only [go_sem, ↓reduceIte, Nat.reduceEqDiff, fnC, insV, cutsV, inC, true_and, and_true]
    try simp
  · by_cases hk : k ∈ L
    · rw [count_one hnd hk]; exact Nat.le_refl _
    · rw [List.count_eq_zero.2 hk]; omega
  · obtain ⟨t2, S2, cnt2, hM2, hc2, f1, f2, f3, f13, f14, f19, f20, f21, rfl⟩ := hJ
    rw [hj, List.take_length] at hc2
    refine W_round [(1, .ref (.agg (fnC nm pl c F K)) 0), (2, .lst 0 [] true), (3, .mp 1 tm), (13, .int .i64 c.length), (14, .int .i64 ((i : Nat) : Int)), (19, .lst 1 (ints L) false), (20, .int .i64 L.length), (21, .int .i64 ((j : Nat) : Int))] ⟨f1, f2, f3, f13, f14, f19, f20, f21, trivial⟩  12 ?_
    simp -implicitDefEqProofs (disch := omega) only [go_sem, ↓reduceIte, Nat.reduceEqDiff, decide_false, fnC, insV, cutsV, inC, hj, Nat.lt_irrefl]
    exact ⟨t2, S2, cnt2, rfl, hM2, hc2, rfl, rfl, rfl, rfl, rfl, rfl⟩
  · obtain ⟨t2, S2, cnt2, rfl, hM2, hc2, f1, f2, f3, f13, f14, rfl⟩ := hE
    refine sem_exit2 [(1, .ref (.agg (fnC nm pl c F K)) 0), (2, .lst 0 [] true), (3, .mp 1 tm), (13, .int .i64 c.length), (14, .int .i64 ((i : Nat) : Int))] ⟨f1, f2, f3, f13, f14, trivial⟩ 12 ?_
    simp -implicitDefEqProofs (disch := omega) only [go_sem, ↓reduceIte, Nat.reduceEqDiff, fnC, insV, cutsV, inC, e2]
    refine ⟨_, _, Shift.refl _ _ _ _, t2, S2, cnt2, hM2, fun k => by rw [hc2, hcn, hsuc], ?_⟩
    simp -implicitDefEqProofs (disch := omega) only [go_sem, ↓reduceIte, Nat.reduceEqDiff, fnC, insV, cutsV, inC, and_true]
def got (S : List Int) (cnt : Int → Nat) (seen : List Nat) : List Int := (seen.map fun i => S.getD i 0).filter fun k => decide (1 < cnt k)
theorem got_snoc (S : List Int) (cnt : Int → Nat) (seen : List Nat) (i : Nat) : got S cnt (seen ++ [i]) = got S cnt seen ++ (if 1 < cnt (S.getD i 0) then [S.getD i 0] else []) := by
  unfold got
  rw [List.map_append, List.filter_append]
  congr 1
  simp only [List.map_cons, List.map_nil, List.filter_cons, List.filter_nil, decide_eq_true_eq]
theorem seen_len {seen : List Nat} {n : Nat} (hn : seen.Nodup) (h : ∀ i ∈ seen, i < n) : seen.length ≤ n := by
  have := List.Nodup.length_le_of_subset hn (l₂ := List.range n) fun i hi => List.mem_range.2 (h i hi)
  simpa using this
abbrev rgJ (nm : List UInt8) (pl : Int) (c : List In) (F : Int) (K : List Int) (tm ti : Nat) (S : List Int) (cnt : Int → Nat) : Nat → Fr → H → Prop := fun m fr σ => ∃ t w seen out, seen.Nodup ∧ (∀ i ∈ seen, i < S.length) ∧ m = S.length - seen.length ∧ out = got S cnt seen ∧ fget fr 1 = .ref (.agg (fnC nm pl c F K)) 0 ∧ fget fr 7 = .sl 2 w 0 1 out.length none ∧ fget fr 32 = .ptr 3 ti 0 ∧ σ = ⟨t, [none, some (.map tm (km kI (cf cnt) S)), some (.arr w 3 (ints out)), some (.it ti 1 tm S.length seen)]⟩
abbrev rgE (S : List Int) (cnt : Int → Nat) : AE → Fr → H → Prop := fun e fr σ => ∃ t w seen out X Y, e = .ex 4 ∧ seen.Nodup ∧ (∀ i ∈ seen, i < S.length) ∧ (∀ i, i < S.length → i ∈ seen) ∧ out = got S cnt seen ∧ fget fr 7 = .sl 2 w 0 1 out.length none ∧ σ = ⟨t, [none, X, some (.arr w 3 (ints out)), Y]⟩
theorem rg_round {P : Program} {nm : List UInt8} {pl F : Int} {c : List In} {K : List Int} {tm ti : Nat} {S : List Int} {cnt : Int → Nat} (hS : S.length ≤ 1000000) {m : Nat} {fr : Fr} {σ : H} (hJ : rgJ nm pl c F K tm ti S cnt m fr σ) :
    W P G 47 0 (AC.seq (AC.reg zq1l_13 [33])   (AC.seq (AC.cond (Arg.t 34)   AC.skip   (AC.exit 4))   (AC.block 5 (AC.seq (AC.reg zq1l_14 [35, 36, 37])   (AC.seq (AC.reg zq1l_15 [38])   (AC.cond (Arg.t 39)   (AC.reg zq1l_16 [40, 41, 42, 43])   AC.skip)))))) fr σ (seqQ (fun fr σ => ∃ m' fr' σ', m' < m ∧ Shift G 47 0 fr σ fr' σ' ∧ rgJ nm pl c F K tm ti S cnt m' fr' σ') (rgE S cnt)) := by
  obtain ⟨t, w, seen, out, hn, hlt, rfl, ho, f1, f7, f32, rfl⟩ := hJ
  have hsl := seen_len hn hlt
  refine W_round [(1, .ref (.agg (fnC nm pl c F K)) 0), (7, .sl 2 w 0 1 out.length none), (32, .ptr 3 ti 0)] ⟨f1, f7, f32, trivial⟩  12 ?_
  simp -implicitDefEqProofs (disch := omega) only [go_sem, ↓reduceIte, Bool.not_false, zq1l_13, zq1l_14, zq1l_15, zq1l_16, fnC, insV, cutsV, inC, Bool.not_false]
  simp only [evW]
  simp -implicitDefEqProofs (disch := omega) only [go_sem, ↓reduceIte, Nat.reduceAdd, Nat.reduceEqDiff, Nat.reduceLT, Nat.zero_add, Bool.not_false, Nat.zero_le, and_true, Bool.not_false, km_length]
  refine ⟨fun hall => ⟨t, w, seen, out, _, _, rfl, hn, hlt, hall, ho, rfl, rfl⟩, fun i hi hni => ?_⟩
  have hgl : (seen ++ [i]).getLast? = some i := by simp
  have hgd : (km kI (cf cnt) S).getD i (V.any, V.any) = (.int .i64 (S.getD i 0), .int .i64 ((cnt (S.getD i 0) : Nat) : Int)) := by
    simp [km, List.getD_eq_getElem?_getD, List.getElem?_eq_getElem hi, kI, cf]
  have hgs := got_snoc S cnt seen i
  rw [← ho] at hgs
  have hol : out.length ≤ S.length := by rw [ho]; unfold got; have := List.length_filter_le (fun k => decide (1 < cnt k)) (seen.map fun i => S.getD i 0); rw [List.length_map] at this; omega
  have hsn : seen.length < S.length := by
    have h2 : (seen ++ [i]).Nodup := by rw [List.nodup_append]; exact ⟨hn, by simp, fun a ha b hb => by simp at hb; subst hb; exact fun e => hni (e ▸ ha)⟩
    have := seen_len h2 (n := S.length) fun j hj => by
      simp only [List.mem_append, List.mem_singleton] at hj
      rcases hj with hj | rfl
      · exact hlt j hj
      · exact hi
    simp at this; omega
  have hn2 : (seen ++ [i]).Nodup := by rw [List.nodup_append]; exact ⟨hn, by simp, fun a ha b hb => by simp at hb; subst hb; exact fun e => hni (e ▸ ha)⟩
  have hlt2 : ∀ j ∈ seen ++ [i], j < S.length := fun j hj => by
    simp only [List.mem_append, List.mem_singleton] at hj
    rcases hj with hj | rfl
    · exact hlt j hj
    · exact hi
  generalize S.getD i 0 = x at *
  have hap : ∀ (l : List Int) (y : Int), ints l ++ [V.int .i64 y] = ints (l ++ [y]) := fun l y => by simp [ints]
  simp only [evW]
  simp -implicitDefEqProofs (disch := omega) only [go_sem, ↓reduceIte, Nat.reduceEqDiff, and_true, km_length, hgl, hgd, hi]
  by_cases h1 : 1 < cnt x
  · rw [if_pos h1] at hgs
    have h1' : decide ((1 : Int) < ((cnt x : Nat) : Int)) = true := decide_eq_true (by omega)
    have h1'' : ((1 : Int) < ((cnt x : Nat) : Int)) = True := eq_true (by omega)
    have hln : out.length + 1 = (out ++ [x]).length := by simp
    iterate 6 (try (refine run_sem 4 ?_; simp -implicitDefEqProofs (disch := omega) only [go_sem, need_of, ↓reduceIte, reduceCtorEq, Nat.reduceAdd, Nat.reduceEqDiff, Nat.reduceLeDiff, Nat.reduceLT, Nat.zero_add, Nat.mul_one, decide_true, Bool.not_true, Nat.le_refl, Nat.zero_le, gt_iff_lt, V.cells, ints_length, true_and, and_true, Bool.not_true, List.cons_append, List.nil_append, gt_iff_lt, h1'', hap]))
    refine ⟨S.length - (seen.length + 1), _, _, by omega, Shift.refl _ _ _ _, t + 1, t, seen ++ [i], out ++ [x], hn2, hlt2, by simp, hgs.symm, ?_⟩
    simp -implicitDefEqProofs (disch := omega) only [go_sem, ↓reduceIte, Nat.reduceEqDiff, fnC, insV, cutsV, inC, and_true, hln]
    try simp
  · rw [if_neg h1, List.append_nil] at hgs
    have h1' : decide ((1 : Int) < ((cnt x : Nat) : Int)) = false := decide_eq_false (by omega)
    have h1'' : ((1 : Int) < ((cnt x : Nat) : Int)) = False := eq_false (by omega)
    iterate 6 (try (refine run_sem 4 ?_; simp -implicitDefEqProofs (disch := omega) only [go_sem, ↓reduceIte, Nat.reduceAdd, Nat.reduceEqDiff, Nat.reduceLT, Nat.zero_add, decide_false, gt_iff_lt, gt_iff_lt, h1'']))
    refine ⟨S.length - (seen.length + 1), _, _, by omega, Shift.refl _ _ _ _, t, w, seen ++ [i], out, hn2, hlt2, by simp, hgs.symm, ?_⟩
    simp -implicitDefEqProofs (disch := omega) only [go_sem, ↓reduceIte, Nat.reduceEqDiff, fnC, insV, cutsV, inC, and_true]
    try simp
theorem c_cuts (hT : TabOk Tryz.prog tab) (nm : List UInt8) (pl F : Int) (c : List In) (K : List Int) (hl : c.length ≤ 1000) (hc : ∀ x ∈ c, InOk x) : Am.Pure Tryz.prog G n_regions_Func_cuts [.agg (fnC nm pl c F K)] fun v => v = cutsV (Rg.cuts c F) := by
  have hnl := fn_nl (nm := nm) (pl := pl) (F := F) (c := c) (K := K)
  refine Pure_frz (fun t => ?_) (by simp [cutsV, nameless])
  refine C_tab hT t_regions_Func_cuts (by simp [regions_Func_cuts]) (W_run 5 ?_)
  simp -implicitDefEqProofs (disch := omega) only [go_sem, ↓reduceIte, reduceCtorEq, Nat.reduceEqDiff, regions_Func_cuts, zq1l_0, zq1l_1, zq1l_2, zq1l_3, zq1l_4, zq1l_5, zq1l_6, zq1l_7, zq1l_8, zq1l_9, zq1l_10, zq1l_11, zq1l_12, zq1l_13, zq1l_14, zq1l_15, zq1l_16, zq1l_17, zq1l_18, fnC, insV, cutsV, inC, V.cells, and_true, List.nil_append]
  refine sem_shift (Shift.freeze (k := 0) (v := t) (T := 37) (cs := fnC nm pl c F K) (Nat.zero_le _) rfl hnl) ?_
  simp only [fnC, insV, cutsV, inC, frzFr_cons, frzFr_nil, frzL, frzV, mapFrom, List.set_cons_zero, Option.map_none]
  refine run_sem 40 ?_
  simp -implicitDefEqProofs (disch := omega) only [go_sem, ↓reduceIte, reduceCtorEq, Nat.reduceAdd, Nat.reduceEqDiff, Nat.reduceLeDiff, Nat.zero_add, V.cells, List.length_map, true_implies, and_true, List.cons_append, List.nil_append, H.push]
  generalize t + 1 = tm at *
  refine sem_for c (cuJ nm pl c F K tm) (cuE nm pl c F K tm) ⟨tm + 1, [], fun _ => 0, ⟨by simp, by simp⟩, by simp [waysIn], ?_⟩ (fun i x hx fr σ hJ => cu_round hT (by omega) hc hx hJ) (fun i hi fr σ hJ => ?_) (fun e fr σ hE => ?_)
  · simp -implicitDefEqProofs (disch := omega) only [go_sem, ↓reduceIte, reduceCtorEq, Nat.reduceEqDiff, fnC, insV, cutsV, inC, true_and]
    try simp [km]
  · obtain ⟨t2, S, cnt, hM, hcn, f1, f2, f3, f13, f14, rfl⟩ := hJ
    refine W_round [(1, .ref (.agg (fnC nm pl c F K)) 0), (2, .lst 0 [] true), (3, .mp 1 tm), (13, .int .i64 c.length), (14, .int .i64 ((i : Nat) : Int))] ⟨f1, f2, f3, f13, f14, trivial⟩  12 ?_
    simp -implicitDefEqProofs (disch := omega) only [go_sem, ↓reduceIte, Nat.reduceEqDiff, decide_false, fnC, insV, cutsV, inC, hi, Nat.lt_irrefl]
    exact ⟨t2, S, cnt, rfl, hM, by rw [← hi]; exact hcn, rfl, rfl, rfl, rfl⟩
  · obtain ⟨t2, S, cnt, rfl, hM, hcn, f1, f2, f3, rfl⟩ := hE
    have hSl : S.length ≤ c.length := by
      have h := List.Nodup.length_le_of_subset hM.1 (l₂ := (List.range c.length).map fun k : Nat => (k : Int)) fun k hk => by
        have h1 := (hM.2 k).1 hk
        rw [hcn] at h1
        have := waysIn_pos h1
        exact List.mem_map.2 ⟨k.toNat, List.mem_range.2 (by omega), by omega⟩
      simpa using h
    refine sem_exit [(1, .ref (.agg (fnC nm pl c F K)) 0), (2, .lst 0 [] true), (3, .mp 1 tm)] ⟨f1, f2, f3, trivial⟩ 4 ?_
    simp -implicitDefEqProofs (disch := omega) only [go_sem, ↓reduceIte, Nat.reduceEqDiff, fnC, insV, cutsV, inC]
    refine sem_shift (Shift.own (s := 7) (z := 0) (sz := 1) (T := 3) (by simp -implicitDefEqProofs (disch := omega) only [go_sem, ↓reduceIte, Nat.reduceEqDiff]) (by decide)) ?_
    simp -implicitDefEqProofs (disch := omega) only [go_sem, ↓reduceIte, Nat.reduceAdd, Nat.reduceEqDiff, Nat.zero_add, H.push]
    refine run_sem 12 ?_
    simp -implicitDefEqProofs (disch := omega) only [go_sem, ↓reduceIte, Nat.reduceEqDiff, Bool.not_false, Bool.not_false]
    simp only [evW]
    simp -implicitDefEqProofs (disch := omega) only [go_sem, ↓reduceIte, Nat.reduceAdd, Nat.reduceEqDiff, Nat.zero_add, List.cons_append, List.nil_append, km_length, H.push]
    refine sem_invE (rgJ nm pl c F K tm (t2 + 1) S cnt) (rgE S cnt) (m0 := S.length) ⟨t2 + 1 + 1, t2, [], [], by simp, by simp, by simp, by simp [got], ?_⟩ (fun m fr σ hJ => rg_round (by omega) hJ) (fun e fr σ hE => ?_)
    · simp -implicitDefEqProofs (disch := omega) only [go_sem, ↓reduceIte, Nat.reduceEqDiff, fnC, insV, cutsV, inC, true_and]
      try simp [ints]
    · obtain ⟨t3, w, seen, out, X, Y, rfl, hsn, hslt, hall, hout, f7, rfl⟩ := hE
      have hol : out.length ≤ S.length := by
        rw [hout]; unfold got
        have h1 := List.length_filter_le (fun k => decide (1 < cnt k)) (seen.map fun i => S.getD i 0)
        rw [List.length_map] at h1
        have h2 := seen_len hsn hslt
        omega
      have hfin : (out.mergeSort fun x y => decide (x ≤ y)) = Rg.cuts c F := by
        have := cuts_of (c := c) (F := F) hM.1 (fun k => by rw [hM.2, hcn]) hsn hslt hall
        rw [hout]; unfold got
        rw [show (fun k => decide (1 < cnt k)) = fun k => decide (1 < waysIn c F c.length k) from funext fun k => by rw [hcn]]
        exact this
      have hS := c_SortF (P := Tryz.prog) (G := G) (sortI rfl) (base := 0) (k := 2) (v := w) (T := 3) (t := t3) (o := [none, X, some (.arr w 3 (ints out)), Y]) (zs := out) (n := out.length) (lim := none) (Nat.zero_le _) rfl rfl (by omega)
      rw [hfin] at hS
      have hcl : (Rg.cuts c F).length = out.length := by rw [← hfin]; simp
      refine sem_exit [(7, .sl 2 w 0 1 out.length none)] ⟨f7, trivial⟩ 12 ?_
      simp -implicitDefEqProofs (disch := omega) only [go_sem, ↓reduceIte, Nat.reduceEqDiff]
      refine call hT t_slices_Sort_int_int hS 12 fun v σ hv => ?_
      obtain ⟨rfl, rfl⟩ := hv
      simp -implicitDefEqProofs (disch := omega) only [go_sem, ↓reduceIte, Nat.reduceEqDiff]
      have hfz : frzV 2 w (ints (Rg.cuts c F)) (.sl 2 w 0 1 out.length none) = cutsV (Rg.cuts c F) := by
        rw [← hcl]
        have hle : (Rg.cuts c F).length ≤ (ints (Rg.cuts c F)).length := by rw [ints_length]; exact Nat.le_refl _
        simp [frzV, rowsV, cutsV, List.take_of_length_le, ints_length]
      refine ⟨2, w, 3, ints (Rg.cuts c F), rfl, ints_nameless _, ?_, ?_⟩
      · rw [hfz]; simp [cutsV, nameless]
      · rw [hfz]; exact .refl _
end Go.Proofs.YtaidbdgndljaeaaGreatDoor
/- Functions: frames; is a byte among bytes? -/
namespace Go.Proofs.YtaidbdgndljaeaaGreatDoor
open Go Go.Am Go.Rv Go.Rg
set_option maxRecDepth 100000
variable {P : Program} {G : Nat → Option V}
theorem ibne (a b : Int) : (a != b) = !decide (a = b) := by rw [Bool.eq_iff_iff]; simp
theorem c_frame (hT : TabOk P tab) (x : In) (hb : -9223372036854775808 < x.imm ∧ x.imm ≤ 9223372036854775807) : Am.Pure P G n_regions_frame [.agg (inC x)] fun v => v = .int .i64 (frameOf x) := by
  intro t
  have w1 : IntKind.i64.wrap (0 - x.imm) = -x.imm := by rw [wself (by omega)]; omega
  have w2 : IntKind.i64.wrap (-x.imm) = -x.imm := wself (by omega)
  refine C_keep 0 (Nat.zero_le _) (C_tab hT t_regions_frame (by simp [regions_frame]) (W_run 12 ?_))
  unfold frameOf
  by_cases g1 : x.op = 22
  · have g1' : (x.op != 22) = false := by simp [g1]
    by_cases g2 : x.rd = 2
    · have g2' : (x.rd != 2) = false := by simp [g2]
      by_cases g3 : x.rs1 = 2
      · have g3' : (x.rs1 != 2) = false := by simp [g3]
        by_cases g4 : -x.imm < 8
        · have g4' : decide (-x.imm < 8) = true := decide_eq_true g4
          rw [if_neg (by omega)]
          simp -implicitDefEqProofs (disch := omega) only [go_sem, ↓reduceIte, reduceCtorEq, Nat.reduceAdd, Nat.reduceEqDiff, Nat.zero_add, Nat.le_refl, regions_frame, zq1j_0, zq1j_1, zq1j_2, zq1j_3, zq1j_4, inC, V.cells, true_implies, and_true, List.nil_append, w1]
          iterate 12 (try (refine run_sem 4 ?_; simp -implicitDefEqProofs (disch := omega) only [go_sem, ↓reduceIte, reduceCtorEq, Nat.reduceAdd, Nat.reduceEqDiff, Nat.reduceLeDiff, Nat.zero_add, Nat.add_zero, decide_true, Nat.zero_le, true_implies, and_true, g1', g2', g3', g4]))
        · have g4' : decide (-x.imm < 8) = false := decide_eq_false g4
          by_cases g5 : 1984 < -x.imm
          · have g5' : decide (1984 < -x.imm) = true := decide_eq_true g5
            rw [if_neg (by omega)]
            simp -implicitDefEqProofs (disch := omega) only [go_sem, ↓reduceIte, reduceCtorEq, Nat.reduceAdd, Nat.reduceEqDiff, Nat.zero_add, Nat.le_refl, regions_frame, zq1j_0, zq1j_1, zq1j_2, zq1j_3, zq1j_4, inC, V.cells, true_implies, and_true, List.nil_append, w1]
            iterate 12 (try (refine run_sem 4 ?_; simp -implicitDefEqProofs (disch := omega) only [go_sem, ↓reduceIte, reduceCtorEq, Nat.reduceAdd, Nat.reduceEqDiff, Nat.reduceLeDiff, Nat.zero_add, Nat.add_zero, decide_true, decide_false, Nat.zero_le, gt_iff_lt, true_implies, and_true, gt_iff_lt, g1', g2', g3', g4, g5]))
          · have g5' : decide (1984 < -x.imm) = false := decide_eq_false g5
            by_cases g6 : (-x.imm).tmod 8 = 0
            · have g6' : ((-x.imm).tmod 8 != 0) = false := by rw [ibne, decide_eq_true g6]; rfl
              rw [if_pos ⟨g1, g2, g3, by omega, by omega, g6⟩]
              simp -implicitDefEqProofs (disch := omega) only [go_sem, ↓reduceIte, reduceCtorEq, Nat.reduceAdd, Nat.reduceEqDiff, Nat.zero_add, Nat.le_refl, regions_frame, zq1j_0, zq1j_1, zq1j_2, zq1j_3, zq1j_4, inC, V.cells, true_implies, and_true, List.nil_append, w1]
              iterate 12 (try (refine run_sem 4 ?_; simp -implicitDefEqProofs (disch := omega) only [go_sem, ↓reduceIte, reduceCtorEq, Nat.reduceAdd, Nat.reduceEqDiff, Nat.reduceLeDiff, Int.reduceEq, Nat.zero_add, Nat.add_zero, decide_false, Nat.zero_le, gt_iff_lt, true_implies, and_true, not_false_eq_true, gt_iff_lt, g1', g2', g3', g4, g5, g6']))
            · have g6' : ((-x.imm).tmod 8 != 0) = true := by rw [ibne, decide_eq_false g6]; rfl
              rw [if_neg (fun h => g6 h.2.2.2.2.2)]
              simp -implicitDefEqProofs (disch := omega) only [go_sem, ↓reduceIte, reduceCtorEq, Nat.reduceAdd, Nat.reduceEqDiff, Nat.zero_add, Nat.le_refl, regions_frame, zq1j_0, zq1j_1, zq1j_2, zq1j_3, zq1j_4, inC, V.cells, true_implies, and_true, List.nil_append, w1]
              iterate 12 (try (refine run_sem 4 ?_; simp -implicitDefEqProofs (disch := omega) only [go_sem, ↓reduceIte, reduceCtorEq, Nat.reduceAdd, Nat.reduceEqDiff, Nat.reduceLeDiff, Int.reduceEq, Nat.zero_add, Nat.add_zero, decide_false, Nat.zero_le, gt_iff_lt, true_implies, and_true, not_false_eq_true, gt_iff_lt, g1', g2', g3', g4, g5, g6']))
      · have g3' : (x.rs1 != 2) = true := by simp [g3]
        rw [if_neg (fun h => g3 h.2.2.1)]
        simp -implicitDefEqProofs (disch := omega) only [go_sem, ↓reduceIte, reduceCtorEq, Nat.reduceAdd, Nat.reduceEqDiff, Nat.zero_add, Nat.le_refl, regions_frame, zq1j_0, zq1j_1, zq1j_2, zq1j_3, zq1j_4, inC, V.cells, true_implies, and_true, List.nil_append, w1]
        iterate 12 (try (refine run_sem 4 ?_; simp -implicitDefEqProofs (disch := omega) only [go_sem, ↓reduceIte, reduceCtorEq, Nat.reduceAdd, Nat.reduceEqDiff, Nat.reduceLeDiff, Nat.zero_add, Nat.add_zero, Nat.zero_le, true_implies, and_true, g1', g2', g3']))
    · have g2' : (x.rd != 2) = true := by simp [g2]
      rw [if_neg (fun h => g2 h.2.1)]
      simp -implicitDefEqProofs (disch := omega) only [go_sem, ↓reduceIte, reduceCtorEq, Nat.reduceAdd, Nat.reduceEqDiff, Nat.zero_add, Nat.le_refl, regions_frame, zq1j_0, zq1j_1, zq1j_2, zq1j_3, zq1j_4, inC, V.cells, true_implies, and_true, List.nil_append, w1]
      iterate 12 (try (refine run_sem 4 ?_; simp -implicitDefEqProofs (disch := omega) only [go_sem, ↓reduceIte, reduceCtorEq, Nat.reduceAdd, Nat.reduceEqDiff, Nat.reduceLeDiff, Nat.zero_add, Nat.add_zero, Nat.zero_le, true_implies, and_true, g1', g2']))
  · have g1' : (x.op != 22) = true := by simp [g1]
    rw [if_neg (fun h => g1 h.1)]
    simp -implicitDefEqProofs (disch := omega) only [go_sem, ↓reduceIte, reduceCtorEq, Nat.reduceAdd, Nat.reduceEqDiff, Nat.zero_add, Nat.le_refl, regions_frame, zq1j_0, zq1j_1, zq1j_2, zq1j_3, zq1j_4, inC, V.cells, true_implies, and_true, List.nil_append, w1]
    iterate 12 (try (refine run_sem 4 ?_; simp -implicitDefEqProofs (disch := omega) only [go_sem, ↓reduceIte, reduceCtorEq, Nat.reduceAdd, Nat.reduceEqDiff, Nat.reduceLeDiff, Nat.zero_add, Nat.add_zero, Nat.zero_le, true_implies, and_true, g1']))
theorem c_Index8 (hT : TabOk P tab) (l : List Int) (q : Bool) (a : Int) (hl : l.length ≤ 1000) : Am.Pure P G n_slices_Index_uint8_uint8 [.lst 1 (us l) q, .int .u8 a] fun v => ∃ k : Int, v = .int .i64 k ∧ (0 ≤ k ↔ a ∈ l) := by
  intro t
  refine C_keep 0 (Nat.zero_le _) (C_tab hT t_slices_Index_uint8_uint8 (by simp [slices_Index_uint8_uint8]) (W_run 1000 ?_))
  simp -implicitDefEqProofs (disch := omega) only [go_sem, ↓reduceIte, reduceCtorEq, Nat.reduceEqDiff, Nat.zero_add, slices_Index_uint8_uint8, zq37_0, zq37_1, zq37_2, zq37_3, zq37_4, zq37_5, zq37_6, zq37_7, List.length_map, us]
  refine sem_for l (fun i fr σ => a ∉ l.take i ∧ fget fr 0 = .lst 1 (us l) q ∧ fget fr 1 = .int .u8 a ∧ fget fr 7 = .int .i64 l.length ∧ fget fr 8 = .int .i64 ((i : Nat) : Int) ∧ σ = ⟨t, []⟩)
    (fun e fr σ => σ = ⟨t, []⟩ ∧ ((e = .ret ∧ a ∈ l ∧ ∃ i : Nat, fget fr 4 = .int .i64 (i : Int)) ∨ (e = .ex 0 ∧ a ∉ l))) ⟨by simp, ?_⟩ (fun i x hx fr σ hJ => ?_) (fun i hi fr σ hJ => ?_) (fun e fr σ hE => ?_)
  · simp -implicitDefEqProofs (disch := omega) only [go_sem, ↓reduceIte, reduceCtorEq, Nat.reduceEqDiff, us]
    try simp
  · obtain ⟨hno, f0, f1, f7, f8, rfl⟩ := hJ
    have hlt := (List.getElem?_eq_some_iff.1 hx).1
    have hD : (l.map (V.int .u8)).getD i V.any = .int .u8 x := by simp [List.getD_eq_getElem?_getD, hx]
    have e2 := wnext hlt (by omega)
    refine W_run 1000 ?_
    by_cases he : a = x
    · have he' : (a == x) = true := by simp [he]
      simp -implicitDefEqProofs (disch := omega) only [go_sem, need_of, ↓reduceIte, reduceCtorEq, Nat.reduceEqDiff, Nat.succ_ne_zero, Nat.zero_add, decide_true, Nat.le_refl, List.length_map, us, f0, f1, f7, f8, hlt, hD, he']
      exact ⟨he ▸ List.mem_of_getElem? hx, i, rfl⟩
    · have he' : (a == x) = false := by simp [he]
      simp -implicitDefEqProofs (disch := omega) only [go_sem, need_of, ↓reduceIte, reduceCtorEq, Nat.reduceEqDiff, Nat.succ_ne_zero, Nat.zero_add, decide_true, Nat.le_refl, List.length_map, us, f0, f1, f7, f8, hlt, hD, he']
      refine ⟨_, _, Shift.refl _ _ _ _, ?_, ?_⟩
      · rw [List.take_add_one, hx]; simp [hno, he]
      · simp -implicitDefEqProofs (disch := omega) only [go_sem, ↓reduceIte, reduceCtorEq, Nat.reduceEqDiff, Nat.succ_ne_zero, us, f0, f1, f7, e2]
  · obtain ⟨hno, f0, f1, f7, f8, rfl⟩ := hJ
    rw [hi, List.take_length] at hno
    refine W_run 1000 ?_
    simp -implicitDefEqProofs (disch := omega) only [go_sem, ↓reduceIte, reduceCtorEq, Nat.reduceEqDiff, decide_false, f7, f8, hi, Nat.lt_irrefl]
    exact hno
  · obtain ⟨rfl, hE⟩ := hE
    rcases hE with ⟨rfl, hm, i, f4⟩ | ⟨rfl, hno⟩
    · refine run_sem 1000 ?_
      simp -implicitDefEqProofs (disch := omega) only [go_sem, Nat.le_refl, f4]
      exact ⟨i, rfl, by simp [hm]⟩
    · refine run_sem 1000 ?_
      simp -implicitDefEqProofs (disch := omega) only [go_sem, ↓reduceIte, Nat.le_refl]
      exact ⟨-1, rfl, by simp [hno]⟩
theorem c_Contains8 (hT : TabOk P tab) (l : List Int) (q : Bool) (a : Int) (hl : l.length ≤ 1000) : Am.Pure P G n_slices_Contains_uint8_uint8 [.lst 1 (us l) q, .int .u8 a] fun v => v = .bool (decide (a ∈ l)) := by
  intro t
  have hI := c_Index8 (P := P) (G := G) hT l q a hl
  simp only [us] at hI
  refine C_keep 0 (Nat.zero_le _) (C_tab hT t_slices_Contains_uint8_uint8 (by simp [slices_Contains_uint8_uint8]) (W_run 1000 ?_))
  simp -implicitDefEqProofs (disch := omega) only [go_sem, ↓reduceIte, reduceCtorEq, Nat.reduceEqDiff, Nat.zero_add, slices_Contains_uint8_uint8, zq2v_0, zq2v_1, us]
  refine callP hT t_slices_Index_uint8_uint8 hI (by simp [namelessL, nameless]) 1000 fun v hv => ?_
  obtain ⟨k, rfl, hk⟩ := hv
  simp -implicitDefEqProofs (disch := omega) only [go_sem, ↓reduceIte, reduceCtorEq, Nat.reduceEqDiff, Nat.le_refl, ge_iff_le, ge_iff_le]
  simp [hk]
end Go.Proofs.YtaidbdgndljaeaaGreatDoor
/- What may be asked of an instruction: kinds, returns, targets, the stack. -/
namespace Go.Proofs.YtaidbdgndljaeaaGreatDoor
open Go Go.Am Go.Rv Go.Rg
set_option maxRecDepth 100000
variable {G : Nat → Option V}
def rdC (m : Im) (nm : List UInt8) (pl : Int) (c : List In) (F : Int) : List V := [.int .i64 m.data, symsV m.syms, codeV m.code, .str nm, .int .i64 pl, insV c, .int .i64 F, .lst 0 [] true]
def rdH (m : Im) (nm : List UInt8) (pl : Int) (c : List In) (F : Int) (vr : Nat) (X1 X2 X4 X6 X7 : Option Ob) : List (Option Ob) := [none, X1, X2, some (.arr vr 107 (rdC m nm pl c F)), X4, none, X6, X7]
theorem c_opS1 {P : Program} (hT : TabOk P tab) {base t k w T : Nat} {o : List (Option Ob)} {op : Int} (ho : o[k]? = some (some (.arr w T [.int .u8 op]))) (a b : Int) : C P G base n_regions_reader_op_S1 [.int .u8 a, .int .u8 b, .ptr k w 0] ⟨t, o⟩ fun v σ => v = .bool (decide (a ≤ op) && decide (op ≤ b)) ∧ σ = ⟨t, o⟩ := by
  refine C_tab hT t_regions_reader_op_S1 (by simp [regions_reader_op_S1]) (W_run 12 ?_)
  by_cases h : a ≤ op
  · have h' : decide (a ≤ op) = true := decide_eq_true h
    simp -implicitDefEqProofs (disch := omega) only [go_sem, ↓reduceIte, reduceCtorEq, Nat.reduceAdd, Nat.reduceEqDiff, Nat.zero_add, decide_true, Nat.le_refl, ge_iff_le, regions_reader_op_S1, zq2u_0, zq2u_1, true_implies, and_true, ge_iff_le, ho, h]
    iterate 4 (try (refine run_sem 4 ?_; simp -implicitDefEqProofs (disch := omega) only [go_sem, ↓reduceIte, reduceCtorEq, Nat.reduceAdd, Nat.reduceEqDiff, and_true]))
  · have h' : decide (a ≤ op) = false := decide_eq_false h
    simp -implicitDefEqProofs (disch := omega) only [go_sem, ↓reduceIte, reduceCtorEq, Nat.reduceAdd, Nat.reduceEqDiff, Nat.zero_add, decide_false, Nat.le_refl, ge_iff_le, regions_reader_op_S1, zq2u_0, zq2u_1, true_implies, and_true, ge_iff_le, ho, h]
    iterate 4 (try (refine run_sem 4 ?_; simp -implicitDefEqProofs (disch := omega) only [go_sem, ↓reduceIte, reduceCtorEq, Nat.reduceEqDiff, and_true]))
theorem c_op {P : Program} (hT : TabOk P tab) {m : Im} {nm : List UInt8} {pl F : Int} {c : List In} {vr t i : Nat} {X1 X2 X4 X6 X7 : Option Ob} {x : In} (hx : c[i]? = some x) (hl : c.length ≤ 1000000) :
    C P G 0 n_regions_reader_op [.ptr 3 vr 0, .int .i64 (i : Int)] ⟨t, rdH m nm pl c F vr X1 X2 X4 X6 X7⟩ fun v σ => v = .bool (opOk x) ∧ ∃ t', t ≤ t' ∧ σ = ⟨t', rdH m nm pl c F vr X1 X2 X4 X6 X7⟩ := by
  have hD := ins_getD hx
  simp only [inC] at hD
  have hlt := (List.getElem?_eq_some_iff.1 hx).1
  have h1 := fun (t' : Nat) (a b : Int) => CV.of (cap := [.ptr 8 t 0]) (args := [.int .u8 a, .int .u8 b]) hT t_regions_reader_op_S1 (c_opS1 (G := G) hT (base := 0) (t := t') (k := 8) (w := t) (T := 5) (o := rdH m nm pl c F vr X1 X2 X4 X6 X7 ++ [some (.arr t 5 [.int .u8 x.op])]) (op := x.op) rfl a b)
  have hC := c_Contains8 (P := P) (G := G) hT [14, 21, 50, 64] true x.op (by simp)
  simp only [rdH, rdC, insV, symsV, codeV, inC, List.cons_append, List.nil_append] at h1
  simp only [us, List.map_cons, List.map_nil] at hC
  have hop : opOk x = ((decide (1 ≤ x.op) && decide (x.op ≤ 10)) || ((decide (22 ≤ x.op) && decide (x.op ≤ 49)) || ((decide (54 ≤ x.op) && decide (x.op ≤ 62)) || decide (x.op ∈ [(14 : Int), 21, 50, 64])))) := rfl
  rw [hop]
  generalize decide (x.op ∈ [(14 : Int), 21, 50, 64]) = b4 at *
  refine C_keep 8 (Nat.zero_le _) (C_tab hT t_regions_reader_op (by simp [regions_reader_op]) (W_run 30 ?_))
  simp -implicitDefEqProofs (disch := omega) only [go_sem, need_of, ↓reduceIte, reduceCtorEq, Nat.reduceAdd, Nat.reduceEqDiff, Nat.reduceLeDiff, Nat.zero_add, Nat.add_zero, Bool.not_false, Nat.le_refl, Nat.zero_le, regions_reader_op, zq25_0, zq25_1, zq25_2, zq25_3, rdH, rdC, insV, symsV, codeV, inC, V.cells, List.length_map, true_implies, and_true, Bool.not_false, List.cons_append, List.nil_append, hlt, hD]
  refine CV.use 4 (h1 _ 1 10) fun v σ hv => ?_
  obtain ⟨rfl, rfl⟩ := hv
  cases hb1 : (decide (1 ≤ x.op) && decide (x.op ≤ 10)) with
  | true =>
    simp -implicitDefEqProofs (disch := omega) only [go_sem, ↓reduceIte, reduceCtorEq, Nat.reduceEqDiff]
    iterate 9 (try (refine run_sem 4 ?_; simp -implicitDefEqProofs (disch := omega) only [go_sem, ↓reduceIte, reduceCtorEq, Nat.reduceAdd, Nat.reduceEqDiff, Nat.reduceLeDiff, Nat.zero_add, true_and, and_true]))
    exact ⟨by simp, t + 1, Nat.le_succ t, rfl⟩
  | false =>
    simp -implicitDefEqProofs (disch := omega) only [go_sem, ↓reduceIte, reduceCtorEq, Nat.reduceAdd, Nat.reduceEqDiff]
    refine CV.use 4 (h1 _ 22 49) fun v σ hv => ?_
    obtain ⟨rfl, rfl⟩ := hv
    cases hb2 : (decide (22 ≤ x.op) && decide (x.op ≤ 49)) with
    | true =>
      simp -implicitDefEqProofs (disch := omega) only [go_sem, ↓reduceIte, reduceCtorEq, Nat.reduceEqDiff]
      iterate 9 (try (refine run_sem 4 ?_; simp -implicitDefEqProofs (disch := omega) only [go_sem, ↓reduceIte, reduceCtorEq, Nat.reduceAdd, Nat.reduceEqDiff, Nat.reduceLeDiff, Nat.zero_add, true_and, and_true]))
      exact ⟨by simp, t + 1, Nat.le_succ t, rfl⟩
    | false =>
      simp -implicitDefEqProofs (disch := omega) only [go_sem, ↓reduceIte, reduceCtorEq, Nat.reduceAdd, Nat.reduceEqDiff, Nat.zero_add]
      iterate 1 (try (refine run_sem 4 ?_; simp -implicitDefEqProofs (disch := omega) only [go_sem, need_of, ↓reduceIte, reduceCtorEq, Nat.reduceAdd, Nat.reduceEqDiff, Nat.reduceLeDiff, Nat.reduceLT, Nat.reduceSub, Nat.reduceMul, Int.reduceToNat, Int.reduceLE, Int.reduceLT, Int.reduceEq, Int.reduceNe, Nat.succ_ne_zero, Nat.zero_add, Nat.add_zero, Nat.mul_one, Nat.one_mul, Nat.zero_mul, decide_true, decide_false, Bool.not_true, Bool.not_false, Nat.le_refl, Nat.zero_le, ge_iff_le, gt_iff_lt, Nat.reduceBEq, Nat.reduceBNe, beq_self_eq_true, bne_self_eq_false, Option.isSome_some, Option.isSome_none, Option.getD_some, Option.getD_none, regions_reader_op, zq25_0, zq25_1, zq25_2, zq25_3, rdH, rdC, insV, symsV, codeV, inC, V.cells, List.length_map, false_implies, true_implies, true_and, and_true, not_true_eq_false, not_false_eq_true, Int.reduceBEq, Int.reduceBNe, Bool.not_true, Bool.not_false, List.cons_append, List.nil_append, ge_iff_le, gt_iff_lt]))
      refine CV.use 4 (h1 _ 54 62) fun v σ hv => ?_
      obtain ⟨rfl, rfl⟩ := hv
      cases hb3 : (decide (54 ≤ x.op) && decide (x.op ≤ 62)) with
      | true =>
        simp -implicitDefEqProofs (disch := omega) only [go_sem, ↓reduceIte, reduceCtorEq, Nat.reduceEqDiff]
        iterate 9 (try (refine run_sem 4 ?_; simp -implicitDefEqProofs (disch := omega) only [go_sem, ↓reduceIte, reduceCtorEq, Nat.reduceAdd, Nat.reduceEqDiff, Nat.reduceLeDiff, Nat.zero_add, true_and, and_true]))
        exact ⟨by simp, t + 1, Nat.le_succ t, rfl⟩
      | false =>
        simp -implicitDefEqProofs (disch := omega) only [go_sem, ↓reduceIte, reduceCtorEq, Nat.reduceAdd, Nat.reduceEqDiff, Nat.reduceLeDiff, Nat.zero_add, Nat.le_refl, V.cells, true_implies, and_true, List.cons_append, List.nil_append]
        iterate 2 (try (refine run_sem 4 ?_; simp -implicitDefEqProofs (disch := omega) only [go_sem, ↓reduceIte, reduceCtorEq, Nat.reduceAdd, Nat.reduceEqDiff]))
        refine callPS hT t_slices_Contains_uint8_uint8 hC rfl 4 ?_
        simp -implicitDefEqProofs (disch := omega) only [go_sem, ↓reduceIte, reduceCtorEq, Nat.reduceEqDiff]
        iterate 4 (try (refine run_sem 4 ?_; simp -implicitDefEqProofs (disch := omega) only [go_sem, ↓reduceIte, reduceCtorEq, Nat.reduceAdd, Nat.reduceEqDiff, Nat.reduceLeDiff, Nat.zero_add, true_and, and_true]))
        exact ⟨by simp, t + 1, Nat.le_succ t, rfl⟩
def fnN (nm : List UInt8) (pl : Int) (c : List In) (F : Int) : V := .agg [.str nm, .int .i64 pl, insV c, .int .i64 F, .lst 0 [] true]
theorem wk_fn {nm : List UInt8} {pl F : Int} {c : List In} : Wk (fnN nm pl c F) (.agg (fnC nm pl c F [])) :=
  .agg _ _ (.cons _ _ _ _ (.refl _) (.cons _ _ _ _ (.refl _) (.cons _ _ _ _ (.refl _) (.cons _ _ _ _ (.refl _) (.cons _ _ _ _ (.lst 0 1 [] [] true .nil (.inl rfl)) .nil)))))
theorem fnN_nl {nm : List UInt8} {pl F : Int} {c : List In} {i : Int} : namelessL [fnN nm pl c F, .int .i64 i] = true := by simp [fnN, insV, namelessL, nameless]
theorem k_restores {P : Program} (hT : TabOk P tab) (nm : List UInt8) (pl F : Int) (c : List In) (i : Int) (hl : c.length ≤ 1000000) (hi : -10 ≤ i ∧ i ≤ 2000000) : Am.Pure P G n_regions_Func_restores [fnN nm pl c F, .int .i64 i] fun v => v = .bool (restores c F i) :=
  Pure.args (.cons _ _ _ _ wk_fn (.cons _ _ _ _ (.refl _) .nil)) (c_restores hT nm pl F c [] i hl hi)
theorem k_Return {P : Program} (hT : TabOk P tab) (nm : List UInt8) (pl F : Int) (c : List In) (i : Int) (hl : c.length ≤ 1000000) (hi : -9 ≤ i ∧ i ≤ 2000000) : Am.Pure P G n_regions_Func_Return [fnN nm pl c F, .int .i64 i] fun v => v = .bool (ret c F i) :=
  Pure.args (.cons _ _ _ _ wk_fn (.cons _ _ _ _ (.refl _) .nil)) (c_Return hT nm pl F c [] i hl hi)
theorem c_back {P : Program} (hT : TabOk P tab) {m : Im} {nm : List UInt8} {pl F : Int} {c : List In} {vr t i : Nat} {X1 X2 X4 X6 X7 : Option Ob} {x : In} (hx : c[i]? = some x) (hl : c.length ≤ 1000000) :
    C P G 0 n_regions_reader_back [.ptr 3 vr 0, .int .i64 (i : Int)] ⟨t, rdH m nm pl c F vr X1 X2 X4 X6 X7⟩ fun v σ => v = .bool (backOk c F i x) ∧ ∃ t', t ≤ t' ∧ σ = ⟨t', rdH m nm pl c F vr X1 X2 X4 X6 X7⟩ := by
  have hD := ins_getD hx
  simp only [inC] at hD
  have hlt := (List.getElem?_eq_some_iff.1 hx).1
  have hR := k_Return (P := P) (G := G) hT nm pl F c i hl (by omega)
  have hn := fnN_nl (nm := nm) (pl := pl) (c := c) (F := F) (i := i)
  simp only [fnN, insV, inC] at hR hn
  unfold backOk
  refine C_keep 8 (Nat.zero_le _) (C_tab hT t_regions_reader_back (by simp [regions_reader_back]) (W_run 12 ?_))
  by_cases h : x.op = 4
  · have h' : (x.op != 4) = false := by simp [h]
    simp -implicitDefEqProofs (disch := omega) only [go_sem, ↓reduceIte, reduceCtorEq, Nat.reduceAdd, Nat.reduceEqDiff, Nat.reduceLeDiff, Nat.zero_add, regions_reader_back, zq28_0, zq28_1, rdH, rdC, insV, symsV, codeV, inC, true_implies, and_true]
    iterate 4 (try (refine run_sem 4 ?_; simp -implicitDefEqProofs (disch := omega) only [go_sem, need_of, ↓reduceIte, reduceCtorEq, Nat.reduceAdd, Nat.reduceEqDiff, Nat.reduceLeDiff, Nat.zero_add, Nat.add_zero, Nat.le_refl, V.cells, List.length_map, false_implies, true_implies, and_true, hlt, hD, h']))
    refine callPS hT t_regions_Func_Return hR hn 4 ?_
    simp -implicitDefEqProofs (disch := omega) only [go_sem, ↓reduceIte, reduceCtorEq, Nat.reduceEqDiff]
    iterate 4 (try (refine run_sem 4 ?_; simp -implicitDefEqProofs (disch := omega) only [go_sem, ↓reduceIte, reduceCtorEq, Nat.reduceAdd, Nat.reduceEqDiff, Nat.zero_add, Nat.le_refl, true_and, and_true]))
    exact ⟨by simp [h], t, Nat.le_refl t, rfl⟩
  · have h' : (x.op != 4) = true := by simp [h]
    simp -implicitDefEqProofs (disch := omega) only [go_sem, ↓reduceIte, reduceCtorEq, Nat.reduceAdd, Nat.reduceEqDiff, Nat.reduceLeDiff, Nat.zero_add, regions_reader_back, zq28_0, zq28_1, rdH, rdC, insV, symsV, codeV, inC, true_implies, and_true]
    iterate 6 (try (refine run_sem 4 ?_; simp -implicitDefEqProofs (disch := omega) only [go_sem, need_of, ↓reduceIte, reduceCtorEq, Nat.reduceAdd, Nat.reduceEqDiff, Nat.reduceLeDiff, Nat.zero_add, Nat.add_zero, Nat.le_refl, V.cells, List.length_map, true_implies, true_and, and_true, hlt, hD, h']))
    exact ⟨by simp [h], t, Nat.le_refl t, rfl⟩
theorem us_len (l : List Int) : (us l).length = l.length := by simp [us]
theorem us_nameless : ∀ l : List Int, namelessL (us l) = true
  | [] => rfl
  | n :: c => by have := us_nameless c; simpa [us, namelessL, nameless] using this
theorem c_ReadsP (hT : TabOk Tryz.prog tab) (x : In) (hx : InOk x) : Am.Pure Tryz.prog G0 n_rv_Reads [.agg (inC x)] fun u => u = .lst 1 (us (rds x)) false := by
  refine Pure_frz (fun t => C_pad (o' := [none]) (fun n ob h => ?_) (Nat.zero_le _) ((c_Reads hT x hx (X := none)).conseq fun v σ hv => ?_)) (by simp [nameless])
  · cases n with
    | zero => simp at h
    | succ n => simp at h
  rcases hv with ⟨hr, rfl, _⟩ | ⟨t', w, B, cs, hcs, rfl, rfl⟩
  · rw [hr]
    exact .inl ⟨rfl, .lst 0 1 [] [] true .nil (.inl rfl)⟩
  · have hfz : frzV 2 w (us (rds x) ++ cs) (.sl 2 w 0 1 (rds x).length none) = .lst 1 (us (rds x)) false := by
      have hle : (rds x).length ≤ (us (rds x)).length + cs.length := by rw [us_len]; omega
      simp [frzV, rowsV, List.take_left' (us_len _), hle]
    refine .inr ⟨2, w, 5, us (rds x) ++ cs, rfl, ?_, ?_, ?_⟩
    · rw [namelessL_append, us_nameless, hcs]; rfl
    · rw [hfz]; simp [nameless]
    · rw [hfz]; exact .refl _
end Go.Proofs.YtaidbdgndljaeaaGreatDoor
/- What may be asked of an instruction: the stack. -/
namespace Go.Proofs.YtaidbdgndljaeaaGreatDoor
open Go Go.Am Go.Rv Go.Rg
set_option maxRecDepth 100000
theorem st_tail (hT : TabOk Tryz.prog tab) {w t : Nat} {o : List (Option Ob)} {x : In} (hxo : InOk x) (ho : o[8]? = some (some (.arr w 47 (inC x)))) {fr : Fr} {Q : V → H → Prop} (f5 : fget fr 5 = .ptr 8 w 0)
    (hk : Q (.bool (!decide ((2 : Int) ∈ rds x) || (if x.op = 14 then true else if x.op = 21 ∨ x.op = 10 then decide (x.rs2 ≠ 2) else false))) ⟨t, o⟩) :
    W Tryz.prog G0 58 0 (AC.seq (AC.seq (AC.reg zq26_7 [44, 45, 46])   (AC.cond (Arg.t 47)   (AC.seq (AC.reg zq26_8 [])   AC.ret)   AC.skip))   (AC.seq (AC.seq (AC.reg zq26_9 [48])   (AC.block 0 (AC.seq (AC.reg zq26_10 [51])   (AC.cond (Arg.t 50)   (AC.seq (AC.reg zq26_11 [])   AC.ret)   (AC.seq (AC.seq (AC.reg zq26_12 [53])   (AC.cond (Arg.t 52)   AC.skip   (AC.reg zq26_13 [54])))   (AC.cond (Arg.t 52)   (AC.seq (AC.reg zq26_14 [55, 56, 57])   AC.ret)   AC.skip))))))   (AC.seq (AC.reg zq26_15 [])   AC.ret))) fr ⟨t, o⟩ (endK G0 [RV.tmp 4] Q) := by
  have hRd := c_ReadsP hT x hxo
  have hrl := rds_len x
  have hC := c_Contains8 (P := Tryz.prog) (G := G0) hT (rds x) false 2 (by omega)
  simp only [inC] at hRd ho
  refine W_round [(5, .ptr 8 w 0)] ⟨f5, trivial⟩  6 ?_
  simp -implicitDefEqProofs (disch := omega) only [go_sem, ↓reduceIte, reduceCtorEq, Nat.reduceAdd, Nat.reduceEqDiff, Nat.zero_add, Nat.le_refl, zq26_7, zq26_8, zq26_9, zq26_10, zq26_11, zq26_12, zq26_13, zq26_14, zq26_15, false_implies, and_true, ho]
  refine callPS hT t_rv_Reads hRd rfl 4 ?_
  simp -implicitDefEqProofs (disch := omega) only [go_sem, ↓reduceIte, Nat.reduceEqDiff]
  refine callPS hT t_slices_Contains_uint8_uint8 hC (by simp [namelessL, nameless]) 4 ?_
  generalize decide ((2 : Int) ∈ rds x) = b2 at *
  cases b2 with
  | false =>
    simp -implicitDefEqProofs (disch := omega) only [go_sem, ↓reduceIte, Nat.reduceEqDiff, Bool.not_false, Bool.not_false]
    iterate 6 (try (refine run_sem 4 ?_; simp -implicitDefEqProofs (disch := omega) only [go_sem, ↓reduceIte, Nat.reduceEqDiff]))
    exact hk
  | true =>
    simp -implicitDefEqProofs (disch := omega) only [go_sem, ↓reduceIte, Nat.reduceEqDiff, Bool.not_true, Bool.not_true]
    rw [Bool.not_true, Bool.false_or] at hk
    by_cases h1 : x.op = 14
    · have h1' : (x.op == 14) = true := by simp [h1]
      rw [if_pos h1] at hk
      iterate 9 (try (refine run_sem 4 ?_; simp -implicitDefEqProofs (disch := omega) only [go_sem, ↓reduceIte, Nat.reduceAdd, Nat.reduceEqDiff, Nat.reduceLeDiff, Nat.zero_add, Nat.add_zero, true_implies, and_true, ho, h1']))
      exact hk
    · have h1' : (x.op == 14) = false := by simp [h1]
      rw [if_neg h1] at hk
      by_cases h2 : x.op = 21
      · have h2' : (x.op == 21) = true := by simp [h2]
        rw [if_pos (.inl h2)] at hk
        iterate 9 (try (refine run_sem 4 ?_; simp -implicitDefEqProofs (disch := omega) only [go_sem, ↓reduceIte, Nat.reduceAdd, Nat.reduceEqDiff, Nat.reduceLeDiff, Nat.zero_add, Nat.add_zero, true_implies, and_true, ho, h1', h2']))
        simpa [ibne] using hk
      · have h2' : (x.op == 21) = false := by simp [h2]
        by_cases h3 : x.op = 10
        · have h3' : (x.op == 10) = true := by simp [h3]
          rw [if_pos (.inr h3)] at hk
          iterate 9 (try (refine run_sem 4 ?_; simp -implicitDefEqProofs (disch := omega) only [go_sem, ↓reduceIte, Nat.reduceAdd, Nat.reduceEqDiff, Nat.reduceLeDiff, Nat.zero_add, Nat.add_zero, true_implies, and_true, ho, h1', h2', h3']))
          simpa [ibne] using hk
        · have h3' : (x.op == 10) = false := by simp [h3]
          rw [if_neg (by omega)] at hk
          iterate 9 (try (refine run_sem 4 ?_; simp -implicitDefEqProofs (disch := omega) only [go_sem, ↓reduceIte, Nat.reduceAdd, Nat.reduceEqDiff, Nat.reduceLeDiff, Nat.zero_add, Nat.add_zero, true_implies, and_true, ho, h1', h2', h3']))
          exact hk
theorem c_stack (hT : TabOk Tryz.prog tab) {m : Im} {nm : List UInt8} {pl F : Int} {c : List In} {vr t i : Nat} {X1 X2 X4 X6 X7 : Option Ob} {x : In} (hx : c[i]? = some x) (hl : c.length ≤ 1000000) (hxo : InOk x) :
    C Tryz.prog G0 0 n_regions_reader_stack [.ptr 3 vr 0, .int .i64 (i : Int)] ⟨t, rdH m nm pl c F vr X1 X2 X4 X6 X7⟩ fun v σ => v = .bool (stackOk c F i x) ∧ ∃ t', t ≤ t' ∧ σ = ⟨t', rdH m nm pl c F vr X1 X2 X4 X6 X7⟩ := by
  have hD := ins_getD hx
  simp only [inC] at hD
  have hlt := (List.getElem?_eq_some_iff.1 hx).1
  have hR := k_restores (P := Tryz.prog) (G := G0) hT nm pl F c i hl (by omega)
  have hn := fnN_nl (nm := nm) (pl := pl) (c := c) (F := F) (i := i)
  have hW := c_Writes hT x hxo
  simp only [fnN, insV, inC] at hR hn hW
  refine C_keep 8 (Nat.zero_le _) (C_tab hT t_regions_reader_stack (by simp [regions_reader_stack]) (W_run 17 ?_))
  simp -implicitDefEqProofs (disch := omega) only [go_sem, need_of, ↓reduceIte, reduceCtorEq, Nat.reduceAdd, Nat.reduceEqDiff, Nat.reduceLeDiff, Nat.zero_add, Bool.not_false, Nat.le_refl, Nat.zero_le, regions_reader_stack, zq26_0, zq26_1, zq26_2, zq26_3, zq26_4, zq26_5, zq26_6, zq26_7, zq26_8, zq26_9, zq26_10, zq26_11, zq26_12, zq26_13, zq26_14, zq26_15, rdH, rdC, insV, symsV, codeV, inC, V.cells, List.length_map, false_implies, true_implies, and_true, Bool.not_false, List.cons_append, List.nil_append, hlt, hD]
  refine run_sem 2 ?_
  simp -implicitDefEqProofs (disch := omega) only [go_sem]
  have hst : stackOk c F i x = ((decide (i = 0) && decide (0 < F)) || restores c F i || (!decide (wrs x = (2, true)) && (!decide ((2 : Int) ∈ rds x) || (if x.op = 14 then true else if x.op = 21 ∨ x.op = 10 then decide (x.rs2 ≠ 2) else false)))) := rfl
  rw [hst]
  refine sem_cut (fun fr σ => fget fr 5 = .ptr 8 t 0 ∧ fget fr 33 = .bool (decide (i = 0) && decide (0 < F) || restores c F i) ∧ σ = ⟨t + 1, rdH m nm pl c F vr X1 X2 X4 X6 X7 ++ [some (.arr t 47 (inC x))]⟩) ?_ fun fr σ hJ => ?_
  · refine W_run 12 ?_
    generalize restores c F i = br at *
    by_cases h0 : i = 0
    · have h0' : ((i : Int) == 0) = true := by simp [h0]
      have h0'' : ((i : Int) = 0) = True := eq_true (by omega)
      rw [decide_eq_true h0]
      by_cases hF : 0 < F
      · have hF' : decide (0 < F) = true := decide_eq_true hF
        simp -implicitDefEqProofs (disch := omega) only [go_sem, ↓reduceIte, reduceCtorEq, Nat.reduceAdd, Nat.reduceEqDiff, Nat.reduceLeDiff, Nat.zero_add, decide_true, gt_iff_lt, rdH, rdC, insV, symsV, codeV, inC, true_implies, and_true, List.cons_append, List.nil_append, gt_iff_lt, hF, h0']
        iterate 9 (try (refine run_sem 4 ?_; simp -implicitDefEqProofs (disch := omega) only [go_sem, ↓reduceIte, reduceCtorEq, Nat.reduceEqDiff, true_and, and_true]))
        try simp
      · have hF' : decide (0 < F) = false := decide_eq_false hF
        simp -implicitDefEqProofs (disch := omega) only [go_sem, ↓reduceIte, reduceCtorEq, Nat.reduceAdd, Nat.reduceEqDiff, Nat.reduceLeDiff, Nat.zero_add, decide_false, gt_iff_lt, rdH, rdC, insV, symsV, codeV, inC, true_implies, and_true, List.cons_append, List.nil_append, gt_iff_lt, hF, h0']
        iterate 4 (try (refine run_sem 4 ?_; simp -implicitDefEqProofs (disch := omega) only [go_sem, ↓reduceIte, reduceCtorEq, Nat.reduceAdd, Nat.reduceEqDiff, Nat.zero_add, Nat.le_refl, false_implies, and_true]))
        refine callPS hT t_regions_Func_restores hR hn 4 ?_
        simp -implicitDefEqProofs (disch := omega) only [go_sem, ↓reduceIte, reduceCtorEq, Nat.reduceEqDiff, true_and, and_true]
        try simp
    · have h0' : ((i : Int) == 0) = false := by simp [h0]
      have h0'' : ((i : Int) = 0) = False := eq_false (by omega)
      rw [decide_eq_false h0]
      simp -implicitDefEqProofs (disch := omega) only [go_sem, ↓reduceIte, reduceCtorEq, Nat.reduceEqDiff, rdH, rdC, insV, symsV, codeV, inC, List.cons_append, List.nil_append, h0']
      iterate 4 (try (refine run_sem 4 ?_; simp -implicitDefEqProofs (disch := omega) only [go_sem, ↓reduceIte, reduceCtorEq, Nat.reduceAdd, Nat.reduceEqDiff, Nat.zero_add, Nat.le_refl, false_implies, and_true]))
      refine callPS hT t_regions_Func_restores hR hn 4 ?_
      simp -implicitDefEqProofs (disch := omega) only [go_sem, ↓reduceIte, reduceCtorEq, Nat.reduceEqDiff, true_and, and_true]
      try simp
  obtain ⟨f5, f33, rfl⟩ := hJ
  refine sem_slots [(5, .ptr 8 t 0), (33, .bool (decide (i = 0) && decide (0 < F) || restores c F i))] ⟨f5, f33, trivial⟩ ?_
  generalize (decide (i = 0) && decide (0 < F) || restores c F i) = b1
  have hk : ∀ (a : Int × Bool), decide (a = (2, true)) = (a.2 && decide (a.1 = 2)) := fun a => by
    obtain ⟨p, q⟩ := a
    rw [Bool.eq_iff_iff]; cases q <;> simp
  rw [hk]
  simp only [rdH, List.cons_append, List.nil_append]
  generalize wrs x = wx at *
  obtain ⟨wd, wb⟩ := wx
  simp only at hW ⊢
  refine run_sem 5 ?_
  cases b1 with
  | true =>
    simp -implicitDefEqProofs (disch := omega) only [go_sem, ↓reduceIte, Nat.reduceEqDiff, rdC, insV, symsV, codeV, inC]
    iterate 4 (try (refine run_sem 4 ?_; simp -implicitDefEqProofs (disch := omega) only [go_sem, ↓reduceIte, Nat.reduceAdd, Nat.reduceEqDiff, Nat.reduceLeDiff, Nat.zero_add, true_and, and_true]))
    exact ⟨by simp, t + 1, Nat.le_succ t, rfl⟩
  | false =>
    rw [Bool.false_or]
    simp -implicitDefEqProofs (disch := omega) only [go_sem, ↓reduceIte, Nat.reduceEqDiff, rdC, insV, symsV, codeV, inC]
    iterate 1 (try (refine run_sem 4 ?_; simp -implicitDefEqProofs (disch := omega) only [go_sem, ↓reduceIte, reduceCtorEq, Nat.reduceAdd, Nat.reduceEqDiff, Nat.zero_add, Nat.le_refl, false_implies, and_true]))
    refine callPS hT t_rv_Writes hW rfl 4 ?_
    simp -implicitDefEqProofs (disch := omega) only [go_sem, ↓reduceIte, Nat.reduceAdd, Nat.reduceEqDiff, Nat.reduceLT, Nat.zero_add]
    cases wb with
    | true =>
      by_cases h2 : wd = 2
      · have h2' : (wd == 2) = true := by simp [h2]
        iterate 9 (try (refine run_sem 4 ?_; simp -implicitDefEqProofs (disch := omega) only [go_sem, ↓reduceIte, Nat.reduceAdd, Nat.reduceEqDiff, Nat.reduceLeDiff, Nat.zero_add, true_and, and_true, h2']))
        exact ⟨by simp [h2], t + 1, Nat.le_succ t, rfl⟩
      · have h2' : (wd == 2) = false := by simp [h2]
        iterate 3 (try (refine run_sem 4 ?_; simp -implicitDefEqProofs (disch := omega) only [go_sem, ↓reduceIte, Nat.reduceAdd, Nat.reduceEqDiff, Nat.zero_add, h2']))
        exact st_tail hT hxo rfl rfl ⟨by simp, by simp [h2], t + 1, Nat.le_succ t, rfl⟩
    | false =>
      iterate 3 (try (refine run_sem 4 ?_; simp -implicitDefEqProofs (disch := omega) only [go_sem, ↓reduceIte, Nat.reduceEqDiff, Bool.not_false, Bool.not_false]))
      exact st_tail hT hxo rfl rfl ⟨by simp, by simp, t + 1, Nat.le_succ t, rfl⟩
end Go.Proofs.YtaidbdgndljaeaaGreatDoor
