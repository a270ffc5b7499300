/- Contracts of a graph that New has made, with other objects behind. -/
import Derived.Test.YtfligilbnpcnaaaGreatDoorTerm8
import Derived.Test.YtfligilbnpcnaaaGreatDoorTerm3
namespace Go.Proofs.YtfligilbnpcnaaaGreatDoor
open Go Go.Am
set_option maxRecDepth 100000
variable {P : Program} {G : Nat → Option V}

/-- A graph that New has made. -/
def kG (fmt : Int → List UInt8) (v0 v1 v2 v3 v4 : Nat) (L : List Nd) : List (Option Ob) :=
  [some (.map v1 (ents 0 L)), some (.arr v0 82 [.sl 2 v2 0 6 L.length none, .mp 0 v1, .sl 3 v3 0 1 L.length none, .sl 4 v4 0 1 L.length none]), some (.arr v2 50 (ndC L)), some (.arr v3 3 ((deeps L).map (V.int .i64))), some (.arr v4 3 ((longs fmt L).map (V.int .i64)))]

theorem kren_ents (r : Nat → Nat) : ∀ (k : Nat) (L : List Nd), (ents k L).map (fun p => (p.1, V.ren r p.2)) = ents k L
  | _, [] => rfl
  | k, d :: l => by simp only [ents, List.map_cons, kren_ents r (k + 1) l]; rw [V.ren_nameless _ rfl]
theorem kren_ndC (r : Nat → Nat) (L : List Nd) : renL r (ndC L) = ndC L := renL_nameless _ (ndC_nameless L)
theorem kren_ints (r : Nat → Nat) (L : List Int) : renL r (L.map (V.int .i64)) = L.map (V.int .i64) := renL_nameless _ (ints_nameless L)
theorem kunder_ndC (k : Nat) (L : List Nd) : underL k (ndC L) = true := underL_nameless _ (ndC_nameless L)
theorem kunder_ints (k : Nat) (L : List Int) : underL k (L.map (V.int .i64)) = true := underL_nameless _ (ints_nameless L)

theorem set_same {α : Type} : ∀ (l : List α) (i : Nat) (x : α), l[i]? = some x → l.set i x = l
  | [], _, _, _ => rfl
  | a :: l, 0, x, h => by simp at h; simp [h]
  | a :: l, i + 1, x, h => by simp [set_same l i x (by simpa using h)]

/-- What only looks at a graph. -/
theorem k_read {fmt : Int → List UInt8} {f : Nat} {args : List V} {r : V} {v0 v1 v2 v3 v4 t : Nat} {L : List Nd} {ex : List (Option Ob)} {base : Nat} (h : C P G 5 f (.ptr 0 v0 0 :: args) ⟨t, gG fmt v0 v1 v2 v3 v4 L⟩ fun v σ => v = r ∧ ∃ t', t ≤ t' ∧ σ = ⟨t', gG fmt v0 v1 v2 v3 v4 L⟩)
    (ha : namelessL args = true) (hr : nameless r = true) :
    C P G base f (.ptr 1 v0 0 :: args) ⟨t, kG fmt v0 v1 v2 v3 v4 L ++ ex⟩ fun v σ => v = r ∧ ∃ t', t ≤ t' ∧ σ = ⟨t', kG fmt v0 v1 v2 v3 v4 L ++ ex⟩ := by
  refine C_small [1, 0, 2, 3, 4] h rfl (by decide) ?_ ?_ ?_ (Nat.le_refl _) ?_ ?_ fun v σ hv => ?_
  · simp [ltAll, kG]
  · simp [holdL, gG, gH, gS, kG, Ob.under, underL, V.under, Ob.ren, renL, V.ren, rOf, kren_ents, kren_ndC, kren_ints, kunder_ndC, kunder_ints, -List.all_eq_true, ents_under]
  · simp [bndL]
  · simp [underL, V.under, gG, gH, underL_nameless _ ha]
  · simp only [renL, V.ren]
    rw [renL_nameless _ ha]
    simp [rOf]
  · obtain ⟨rfl, t', h1, rfl⟩ := hv
    refine ⟨by simp [gG, gH], V.ren_nameless _ hr, t', h1, ?_⟩
    simp [merged, setAll, gG, gH, gS, kG, Ob.ren, renL, V.ren, rOf, kren_ents, kren_ndC, kren_ints]

theorem k_Add (hT : TabOk P tab) (F : Fmt P G) {v0 v1 v2 v3 v4 t : Nat} {L : List Nd} {ex : List (Option Ob)} (d : Nd) (hL : L.length ≤ 1000000) (hn : i64 d.n) (ha : i64 d.a) :
   C P G 0 n_term_Graph_Add [.ptr 1 v0 0, .agg d.cells] ⟨t, kG F.fmt v0 v1 v2 v3 v4 L ++ ex⟩ fun v σ => v = .int .i64 (addN L d).1 ∧ ∃ t' v2' v3' v4', t ≤ t' ∧ σ = ⟨t', kG F.fmt v0 v1 v2' v3' v4' (addN L d).2 ++ ex⟩ := by
  refine C_small [1, 0, 2, 3, 4] (c_AddG hT F (v0 := v0) (v1 := v1) (v2 := v2) (v3 := v3) (v4 := v4) d hL hn ha) rfl (by decide) ?_ ?_ ?_ (Nat.zero_le _) rfl ?_ fun v σ hv => ?_
  · simp [ltAll, kG]
  · simp [holdL, gG, gH, gS, kG, Ob.under, underL, V.under, Ob.ren, renL, V.ren, rOf, kren_ents, kren_ndC, kren_ints, kunder_ndC, kunder_ints, -List.all_eq_true, ents_under]
  · simp [bndL]
  · simp [renL, V.ren, rOf, kG, Nd.cells]
  · obtain ⟨rfl, t', v2', v3', v4', h1, rfl⟩ := hv
    refine ⟨by simp [gG, gH], by simp [V.ren], t', v2', v3', v4', h1, ?_⟩
    simp [merged, setAll, gG, gH, gS, kG, Ob.ren, renL, V.ren, rOf, kren_ents, kren_ndC, kren_ints]

theorem k_Size (hT : TabOk P tab) {base : Nat} {fmt : Int → List UInt8} {v0 v1 v2 v3 v4 t : Nat} {L : List Nd} {ex : List (Option Ob)} :
   C P G base n_term_Graph_Size [.ptr 1 v0 0] ⟨t, kG fmt v0 v1 v2 v3 v4 L ++ ex⟩ fun v σ => v = .int .i64 L.length ∧ ∃ t', t ≤ t' ∧ σ = ⟨t', kG fmt v0 v1 v2 v3 v4 L ++ ex⟩ :=
  k_read ((c_Size hT).conseq fun v σ h => ⟨h.1, t, Nat.le_refl _, h.2⟩) rfl rfl
theorem k_Node (hT : TabOk P tab) {base : Nat} {fmt : Int → List UInt8} {v0 v1 v2 v3 v4 t : Nat} {L : List Nd} {ex : List (Option Ob)} {id : Int} :
   C P G base n_term_Graph_Node [.ptr 1 v0 0, .int .i64 id] ⟨t, kG fmt v0 v1 v2 v3 v4 L ++ ex⟩ fun v σ => v = (if 0 ≤ id ∧ id < L.length then .tup [.agg (L.getD id.toNat zeroNd).cells, .bool true] else .tup [.agg zeroNd.cells, .bool false]) ∧ ∃ t', t ≤ t' ∧ σ = ⟨t', kG fmt v0 v1 v2 v3 v4 L ++ ex⟩ :=
  k_read (c_Node hT (Nat.le_refl _)) rfl (by split <;> rfl)
theorem k_Uses (hT : TabOk P tab) (SO : SortOk P) {base : Nat} {fmt : Int → List UInt8} {v0 v1 v2 v3 v4 t : Nat} {L : List Nd} {ex : List (Option Ob)} (hL : L.length ≤ 1000000) (hwf : gwf L) (roots : List Int) (z : Nat) (tight : Bool) (hz : z = 1 ∨ roots = []) (hrl : roots.length ≤ 9223372036854775806) :
   C P G base n_term_Graph_Uses [.ptr 1 v0 0, .lst z (roots.map (V.int .i64)) tight] ⟨t, kG fmt v0 v1 v2 v3 v4 L ++ ex⟩ fun v σ => v = .lst 1 ((usesL L roots).map (V.int .i64)) false ∧ ∃ t', t ≤ t' ∧ σ = ⟨t', kG fmt v0 v1 v2 v3 v4 L ++ ex⟩ :=
  k_read (c_Uses hT SO (Nat.le_refl _) hL hwf roots z tight hz hrl) rfl rfl

theorem kG_5 {fmt : Int → List UInt8} {v0 v1 v2 v3 v4 : Nat} {L : List Nd} {ex : List (Option Ob)} {x0 : Option Ob} : (kG fmt v0 v1 v2 v3 v4 L ++ x0 :: ex)[5]? = some x0 := rfl
theorem kGs_5 {fmt : Int → List UInt8} {v0 v1 v2 v3 v4 : Nat} {L : List Nd} {ex : List (Option Ob)} {x0 y : Option Ob} : (kG fmt v0 v1 v2 v3 v4 L ++ x0 :: ex).set 5 y = kG fmt v0 v1 v2 v3 v4 L ++ y :: ex := rfl
theorem kG_6 {fmt : Int → List UInt8} {v0 v1 v2 v3 v4 : Nat} {L : List Nd} {ex : List (Option Ob)} {x0 x1 : Option Ob} : (kG fmt v0 v1 v2 v3 v4 L ++ x0 :: x1 :: ex)[6]? = some x1 := rfl
theorem kGs_6 {fmt : Int → List UInt8} {v0 v1 v2 v3 v4 : Nat} {L : List Nd} {ex : List (Option Ob)} {x0 x1 y : Option Ob} : (kG fmt v0 v1 v2 v3 v4 L ++ x0 :: x1 :: ex).set 6 y = kG fmt v0 v1 v2 v3 v4 L ++ x0 :: y :: ex := rfl
theorem kG_7 {fmt : Int → List UInt8} {v0 v1 v2 v3 v4 : Nat} {L : List Nd} {ex : List (Option Ob)} {x0 x1 x2 : Option Ob} : (kG fmt v0 v1 v2 v3 v4 L ++ x0 :: x1 :: x2 :: ex)[7]? = some x2 := rfl
theorem kGs_7 {fmt : Int → List UInt8} {v0 v1 v2 v3 v4 : Nat} {L : List Nd} {ex : List (Option Ob)} {x0 x1 x2 y : Option Ob} : (kG fmt v0 v1 v2 v3 v4 L ++ x0 :: x1 :: x2 :: ex).set 7 y = kG fmt v0 v1 v2 v3 v4 L ++ x0 :: x1 :: y :: ex := rfl
theorem kG_8 {fmt : Int → List UInt8} {v0 v1 v2 v3 v4 : Nat} {L : List Nd} {ex : List (Option Ob)} {x0 x1 x2 x3 : Option Ob} : (kG fmt v0 v1 v2 v3 v4 L ++ x0 :: x1 :: x2 :: x3 :: ex)[8]? = some x3 := rfl
theorem kGs_8 {fmt : Int → List UInt8} {v0 v1 v2 v3 v4 : Nat} {L : List Nd} {ex : List (Option Ob)} {x0 x1 x2 x3 y : Option Ob} : (kG fmt v0 v1 v2 v3 v4 L ++ x0 :: x1 :: x2 :: x3 :: ex).set 8 y = kG fmt v0 v1 v2 v3 v4 L ++ x0 :: x1 :: x2 :: y :: ex := rfl
theorem kG_9 {fmt : Int → List UInt8} {v0 v1 v2 v3 v4 : Nat} {L : List Nd} {ex : List (Option Ob)} {x0 x1 x2 x3 x4 : Option Ob} : (kG fmt v0 v1 v2 v3 v4 L ++ x0 :: x1 :: x2 :: x3 :: x4 :: ex)[9]? = some x4 := rfl
theorem kGs_9 {fmt : Int → List UInt8} {v0 v1 v2 v3 v4 : Nat} {L : List Nd} {ex : List (Option Ob)} {x0 x1 x2 x3 x4 y : Option Ob} : (kG fmt v0 v1 v2 v3 v4 L ++ x0 :: x1 :: x2 :: x3 :: x4 :: ex).set 9 y = kG fmt v0 v1 v2 v3 v4 L ++ x0 :: x1 :: x2 :: x3 :: y :: ex := rfl
theorem kG_len {fmt : Int → List UInt8} {v0 v1 v2 v3 v4 : Nat} {L : List Nd} {ex : List (Option Ob)} : (kG fmt v0 v1 v2 v3 v4 L ++ ex).length = 5 + ex.length := by simp [kG]; omega
theorem kG_app {fmt : Int → List UInt8} {v0 v1 v2 v3 v4 : Nat} {L : List Nd} {ex : List (Option Ob)} {y : List (Option Ob)} : (kG fmt v0 v1 v2 v3 v4 L ++ ex) ++ y = kG fmt v0 v1 v2 v3 v4 L ++ (ex ++ y) := by simp
/-- All nodes that were added, one by one. -/
def madeL (l : List Nd) : List Nd := l.foldl (fun L d => (addN L d).2) []
theorem madeL_len (l : List Nd) : ∀ L : List Nd, (l.foldl (fun L d => (addN L d).2) L).length ≤ L.length + l.length := by
  induction l with
  | nil => intro L; simp
  | cons d l ih =>
    intro L
    have h1 := ih (addN L d).2
    have h2 : (addN L d).2.length ≤ L.length + 1 := by
      unfold addN
      split
      · split <;> simp
      · simp
    simp only [List.foldl_cons, List.length_cons]; omega

theorem c_Made (hT : TabOk P tab) (F : Fmt P G) {t : Nat} (l : List Nd) (tight : Bool) (hl : ∀ d ∈ l, i64 d.n ∧ i64 d.a) (hll : l.length ≤ 1000) :
   C P G 0 n_proofmarkkit_Made [.lst 6 (l.map fun d => .agg d.cells) tight] ⟨t, []⟩ fun v σ => ∃ v0 v1 v2 v3 v4 t' u, t ≤ t' ∧ v = .tup [.ptr 1 v0 0, u] ∧ σ = ⟨t', kG F.fmt v0 v1 v2 v3 v4 (madeL l)⟩ := by
  refine C_keep 5 (Nat.zero_le _) (C_tab hT t_proofmarkkit_Made (by simp [proofmarkkit_Made]) (W_run 1000 ?_))
  simp -implicitDefEqProofs (disch := omega) only [go_sem, ↓reduceIte, reduceCtorEq, Nat.reduceEqDiff, proofmarkkit_Made, zq4_0, zq4_1, zq4_2, zq4_3, zq4_4, zq4_5, zq4_6, zq4_7]
  refine call hT t_term_New (c_New hT (Nat.zero_le _)) 1000 fun v σ hv => ?_
  obtain ⟨v0, v1, v2, v3, v4, t1, i1, i2, i3, i4, ht1, rfl, rfl, rfl, rfl, rfl, rfl⟩ := hv
  simp -implicitDefEqProofs (disch := omega) only [go_sem, ↓reduceIte, reduceCtorEq, Nat.reduceEqDiff, Nat.zero_add, List.length_nil, List.nil_append]
  refine sem_shift (Shift.own (s := 5) (sz := 1) (T := 44) (z := 0) rfl (by decide)) (run_sem 1000 ?_)
  simp -implicitDefEqProofs (disch := omega) only [go_sem, ↓reduceIte, reduceCtorEq, Nat.reduceAdd, Nat.reduceEqDiff, Nat.zero_add, List.length_nil, List.nil_append, List.length_cons, List.cons_append]
  refine sem_invE (fun m fr σ => ∃ (i t' v2' v3' v4' r' : Nat) (L : List Nd) (O : List Int), i ≤ l.length ∧ m = l.length - i ∧ L = madeL (l.take i) ∧ O.length = i ∧ t ≤ t' ∧ fget fr 0 = .lst 6 (l.map fun d => .agg d.cells) tight ∧ fget fr 4 = .ptr 1 v0 0 ∧ fget fr 5 = .sl 5 r' 0 1 i none ∧ fget fr 6 = .int .i64 i ∧
       σ = ⟨t', kG F.fmt v0 v1 v2' v3' v4' L ++ [some (.arr r' 44 (O.map (V.int .i64)))]⟩)
    (fun e fr σ => e = .ex 0 ∧ fget fr 4 = .ptr 1 v0 0 ∧ ∃ (t' v2' v3' v4' r' : Nat) (x : Option Ob), t ≤ t' ∧ fget fr 5 = .sl 5 r' 0 1 l.length none ∧ σ = ⟨t', kG F.fmt v0 v1 v2' v3' v4' (madeL l) ++ [x]⟩)
    (m0 := l.length) ⟨0, t1 + 1, v2, v3, v4, t1, [], [], Nat.zero_le _, rfl, rfl, rfl, by omega, ?_⟩ (fun m fr σ hJ => ?_) (fun e fr σ hE => ?_)
  · simp -implicitDefEqProofs (disch := omega) only [go_sem, ↓reduceIte, reduceCtorEq, Nat.reduceEqDiff]
    exact ⟨rfl, rfl⟩
  · obtain ⟨i, t', v2', v3', v4', r', L, O, hi, rfl, hLe, hO, ht', f0, f4, f5, f6, rfl⟩ := hJ
    have hLl : L.length ≤ i := by
      have := madeL_len (l.take i) []
      rw [hLe]; simp [madeL] at this ⊢; omega
    refine W_run 1000 ?_
    rcases Nat.lt_or_ge i l.length with hlt | hge
    · obtain ⟨d, hd⟩ : ∃ d, l[i]? = some d := ⟨_, List.getElem?_eq_getElem hlt⟩
      obtain ⟨hn, ha⟩ := hl d (List.mem_of_getElem? hd)
      have hc6 : d.cells.length = 6 := rfl
      have ht6 : d.cells.take 6 = d.cells := rfl
      have hg : (l.map fun d => V.agg d.cells).getD i .any = .agg d.cells := by simp [List.getD_eq_getElem?_getD, hd]
      simp -implicitDefEqProofs (disch := omega) only [go_sem, need_of, ↓reduceIte, reduceCtorEq, Nat.reduceEqDiff, Nat.succ_ne_zero, Nat.zero_add, decide_true, Nat.le_refl, List.length_map, f0, f4, f5, f6, hlt, hg, hc6, ht6]
      refine call hT t_term_Graph_Add (k_Add hT F d (by omega) hn ha) 1000 fun v σ hv => ?_
      obtain ⟨rfl, t2, w2, w3, w4, ht2, rfl⟩ := hv
      simp -implicitDefEqProofs (disch := omega) only [go_sem, need_of, ↓reduceIte, reduceCtorEq, Nat.reduceEqDiff, Nat.reduceLeDiff, Nat.zero_add, Nat.mul_one, Bool.not_true, Nat.le_refl, Nat.zero_le, List.length_map, f6, kG_5, kGs_5, hO]
      refine ⟨l.length - (i + 1), _, _, by omega, Shift.refl _ _ _ _, i + 1, t2 + 1, w2, w3, w4, t2, (addN L d).2, O ++ [(addN L d).1], hlt, rfl, ?_, by simp [hO], by omega, ?_⟩
      · rw [List.take_add_one, hd, Option.toList_some, madeL, List.foldl_append, hLe]; rfl
      · have hw : IntKind.i64.wrap ((i : Int) + 1) = ((i + 1 : Nat) : Int) := by
          rw [wrap_i64 (by omega) (by omega)]; rfl
        simp -implicitDefEqProofs (disch := omega) only [go_sem, ↓reduceIte, reduceCtorEq, Nat.reduceEqDiff, Nat.succ_ne_zero, f0, f4, hw, List.map_append]
        try exact ⟨rfl, rfl⟩
        try rfl
    · simp -implicitDefEqProofs (disch := omega) only [go_sem, ↓reduceIte, Nat.reduceEqDiff, Nat.succ_ne_zero, decide_false, List.length_map, f0, f4, f5, f6, show ¬ i < l.length from by omega]
      have hil : i = l.length := by omega
      subst hil
      rw [List.take_length] at hLe
      exact ⟨t', v2', v3', v4', r', _, ht', rfl, rfl, by rw [hLe]⟩
  · obtain ⟨rfl, f4, t', v2', v3', v4', r', x, ht', f5, rfl⟩ := hE
    refine run_sem 1000 ?_
    simp -implicitDefEqProofs (disch := omega) only [go_sem, ↓reduceIte, Nat.reduceAdd, Nat.reduceEqDiff, Nat.reduceLeDiff, Nat.zero_add, f4, f5, kG_len]
    exact ⟨v0, v1, v2', v3', v4', _, _, ht', rfl, rfl, by simp [kG]⟩
end Go.Proofs.YtfligilbnpcnaaaGreatDoor

