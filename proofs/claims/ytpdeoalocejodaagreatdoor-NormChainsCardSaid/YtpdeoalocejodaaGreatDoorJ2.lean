/- Contracts of a graph that New has made, with other objects behind. -/
import Derived.Test.YtpdeoalocejodaaGreatDoorJ1
import Derived.Test.YtpdeoalocejodaaGreatDoorAmD
/- Contracts of a graph that New has made, with other objects behind. -/
namespace Go.Proofs.YtpdeoalocejodaaGreatDoor
open Go Go.Am
set_option maxRecDepth 100000
variable {P : Program} {G : Nat → Option V}
def kG (fmt : Int → List UInt8) (v0 v1 v2 v3 v4 : Nat) (L : List Nd) : List (Option Ob) :=
  [some (.map v1 (ents 0 L)), some (.arr v0 85 [.sl 2 v2 0 6 L.length none, .mp 0 v1, .sl 3 v3 0 1 L.length none, .sl 4 v4 0 1 L.length none]), some (.arr v2 57 (ndC L)), some (.arr v3 3 ((deeps L).map (V.int .i64))), some (.arr v4 3 ((longs fmt L).map (V.int .i64)))]
theorem kren_ents (r : Nat → Nat) : ∀ (k : Nat) (L : List Nd), (ents k L).map (fun p => (p.1, V.ren r p.2)) = ents k L
  | _, [] => rfl
  | k, d :: l => by simp only [ents, List.map_cons, kren_ents r (k + 1) l]; rw [V.ren_nameless _ rfl]
theorem kren_ndC (r : Nat → Nat) (L : List Nd) : renL r (ndC L) = ndC L := renL_nameless _ (ndC_nameless L)
theorem kren_ints (r : Nat → Nat) (L : List Int) : renL r (L.map (V.int .i64)) = L.map (V.int .i64) := renL_nameless _ (ints_nameless L)
theorem kunder_ndC (k : Nat) (L : List Nd) : underL k (ndC L) = true := underL_nameless _ (ndC_nameless L)
theorem kunder_ints (k : Nat) (L : List Int) : underL k (L.map (V.int .i64)) = true := underL_nameless _ (ints_nameless L)
theorem set_same {α : Type} : ∀ (l : List α) (i : Nat) (x : α), l[i]? = some x → l.set i x = l
  | [], _, _, _ => rfl
  | a :: l, 0, x, h => by simp at h; simp [h]
  | a :: l, i + 1, x, h => by simp [set_same l i x (by simpa using h)]
theorem k_read {fmt : Int → List UInt8} {f : Nat} {args : List V} {r : V} {v0 v1 v2 v3 v4 t : Nat} {L : List Nd} {ex : List (Option Ob)} {base : Nat} (h : C P G 5 f (.ptr 0 v0 0 :: args) ⟨t, gG fmt v0 v1 v2 v3 v4 L⟩ fun v σ => v = r ∧ ∃ t', t ≤ t' ∧ σ = ⟨t', gG fmt v0 v1 v2 v3 v4 L⟩)
    (ha : namelessL args = true) (hr : nameless r = true) :
    C P G base f (.ptr 1 v0 0 :: args) ⟨t, kG fmt v0 v1 v2 v3 v4 L ++ ex⟩ fun v σ => v = r ∧ ∃ t', t ≤ t' ∧ σ = ⟨t', kG fmt v0 v1 v2 v3 v4 L ++ ex⟩ := by
  refine C_small [1, 0, 2, 3, 4] h rfl (by decide) ?_ ?_ ?_ (Nat.le_refl _) ?_ ?_ fun v σ hv => ?_
  · simp [ltAll, kG]
  · simp [holdL, gG, gH, gS, kG, Ob.under, underL, V.under, Ob.ren, renL, V.ren, rOf, kren_ents, kren_ndC, kren_ints, kunder_ndC, kunder_ints, -List.all_eq_true, ents_under]
  · simp [bndL]
  · simp [underL, V.under, gG, gH, underL_nameless _ ha]
  · simp only [renL, V.ren]
    rw [renL_nameless _ ha]
    simp [rOf]
  · obtain ⟨rfl, t', h1, rfl⟩ := hv
    refine ⟨by simp [gG, gH], V.ren_nameless _ hr, t', h1, ?_⟩
    simp [merged, setAll, gG, gH, gS, kG, Ob.ren, renL, V.ren, rOf, kren_ents, kren_ndC, kren_ints]
theorem k_Add (hT : TabOk P tab) (F : Fmt P G) {v0 v1 v2 v3 v4 t : Nat} {L : List Nd} {ex : List (Option Ob)} (d : Nd) (hL : L.length ≤ 1000000) (hn : i64 d.n) (ha : i64 d.a) :
   C P G 0 n_term_Graph_Add [.ptr 1 v0 0, .agg d.cells] ⟨t, kG F.fmt v0 v1 v2 v3 v4 L ++ ex⟩ fun v σ => v = .int .i64 (addN L d).1 ∧ ∃ t' v2' v3' v4', t ≤ t' ∧ σ = ⟨t', kG F.fmt v0 v1 v2' v3' v4' (addN L d).2 ++ ex⟩ := by
  refine C_small [1, 0, 2, 3, 4] (c_AddG hT F (v0 := v0) (v1 := v1) (v2 := v2) (v3 := v3) (v4 := v4) d hL hn ha) rfl (by decide) ?_ ?_ ?_ (Nat.zero_le _) rfl ?_ fun v σ hv => ?_
  · simp [ltAll, kG]
  · simp [holdL, gG, gH, gS, kG, Ob.under, underL, V.under, Ob.ren, renL, V.ren, rOf, kren_ents, kren_ndC, kren_ints, kunder_ndC, kunder_ints, -List.all_eq_true, ents_under]
  · simp [bndL]
  · simp [renL, V.ren, rOf, kG, Nd.cells]
  · obtain ⟨rfl, t', v2', v3', v4', h1, rfl⟩ := hv
    refine ⟨by simp [gG, gH], by simp [V.ren], t', v2', v3', v4', h1, ?_⟩
    simp [merged, setAll, gG, gH, gS, kG, Ob.ren, renL, V.ren, rOf, kren_ents, kren_ndC, kren_ints]
theorem k_Size (hT : TabOk P tab) {base : Nat} {fmt : Int → List UInt8} {v0 v1 v2 v3 v4 t : Nat} {L : List Nd} {ex : List (Option Ob)} :
   C P G base n_term_Graph_Size [.ptr 1 v0 0] ⟨t, kG fmt v0 v1 v2 v3 v4 L ++ ex⟩ fun v σ => v = .int .i64 L.length ∧ ∃ t', t ≤ t' ∧ σ = ⟨t', kG fmt v0 v1 v2 v3 v4 L ++ ex⟩ :=
  k_read ((c_Size hT).conseq fun v σ h => ⟨h.1, t, Nat.le_refl _, h.2⟩) rfl rfl
theorem k_Node (hT : TabOk P tab) {base : Nat} {fmt : Int → List UInt8} {v0 v1 v2 v3 v4 t : Nat} {L : List Nd} {ex : List (Option Ob)} {id : Int} :
   C P G base n_term_Graph_Node [.ptr 1 v0 0, .int .i64 id] ⟨t, kG fmt v0 v1 v2 v3 v4 L ++ ex⟩ fun v σ => v = (if 0 ≤ id ∧ id < L.length then .tup [.agg (L.getD id.toNat zeroNd).cells, .bool true] else .tup [.agg zeroNd.cells, .bool false]) ∧ ∃ t', t ≤ t' ∧ σ = ⟨t', kG fmt v0 v1 v2 v3 v4 L ++ ex⟩ :=
  k_read (c_Node hT (Nat.le_refl _)) rfl (by split <;> rfl)
theorem k_Uses (hT : TabOk P tab) (SO : SortOk P) {base : Nat} {fmt : Int → List UInt8} {v0 v1 v2 v3 v4 t : Nat} {L : List Nd} {ex : List (Option Ob)} (hL : L.length ≤ 1000000) (hwf : gwf L) (roots : List Int) (z : Nat) (tight : Bool) (hz : z = 1 ∨ roots = []) (hrl : roots.length ≤ 9223372036854775806) :
   C P G base n_term_Graph_Uses [.ptr 1 v0 0, .lst z (roots.map (V.int .i64)) tight] ⟨t, kG fmt v0 v1 v2 v3 v4 L ++ ex⟩ fun v σ => v = .lst 1 ((usesL L roots).map (V.int .i64)) false ∧ ∃ t', t ≤ t' ∧ σ = ⟨t', kG fmt v0 v1 v2 v3 v4 L ++ ex⟩ :=
  k_read (c_Uses hT SO (Nat.le_refl _) hL hwf roots z tight hz hrl) rfl rfl
theorem kG_5 {fmt : Int → List UInt8} {v0 v1 v2 v3 v4 : Nat} {L : List Nd} {ex : List (Option Ob)} {x0 : Option Ob} : (kG fmt v0 v1 v2 v3 v4 L ++ x0 :: ex)[5]? = some x0 := rfl
theorem kGs_5 {fmt : Int → List UInt8} {v0 v1 v2 v3 v4 : Nat} {L : List Nd} {ex : List (Option Ob)} {x0 y : Option Ob} : (kG fmt v0 v1 v2 v3 v4 L ++ x0 :: ex).set 5 y = kG fmt v0 v1 v2 v3 v4 L ++ y :: ex := rfl
theorem kG_len {fmt : Int → List UInt8} {v0 v1 v2 v3 v4 : Nat} {L : List Nd} {ex : List (Option Ob)} : (kG fmt v0 v1 v2 v3 v4 L ++ ex).length = 5 + ex.length := by simp [kG]; omega
def madeL (l : List Nd) : List Nd := l.foldl (fun L d => (addN L d).2) []
theorem madeL_len (l : List Nd) : ∀ L : List Nd, (l.foldl (fun L d => (addN L d).2) L).length ≤ L.length + l.length := by
  induction l with
  | nil => intro L; simp
  | cons d l ih =>
    intro L
    have h1 := ih (addN L d).2
    have h2 : (addN L d).2.length ≤ L.length + 1 := by
      unfold addN
      split
      · split <;> simp
      · simp
    simp only [List.foldl_cons, List.length_cons]; omega
theorem c_Made (hT : TabOk P tab) (F : Fmt P G) {t : Nat} (l : List Nd) (tight : Bool) (hl : ∀ d ∈ l, i64 d.n ∧ i64 d.a) (hll : l.length ≤ 1000) :
   C P G 0 n_proofmarkkit_Made [.lst 6 (l.map fun d => .agg d.cells) tight] ⟨t, []⟩ fun v σ => ∃ v0 v1 v2 v3 v4 t' u, t ≤ t' ∧ v = .tup [.ptr 1 v0 0, u] ∧ σ = ⟨t', kG F.fmt v0 v1 v2 v3 v4 (madeL l)⟩ := by
  refine C_keep 5 (Nat.zero_le _) (C_tab hT t_proofmarkkit_Made (by simp [proofmarkkit_Made]) (W_run 1000 ?_))
  simp -implicitDefEqProofs (disch := omega) only [go_sem, ↓reduceIte, reduceCtorEq, Nat.reduceEqDiff, proofmarkkit_Made, zqm_0, zqm_1, zqm_2, zqm_3, zqm_4, zqm_5, zqm_6, zqm_7]
  refine call hT t_term_New (c_New hT (Nat.zero_le _)) 1000 fun v σ hv => ?_
  obtain ⟨v0, v1, v2, v3, v4, t1, i1, i2, i3, i4, ht1, rfl, rfl, rfl, rfl, rfl, rfl⟩ := hv
  simp -implicitDefEqProofs (disch := omega) only [go_sem, ↓reduceIte, reduceCtorEq, Nat.reduceEqDiff, Nat.zero_add, List.length_nil, List.nil_append]
  refine sem_shift (Shift.own (s := 5) (sz := 1) (T := 26) (z := 0) rfl (by decide)) (run_sem 1000 ?_)
  simp -implicitDefEqProofs (disch := omega) only [go_sem, ↓reduceIte, reduceCtorEq, Nat.reduceAdd, Nat.reduceEqDiff, Nat.zero_add, List.length_nil, List.nil_append, List.length_cons, List.cons_append]
  refine sem_invE (fun m fr σ => ∃ (i t' v2' v3' v4' r' : Nat) (L : List Nd) (O : List Int), i ≤ l.length ∧ m = l.length - i ∧ L = madeL (l.take i) ∧ O.length = i ∧ t ≤ t' ∧ fget fr 0 = .lst 6 (l.map fun d => .agg d.cells) tight ∧ fget fr 4 = .ptr 1 v0 0 ∧ fget fr 5 = .sl 5 r' 0 1 i none ∧ fget fr 6 = .int .i64 i ∧
       σ = ⟨t', kG F.fmt v0 v1 v2' v3' v4' L ++ [some (.arr r' 26 (O.map (V.int .i64)))]⟩)
    (fun e fr σ => e = .ex 0 ∧ fget fr 4 = .ptr 1 v0 0 ∧ ∃ (t' v2' v3' v4' r' : Nat) (x : Option Ob), t ≤ t' ∧ fget fr 5 = .sl 5 r' 0 1 l.length none ∧ σ = ⟨t', kG F.fmt v0 v1 v2' v3' v4' (madeL l) ++ [x]⟩)
    (m0 := l.length) ⟨0, t1 + 1, v2, v3, v4, t1, [], [], Nat.zero_le _, rfl, rfl, rfl, by omega, ?_⟩ (fun m fr σ hJ => ?_) (fun e fr σ hE => ?_)
  · simp -implicitDefEqProofs (disch := omega) only [go_sem, ↓reduceIte, reduceCtorEq, Nat.reduceEqDiff]
    exact ⟨rfl, rfl⟩
  · obtain ⟨i, t', v2', v3', v4', r', L, O, hi, rfl, hLe, hO, ht', f0, f4, f5, f6, rfl⟩ := hJ
    have hLl : L.length ≤ i := by
      have := madeL_len (l.take i) []
      rw [hLe]; simp [madeL] at this ⊢; omega
    refine W_run 1000 ?_
    rcases Nat.lt_or_ge i l.length with hlt | hge
    · obtain ⟨d, hd⟩ : ∃ d, l[i]? = some d := ⟨_, List.getElem?_eq_getElem hlt⟩
      obtain ⟨hn, ha⟩ := hl d (List.mem_of_getElem? hd)
      have hc6 : d.cells.length = 6 := rfl
      have ht6 : d.cells.take 6 = d.cells := rfl
      have hg : (l.map fun d => V.agg d.cells).getD i .any = .agg d.cells := by simp [List.getD_eq_getElem?_getD, hd]
      simp -implicitDefEqProofs (disch := omega) only [go_sem, need_of, ↓reduceIte, reduceCtorEq, Nat.reduceEqDiff, Nat.succ_ne_zero, Nat.zero_add, decide_true, Nat.le_refl, List.length_map, f0, f4, f5, f6, hlt, hg, hc6, ht6]
      refine call hT t_term_Graph_Add (k_Add hT F d (by omega) hn ha) 1000 fun v σ hv => ?_
      obtain ⟨rfl, t2, w2, w3, w4, ht2, rfl⟩ := hv
      simp -implicitDefEqProofs (disch := omega) only [go_sem, need_of, ↓reduceIte, reduceCtorEq, Nat.reduceEqDiff, Nat.reduceLeDiff, Nat.zero_add, Nat.mul_one, Bool.not_true, Nat.le_refl, Nat.zero_le, List.length_map, f6, kG_5, kGs_5, hO]
      refine ⟨l.length - (i + 1), _, _, by omega, Shift.refl _ _ _ _, i + 1, t2 + 1, w2, w3, w4, t2, (addN L d).2, O ++ [(addN L d).1], hlt, rfl, ?_, by simp [hO], by omega, ?_⟩
      · rw [List.take_add_one, hd, Option.toList_some, madeL, List.foldl_append, hLe]; rfl
      · have hw : IntKind.i64.wrap ((i : Int) + 1) = ((i + 1 : Nat) : Int) := by
          rw [wrap_i64 (by omega) (by omega)]; rfl
        simp -implicitDefEqProofs (disch := omega) only [go_sem, ↓reduceIte, reduceCtorEq, Nat.reduceEqDiff, Nat.succ_ne_zero, f0, f4, hw, List.map_append]
        try exact ⟨rfl, rfl⟩
        try rfl
    · simp -implicitDefEqProofs (disch := omega) only [go_sem, ↓reduceIte, Nat.reduceEqDiff, Nat.succ_ne_zero, decide_false, List.length_map, f0, f4, f5, f6, show ¬ i < l.length from by omega]
      have hil : i = l.length := by omega
      subst hil
      rw [List.take_length] at hLe
      exact ⟨t', v2', v3', v4', r', _, ht', rfl, rfl, by rw [hLe]⟩
  · obtain ⟨rfl, f4, t', v2', v3', v4', r', x, ht', f5, rfl⟩ := hE
    refine run_sem 1000 ?_
    simp -implicitDefEqProofs (disch := omega) only [go_sem, ↓reduceIte, Nat.reduceAdd, Nat.reduceEqDiff, Nat.reduceLeDiff, Nat.zero_add, f4, f5, kG_len]
    exact ⟨v0, v1, v2', v3', v4', _, _, ht', rfl, rfl, by simp [kG]⟩
end Go.Proofs.YtpdeoalocejodaaGreatDoor
/- The plain law of terms: what is reached, how deep, how long, which texts. -/
namespace Go.Proofs.YtpdeoalocejodaaGreatDoor
open Go Go.Am
set_option maxRecDepth 100000
def okN (L : List Nd) : Prop := ∀ (i : Nat) (d : Nd), L[i]? = some d → i64 d.n ∧ i64 d.a ∧ d.may i = true
theorem may_parts {d : Nd} {i : Nat} (h : d.may i = true) : (∀ p ∈ d.parts, 0 ≤ p ∧ p < i) ∧ (0 ≤ d.op ∧ d.op ≤ 16) ∧ (d.kind = 1 ∨ d.kind = 2 ∨ d.kind = 3 ∨ d.kind = 4) := by
  simp only [Nd.may] at h
  refine ⟨?_, ?_, ?_⟩
  · simp only [Nd.parts]; grind
  · grind
  · grind
theorem okN.wf {L : List Nd} (h : okN L) : gwf L := fun i d hd p hp => (may_parts (h i d hd).2.2).1 p hp
theorem okN_addN {L : List Nd} (h : okN L) {d : Nd} (hn : i64 d.n) (ha : i64 d.a) : okN (addN L d).2 := by
  unfold addN
  split
  · rename_i hm
    split
    · exact h
    · intro i e he
      by_cases hi : i < L.length
      · rw [List.getElem?_append_left hi] at he; exact h i e he
      · have : i = L.length := by
          have := (List.getElem?_eq_some_iff.1 he).1
          simp at this; omega
        subst this
        simp at he; subst he
        exact ⟨hn, ha, hm⟩
  · exact h
theorem addN_pre (L : List Nd) (d : Nd) : L <+: (addN L d).2 := by
  unfold addN
  split
  · split
    · exact List.prefix_rfl
    · exact List.prefix_append _ _
  · exact List.prefix_rfl
def pts (L : List Nd) (x : Int) : List Int := (L.getD x.toNat zeroNd).parts
theorem pts_lt {L : List Nd} (h : gwf L) {x : Int} (h0 : 0 ≤ x) (h1 : x < L.length) : ∀ p ∈ pts L x, 0 ≤ p ∧ p < x := by
  intro p hp
  obtain ⟨d, hd⟩ : ∃ d, L[x.toNat]? = some d := ⟨_, List.getElem?_eq_getElem (by omega)⟩
  have : pts L x = d.parts := by simp [pts, List.getD_eq_getElem?_getD, hd]
  rw [this] at hp
  have := h _ d hd p hp
  omega
theorem walkN_succ (L : List Nd) (f : Nat) (id : Int) (S : List Int) : walkN L (f + 1) id S = if 0 ≤ id ∧ id < L.length ∧ id ∉ S then (pts L id).foldl (fun S p => walkN L f p S) (S ++ [id]) else S := rfl
theorem walk_pred {L : List Nd} {Q : Int → Prop} (hq : ∀ x : Int, 0 ≤ x → x < L.length → Q x → ∀ p ∈ pts L x, Q p) : ∀ (f : Nat) (id : Int) (S : List Int), (0 ≤ id → id < L.length → Q id) → (∀ x ∈ S, Q x) → ∀ x ∈ walkN L f id S, Q x
  | 0, _, _, _, hS => hS
  | f + 1, id, S, hid, hS => by
    rw [walkN_succ]
    split
    · rename_i hc
      have hfold : ∀ (ps : List Int) (S : List Int), (∀ p ∈ ps, Q p) → (∀ x ∈ S, Q x) → ∀ x ∈ ps.foldl (fun S p => walkN L f p S) S, Q x := fun ps => by
        induction ps with
        | nil => intro S _ hS; exact hS
        | cons p ps ih => intro S hp hS; exact ih _ (fun q hq' => hp q (by simp [hq'])) (walk_pred hq f p S (fun _ _ => hp p (by simp)) hS)
      refine hfold _ _ (hq id hc.1 hc.2.1 (hid hc.1 hc.2.1)) fun x hx => ?_
      simp only [List.mem_append, List.mem_singleton] at hx
      rcases hx with hx | rfl
      · exact hS x hx
      · exact hid hc.1 hc.2.1
    · exact hS
theorem walk_closed {L : List Nd} (hwf : gwf L) : ∀ (f : Nat) (id : Int) (S : List Int), id.toNat < f → (∀ x ∈ S, x ∈ walkN L f id S) ∧ (0 ≤ id → id < L.length → id ∈ walkN L f id S) ∧ ∀ x ∈ walkN L f id S, x ∉ S → ∀ p ∈ pts L x, p ∈ walkN L f id S
  | 0, _, _, h => by omega
  | f + 1, id, S, hf => by
    have hfold : ∀ (ps : List Int) (S : List Int), (∀ p ∈ ps, p.toNat < f) → (∀ x ∈ S, x ∈ ps.foldl (fun S p => walkN L f p S) S) ∧ (∀ p ∈ ps, 0 ≤ p → p < L.length → p ∈ ps.foldl (fun S p => walkN L f p S) S) ∧ ∀ x ∈ ps.foldl (fun S p => walkN L f p S) S, x ∉ S → ∀ p ∈ pts L x, p ∈ ps.foldl (fun S p => walkN L f p S) S := fun ps => by
      induction ps with
      | nil => intro S _; exact ⟨fun x h => h, fun p h => by simp at h, fun x h h' => absurd h h'⟩
      | cons q ps ih =>
        intro S hps
        obtain ⟨a1, a2, a3⟩ := walk_closed hwf f q S (hps q (by simp))
        obtain ⟨b1, b2, b3⟩ := ih (walkN L f q S) fun p hp => hps p (by simp [hp])
        refine ⟨fun x hx => b1 x (a1 x hx), fun p hp h0 h1 => ?_, fun x hx hxS p hp => ?_⟩
        · simp only [List.mem_cons] at hp
          rcases hp with rfl | hp
          · exact b1 _ (a2 h0 h1)
          · exact b2 p hp h0 h1
        · by_cases hxw : x ∈ walkN L f q S
          · exact b1 _ (a3 x hxw hxS p hp)
          · exact b3 x hx hxw p hp
    rw [walkN_succ]
    split
    · rename_i hc
      have hp := pts_lt hwf hc.1 hc.2.1
      obtain ⟨a1, a2, a3⟩ := hfold (pts L id) (S ++ [id]) fun p hp' => by have := hp p hp'; omega
      refine ⟨fun x hx => a1 x (by simp [hx]), fun _ _ => a1 id (by simp), fun x hx hxS p hpx => ?_⟩
      by_cases hxi : x = id
      · subst hxi
        have := hp p hpx
        exact a2 p hpx this.1 (by omega)
      · exact a3 x hx (by simp [hxS, hxi]) p hpx
    · rename_i hc
      refine ⟨fun x h => h, fun h0 h1 => ?_, fun x h h' => absurd h h'⟩
      by_cases hm : id ∈ S
      · exact hm
      · exact absurd ⟨h0, h1, hm⟩ hc
theorem mem_uses {L : List Nd} {roots : List Int} {x : Int} : x ∈ usesL L roots ↔ x ∈ walks L roots [] := by
  unfold usesL; exact List.mem_mergeSort
theorem mem_uses1 {L : List Nd} {id x : Int} : x ∈ usesL L [id] ↔ x ∈ walkN L (id.toNat + 1) id [] := by
  rw [mem_uses]; simp [walks]
theorem uses_ok {L : List Nd} {roots : List Int} : ∀ x ∈ usesL L roots, 0 ≤ x ∧ x < L.length := fun x hx =>
  (okS_walks L roots [] ⟨List.nodup_nil, by simp⟩).2 x (mem_uses.1 hx)
theorem uses_nodup {L : List Nd} {roots : List Int} : (usesL L roots).Nodup :=
  (List.mergeSort_perm _ _).nodup_iff.2 (okS_walks L roots [] ⟨List.nodup_nil, by simp⟩).1
theorem uses_sorted {L : List Nd} {roots : List Int} : (usesL L roots).Pairwise (· < ·) := by
  have h1 : (usesL L roots).Pairwise (fun a b => decide (a ≤ b) = true) := List.pairwise_mergeSort (fun a b c h1 h2 => by simp at h1 h2 ⊢; omega) (fun a b => by simp; omega) _
  have h2 : (usesL L roots).Pairwise (· ≠ ·) := uses_nodup
  refine (h1.and h2).imp fun {a b} h => ?_
  have := h.1
  simp at this
  have := h.2
  omega
theorem uses_self {L : List Nd} (hwf : gwf L) {id : Int} (h0 : 0 ≤ id) (h1 : id < L.length) : id ∈ usesL L [id] := mem_uses1.2 ((walk_closed hwf (id.toNat + 1) id [] (by omega)).2.1 h0 h1)
theorem uses_closed {L : List Nd} (hwf : gwf L) {id x p : Int} (hx : x ∈ usesL L [id]) (hp : p ∈ pts L x) : p ∈ usesL L [id] :=
  mem_uses1.2 ((walk_closed hwf (id.toNat + 1) id [] (by omega)).2.2 x (mem_uses1.1 hx) (by simp) p hp)
theorem uses_pred {L : List Nd} {Q : Int → Prop} {id : Int} (hq : ∀ x : Int, 0 ≤ x → x < L.length → Q x → ∀ p ∈ pts L x, Q p) (hid : Q id) : ∀ x ∈ usesL L [id], Q x := fun x hx =>
  walk_pred hq _ id [] (fun _ _ => hid) (by simp) x (mem_uses1.1 hx)
theorem uses_le {L : List Nd} (hwf : gwf L) {id : Int} : ∀ x ∈ usesL L [id], x ≤ id :=
  uses_pred (Q := fun x => x ≤ id) (fun x h0 h1 h p hp => by have := pts_lt hwf h0 h1 p hp; omega) (Int.le_refl _)
end Go.Proofs.YtpdeoalocejodaaGreatDoor
/- The document's graph: how deep, what is reached, texts. -/
namespace Go.Proofs.YtpdeoalocejodaaGreatDoor
open Go Go.Am
set_option maxRecDepth 100000
set_option maxHeartbeats 1000000
variable {P : Program} {G : Nat → Option V}
theorem under_nameless (k : Nat) {v : V} (h : nameless v = true) : V.under k v = true := by
  have := underL_nameless (k := k) [v] (by simp [namelessL, h])
  simpa [underL] using this
end Go.Proofs.YtpdeoalocejodaaGreatDoor
/- The document's graph: what is reached, texts. -/
namespace Go.Proofs.YtpdeoalocejodaaGreatDoor
open Go Go.Am
set_option maxRecDepth 100000
set_option maxHeartbeats 1000000
variable {P : Program} {G : Nat → Option V}
end Go.Proofs.YtpdeoalocejodaaGreatDoor
/- What only looks at a small heap, anywhere in a great one; all that roots reach. -/
namespace Go.Am
open Go
variable {P : Program} {G : Nat → Option V}
end Go.Am
namespace Go.Proofs.YtpdeoalocejodaaGreatDoor
open Go Go.Am
set_option maxRecDepth 100000
set_option maxHeartbeats 1000000
variable {P : Program} {G : Nat → Option V}
theorem take_snoc2 {α : Type} {L : List α} {i : Nat} {d : α} (h : L[i]? = some d) : L.take (i + 1) = L.take i ++ [d] := by rw [List.take_add_one, h]; rfl
end Go.Proofs.YtpdeoalocejodaaGreatDoor
/- The document's Uses, and the graph as the document has it. -/
namespace Go.Proofs.YtpdeoalocejodaaGreatDoor
open Go Go.Am
set_option maxRecDepth 100000
set_option maxHeartbeats 1000000
variable {P : Program} {G : Nat → Option V}
theorem kG_len0 {fmt : Int → List UInt8} {v0 v1 v2 v3 v4 : Nat} {L : List Nd} : (kG fmt v0 v1 v2 v3 v4 L).length = 5 := rfl
end Go.Proofs.YtpdeoalocejodaaGreatDoor
/- Two graphs at once. -/
namespace Go.Proofs.YtpdeoalocejodaaGreatDoor
open Go Go.Am
set_option maxRecDepth 100000
set_option maxHeartbeats 1000000
variable {P : Program} {G : Nat → Option V}
end Go.Proofs.YtpdeoalocejodaaGreatDoor
/- What terms need: the program's. -/
namespace Go.Proofs.YtpdeoalocejodaaGreatDoor
open Go Go.Am
set_option maxRecDepth 100000
variable {P : Program} {G : Nat → Option V}
structure SortF (P : Program) (f : FuncId) : Prop where
  some : ∀ (blk off cap : Nat) (zs : List Int) (w : World), Go.Sort.Holds (Value.int .i64) w blk off zs.toArray → blk < w.heap.size → zs.length < 4611686018427387904 →
    Calls P f #[.slice (some ⟨blk, off, none⟩) zs.length cap] w fun e w' => e = .returned (.tuple #[]) ∧ ∃ n os, w' = Go.Sort.grow (Go.Sort.putRow (Value.int .i64) (Go.Sort.ahead w n) blk off (zs.mergeSort fun x y => decide (x ≤ y)).toArray) os
  none : ∀ (p : Option Addr) (cap : Nat) (w : World), Calls P f #[.slice p 0 cap] w fun e w' => e = .returned (.tuple #[]) ∧ w' = w
def nd (L : List Nd) (x : Int) : Nd := L.getD x.toNat zeroNd
def nints (l : List Int) : List V := l.map (V.int .i64)
theorem nints_length (l : List Int) : (nints l).length = l.length := by simp [nints]
theorem w_nx {i n : Nat} (h : i < n) (hn : n ≤ 9223372036854775807) : IntKind.i64.wrap ((i : Int) + 1) = ((i + 1 : Nat) : Int) := by rw [wrap_i64 (by omega) (by omega)]; rfl
end Go.Proofs.YtpdeoalocejodaaGreatDoor
/- What an operation makes: the program's word.Do, by operations. -/
namespace Go.Proofs.YtpdeoalocejodaaGreatDoor
open Go Go.Am
set_option maxRecDepth 100000
set_option maxHeartbeats 1000000
variable {P : Program} {G : Nat → Option V}
def divS (a b : Int) : Int := if b = 0 then -1 else if b = -1 then IntKind.i64.wrap (0 - a) else IntKind.i64.wrap (a.tdiv b)
def remS (a b : Int) : Int := if b = 0 then a else if b = -1 then 0 else a.tmod b
def divN (a b : Int) : Int := if b = 0 then -1 else IntKind.i64.wrap (IntKind.u64.wrap ((IntKind.u64.wrap a).tdiv (IntKind.u64.wrap b)))
def remN (a b : Int) : Int := if b = 0 then a else IntKind.i64.wrap ((IntKind.u64.wrap a).tmod (IntKind.u64.wrap b))
def Two (P : Program) (G : Nat → Option V) (f : Nat) (d : Int → Int → Int) : Prop := ∀ a b : Int, i64 a → i64 b → Pure P G f [.int .i64 a, .int .i64 b] fun v => v = .int .i64 (d a b)
theorem w_one (hT : TabOk P tab) (b : Bool) : Pure P G n_word_one [.bool b] fun v => v = .int .i64 (if b = true then 1 else 0) := by
  intro t
  refine C_keep 0 (Nat.zero_le _) (C_tab hT t_word_one (by simp [word_one]) (W_run 1000 ?_))
  cases b
  · simp -implicitDefEqProofs (disch := omega) only [go_sem, ↓reduceIte, reduceCtorEq, Nat.reduceEqDiff, Nat.le_refl, word_one, zq22_0, zq22_1, zq22_2, zq22_3, Bool.false_eq_true, and_true]
  · simp -implicitDefEqProofs (disch := omega) only [go_sem, ↓reduceIte, reduceCtorEq, Nat.reduceEqDiff, Nat.le_refl, word_one, zq22_0, zq22_1, zq22_2, zq22_3, and_true]
theorem wrap_rg (x : Int) : i64 (IntKind.i64.wrap x) := by
  simp [i64, IntKind.wrap, IntKind.signed, IntKind.bits]
  omega
theorem and63 (b : Int) : 0 ≤ andI IntKind.i64 b 63 := by
  have h1 : (BitVec.ofInt IntKind.i64.bits b &&& BitVec.ofInt IntKind.i64.bits 63).toNat ≤ 63 := by
    rw [BitVec.toNat_and]
    exact Nat.and_le_right
  rw [andI, wrap_i64 (by omega) (by omega)]
  omega
theorem w_div (hT : TabOk P tab) : Two P G n_word_div divS := by
  intro a b ha hb t
  refine C_keep 0 (Nat.zero_le _) (C_tab hT t_word_div (by simp [word_div]) (W_run 1000 ?_))
  by_cases h0 : b = 0
  · subst h0
    simp -implicitDefEqProofs (disch := omega) only [go_sem, ↓reduceIte, reduceCtorEq, Nat.reduceEqDiff, Nat.zero_add, Nat.le_refl, beq_self_eq_true, word_div, zq1r_0, zq1r_1, zq1r_2, zq1r_3, zq1r_4, zq1r_5, zq1r_6, divS]
  · by_cases h1 : b = -1
    · subst h1
      simp -implicitDefEqProofs (disch := omega) only [go_sem, ↓reduceIte, reduceCtorEq, Nat.reduceEqDiff, Nat.zero_add, Nat.le_refl, beq_self_eq_true, word_div, zq1r_0, zq1r_1, zq1r_2, zq1r_3, zq1r_4, zq1r_5, zq1r_6, divS, false_implies, true_implies, true_and, and_true]
    · have h0' : decide (b = 0) = false := by simpa using h0
      have h1' : decide (b = -1) = false := by simpa using h1
      simp -implicitDefEqProofs (disch := omega) only [go_sem, ↓reduceIte, reduceCtorEq, Nat.reduceEqDiff, Nat.zero_add, Nat.le_refl, word_div, zq1r_0, zq1r_1, zq1r_2, zq1r_3, zq1r_4, zq1r_5, zq1r_6, divS, h0, h1, false_implies, true_implies, true_and, and_true]
theorem w_rem (hT : TabOk P tab) : Two P G n_word_rem remS := by
  intro a b ha hb t
  refine C_keep 0 (Nat.zero_le _) (C_tab hT t_word_rem (by simp [word_rem]) (W_run 1000 ?_))
  by_cases h0 : b = 0
  · subst h0
    simp -implicitDefEqProofs (disch := omega) only [go_sem, ↓reduceIte, reduceCtorEq, Nat.reduceEqDiff, Nat.zero_add, Nat.le_refl, beq_self_eq_true, word_rem, zq1s_0, zq1s_1, zq1s_2, zq1s_3, zq1s_4, zq1s_5, zq1s_6, remS]
  · by_cases h1 : b = -1
    · subst h1
      simp -implicitDefEqProofs (disch := omega) only [go_sem, ↓reduceIte, reduceCtorEq, Nat.reduceEqDiff, Nat.zero_add, Nat.le_refl, beq_self_eq_true, word_rem, zq1s_0, zq1s_1, zq1s_2, zq1s_3, zq1s_4, zq1s_5, zq1s_6, remS, false_implies, true_implies, true_and, and_true]
    · have h0' : decide (b = 0) = false := by simpa using h0
      have h1' : decide (b = -1) = false := by simpa using h1
      simp -implicitDefEqProofs (disch := omega) only [go_sem, ↓reduceIte, reduceCtorEq, Nat.reduceEqDiff, Nat.zero_add, Nat.le_refl, word_rem, zq1s_0, zq1s_1, zq1s_2, zq1s_3, zq1s_4, zq1s_5, zq1s_6, remS, h0, h1, false_implies, true_implies, true_and, and_true]
theorem u64_ne {b : Int} (hb : i64 b) (h : b ≠ 0) : IntKind.u64.wrap b ≠ 0 := by
  unfold i64 at hb
  unfold IntKind.wrap
  simp only [IntKind.signed, IntKind.bits]
  omega
theorem w_divU (hT : TabOk P tab) : Two P G n_word_divU divN := by
  intro a b ha hb t
  refine C_keep 0 (Nat.zero_le _) (C_tab hT t_word_divU (by simp [word_divU]) (W_run 1000 ?_))
  by_cases h0 : b = 0
  · subst h0
    simp -implicitDefEqProofs (disch := omega) only [go_sem, ↓reduceIte, reduceCtorEq, Nat.reduceEqDiff, Nat.zero_add, Nat.le_refl, beq_self_eq_true, word_divU, zq1t_0, zq1t_1, zq1t_2, zq1t_3, divN]
  · have h2 := u64_ne hb h0
    simp -implicitDefEqProofs (disch := omega) only [go_sem, ↓reduceIte, reduceCtorEq, Nat.reduceEqDiff, Nat.zero_add, Nat.le_refl, word_divU, zq1t_0, zq1t_1, zq1t_2, zq1t_3, divN, h0, h2, false_implies, true_implies, true_and, and_true]
theorem w_remU (hT : TabOk P tab) : Two P G n_word_remU remN := by
  intro a b ha hb t
  refine C_keep 0 (Nat.zero_le _) (C_tab hT t_word_remU (by simp [word_remU]) (W_run 1000 ?_))
  by_cases h0 : b = 0
  · subst h0
    simp -implicitDefEqProofs (disch := omega) only [go_sem, ↓reduceIte, reduceCtorEq, Nat.reduceEqDiff, Nat.zero_add, Nat.le_refl, beq_self_eq_true, word_remU, zq1u_0, zq1u_1, zq1u_2, zq1u_3, remN]
  · have h2 := u64_ne hb h0
    simp -implicitDefEqProofs (disch := omega) only [go_sem, ↓reduceIte, reduceCtorEq, Nat.reduceEqDiff, Nat.zero_add, Nat.le_refl, word_remU, zq1u_0, zq1u_1, zq1u_2, zq1u_3, remN, h0, h2, false_implies, true_implies, true_and, and_true]
theorem w_S1 (hT : TabOk P tab) : Two P G n_word_of_S1 fun a b => IntKind.i64.wrap (a + b) := by
  intro a b ha hb t
  refine C_keep 0 (Nat.zero_le _) (C_tab hT t_word_of_S1 (by simp [word_of_S1]) (W_run 1000 ?_))
  simp -implicitDefEqProofs (disch := omega) only [go_sem, ↓reduceIte, reduceCtorEq, Nat.reduceEqDiff, Nat.zero_add, Nat.le_refl, word_of_S1, zq1o_0, zq1o_1]
theorem w_S2 (hT : TabOk P tab) : Two P G n_word_of_S2 fun a b => IntKind.i64.wrap (a - b) := by
  intro a b ha hb t
  refine C_keep 0 (Nat.zero_le _) (C_tab hT t_word_of_S2 (by simp [word_of_S2]) (W_run 1000 ?_))
  simp -implicitDefEqProofs (disch := omega) only [go_sem, ↓reduceIte, reduceCtorEq, Nat.reduceEqDiff, Nat.zero_add, Nat.le_refl, word_of_S2, zq1p_0, zq1p_1]
theorem w_S3 (hT : TabOk P tab) : Two P G n_word_of_S3 fun a b => IntKind.i64.wrap (a * b) := by
  intro a b ha hb t
  refine C_keep 0 (Nat.zero_le _) (C_tab hT t_word_of_S3 (by simp [word_of_S3]) (W_run 1000 ?_))
  simp -implicitDefEqProofs (disch := omega) only [go_sem, ↓reduceIte, reduceCtorEq, Nat.reduceEqDiff, Nat.zero_add, Nat.le_refl, word_of_S3, zq1q_0, zq1q_1]
theorem w_S4 (hT : TabOk P tab) : Two P G n_word_of_S4 fun a b => andI .i64 a b := by
  intro a b ha hb t
  refine C_keep 0 (Nat.zero_le _) (C_tab hT t_word_of_S4 (by simp [word_of_S4]) (W_run 1000 ?_))
  simp -implicitDefEqProofs (disch := omega) only [go_sem, ↓reduceIte, reduceCtorEq, Nat.reduceEqDiff, Nat.zero_add, Nat.le_refl, word_of_S4, zq1v_0, zq1v_1]
theorem w_S5 (hT : TabOk P tab) : Two P G n_word_of_S5 fun a b => orI .i64 a b := by
  intro a b ha hb t
  refine C_keep 0 (Nat.zero_le _) (C_tab hT t_word_of_S5 (by simp [word_of_S5]) (W_run 1000 ?_))
  simp -implicitDefEqProofs (disch := omega) only [go_sem, ↓reduceIte, reduceCtorEq, Nat.reduceEqDiff, Nat.zero_add, Nat.le_refl, word_of_S5, zq1w_0, zq1w_1]
theorem w_S6 (hT : TabOk P tab) : Two P G n_word_of_S6 fun a b => xorI .i64 a b := by
  intro a b ha hb t
  refine C_keep 0 (Nat.zero_le _) (C_tab hT t_word_of_S6 (by simp [word_of_S6]) (W_run 1000 ?_))
  simp -implicitDefEqProofs (disch := omega) only [go_sem, ↓reduceIte, reduceCtorEq, Nat.reduceEqDiff, Nat.zero_add, Nat.le_refl, word_of_S6, zq1x_0, zq1x_1]
theorem w_S7 (hT : TabOk P tab) : Two P G n_word_of_S7 fun a b => IntKind.i64.wrap (a * 2 ^ min (andI .i64 b 63).toNat 64) := by
  intro a b ha hb t
  refine C_keep 0 (Nat.zero_le _) (C_tab hT t_word_of_S7 (by simp [word_of_S7]) (W_run 1000 ?_))
  simp -implicitDefEqProofs (disch := omega) only [go_sem, ↓reduceIte, reduceCtorEq, Nat.reduceEqDiff, Nat.zero_add, Nat.le_refl, word_of_S7, zq1y_0, zq1y_1, and63]
theorem w_S8 (hT : TabOk P tab) : Two P G n_word_of_S8 fun a b => IntKind.i64.wrap ((IntKind.u64.wrap a).fdiv (2 ^ min (andI .i64 b 63).toNat 64)) := by
  intro a b ha hb t
  refine C_keep 0 (Nat.zero_le _) (C_tab hT t_word_of_S8 (by simp [word_of_S8]) (W_run 1000 ?_))
  simp -implicitDefEqProofs (disch := omega) only [go_sem, ↓reduceIte, reduceCtorEq, Nat.reduceEqDiff, Nat.zero_add, Nat.le_refl, word_of_S8, zq1z_0, zq1z_1, and63]
theorem w_S9 (hT : TabOk P tab) : Two P G n_word_of_S9 fun a b => a.fdiv (2 ^ min (andI .i64 b 63).toNat 64) := by
  intro a b ha hb t
  refine C_keep 0 (Nat.zero_le _) (C_tab hT t_word_of_S9 (by simp [word_of_S9]) (W_run 1000 ?_))
  simp -implicitDefEqProofs (disch := omega) only [go_sem, ↓reduceIte, reduceCtorEq, Nat.reduceEqDiff, Nat.zero_add, Nat.le_refl, word_of_S9, zq20_0, zq20_1, and63]
theorem w_S10 (hT : TabOk P tab) : Two P G n_word_of_S10 fun a b => if a < b then 1 else 0 := by
  intro a b ha hb t
  refine C_keep 0 (Nat.zero_le _) (C_tab hT t_word_of_S10 (by simp [word_of_S10]) (W_run 1000 ?_))
  simp -implicitDefEqProofs (disch := omega) only [go_sem, ↓reduceIte, reduceCtorEq, Nat.reduceEqDiff, Nat.zero_add, word_of_S10, zq21_0, zq21_1]
  refine callPS hT t_word_one (w_one hT _) rfl 1000 ?_
  simp -implicitDefEqProofs (disch := omega) only [go_sem, ↓reduceIte, reduceCtorEq, Nat.reduceEqDiff, Nat.le_refl, decide_eq_true_eq]
theorem w_S11 (hT : TabOk P tab) : Two P G n_word_of_S11 fun a b => if IntKind.u64.wrap a < IntKind.u64.wrap b then 1 else 0 := by
  intro a b ha hb t
  refine C_keep 0 (Nat.zero_le _) (C_tab hT t_word_of_S11 (by simp [word_of_S11]) (W_run 1000 ?_))
  simp -implicitDefEqProofs (disch := omega) only [go_sem, ↓reduceIte, reduceCtorEq, Nat.reduceEqDiff, Nat.zero_add, word_of_S11, zq23_0, zq23_1]
  refine callPS hT t_word_one (w_one hT _) rfl 1000 ?_
  simp -implicitDefEqProofs (disch := omega) only [go_sem, ↓reduceIte, reduceCtorEq, Nat.reduceEqDiff, Nat.le_refl, decide_eq_true_eq]
theorem w_S12 (hT : TabOk P tab) : Two P G n_word_of_S12 fun a b => if a = b then 1 else 0 := by
  intro a b ha hb t
  refine C_keep 0 (Nat.zero_le _) (C_tab hT t_word_of_S12 (by simp [word_of_S12]) (W_run 1000 ?_))
  simp -implicitDefEqProofs (disch := omega) only [go_sem, ↓reduceIte, reduceCtorEq, Nat.reduceEqDiff, Nat.zero_add, word_of_S12, zq24_0, zq24_1]
  refine callPS hT t_word_one (w_one hT _) rfl 1000 ?_
  simp -implicitDefEqProofs (disch := omega) only [go_sem, ↓reduceIte, reduceCtorEq, Nat.reduceEqDiff, Nat.le_refl]
end Go.Proofs.YtpdeoalocejodaaGreatDoor
/- The facts of an operation. -/
namespace Go.Proofs.YtpdeoalocejodaaGreatDoor
open Go Go.Am
set_option maxRecDepth 100000
set_option maxHeartbeats 1000000
variable {P : Program} {G : Nat → Option V}
theorem nil1 : Value.nilFunc.oneCell' = true := rfl
def fact (f : V) (b c : Bool) (n : Int) (d : Bool) : V := .agg [f, .bool b, .bool c, .int .i64 n, .bool d]
theorem of_0 (hT : TabOk P tab) : Pure P G n_word_of [.int .u8 0] fun v => v = fact (.val .nilFunc) false false 0 false := by
  intro t
  refine C_keep 0 (Nat.zero_le _) (C_tab hT t_word_of (by simp [word_of]) (W_run 1000 ?_))
  simp -implicitDefEqProofs (disch := omega) only [go_sem, ↓reduceIte, reduceCtorEq, Nat.reduceAdd, Nat.reduceEqDiff, Nat.reduceLeDiff, Nat.reduceLT, Int.reduceToNat, Int.reduceLE, Nat.zero_add, Nat.add_zero, Nat.zero_mul, decide_false, Bool.not_false, Nat.le_refl, Nat.zero_le, ge_iff_le, word_of, zq15_0, zq15_1, zq15_2, zq15_3, zq15_4, List.length_nil, List.length_cons, List.nil_append, List.cons_append, nil1, show IntKind.i64.wrap 0 = 0 from rfl, false_implies, and_true, fact]
theorem of_1 (hT : TabOk P tab) : Pure P G n_word_of [.int .u8 1] fun v => v = fact (.fn (.func n_word_of_S1) [] []) true true (0) true := by
  intro t
  refine C_keep 0 (Nat.zero_le _) (C_tab hT t_word_of (by simp [word_of]) (W_run 1000 ?_))
  simp -implicitDefEqProofs (disch := omega) only [go_sem, ↓reduceIte, reduceCtorEq, Nat.reduceAdd, Nat.reduceEqDiff, Nat.reduceLeDiff, Nat.reduceLT, Int.reduceToNat, Int.reduceLE, Nat.zero_add, Nat.one_mul, decide_false, Bool.not_false, Nat.le_refl, Nat.zero_le, ge_iff_le, word_of, zq15_0, zq15_1, zq15_2, zq15_3, zq15_4, List.length_nil, List.length_cons, List.nil_append, List.cons_append, nil1, show IntKind.i64.wrap 1 = 1 from rfl, false_implies, and_true, fact]
theorem of_2 (hT : TabOk P tab) : Pure P G n_word_of [.int .u8 2] fun v => v = fact (.fn (.func n_word_of_S2) [] []) false false (0) true := by
  intro t
  refine C_keep 0 (Nat.zero_le _) (C_tab hT t_word_of (by simp [word_of]) (W_run 1000 ?_))
  simp -implicitDefEqProofs (disch := omega) only [go_sem, ↓reduceIte, reduceCtorEq, Nat.reduceAdd, Nat.reduceEqDiff, Nat.reduceLeDiff, Nat.reduceLT, Nat.reduceMul, Int.reduceToNat, Int.reduceLE, Nat.zero_add, decide_false, Bool.not_false, Nat.le_refl, Nat.zero_le, ge_iff_le, word_of, zq15_0, zq15_1, zq15_2, zq15_3, zq15_4, List.length_nil, List.length_cons, List.nil_append, List.cons_append, nil1, show IntKind.i64.wrap 2 = 2 from rfl, false_implies, and_true, fact]
theorem of_3 (hT : TabOk P tab) : Pure P G n_word_of [.int .u8 3] fun v => v = fact (.fn (.func n_word_of_S3) [] []) true true (1) true := by
  intro t
  refine C_keep 0 (Nat.zero_le _) (C_tab hT t_word_of (by simp [word_of]) (W_run 1000 ?_))
  simp -implicitDefEqProofs (disch := omega) only [go_sem, ↓reduceIte, reduceCtorEq, Nat.reduceAdd, Nat.reduceEqDiff, Nat.reduceLeDiff, Nat.reduceLT, Nat.reduceMul, Int.reduceToNat, Int.reduceLE, Nat.zero_add, decide_false, Bool.not_false, Nat.le_refl, Nat.zero_le, ge_iff_le, word_of, zq15_0, zq15_1, zq15_2, zq15_3, zq15_4, List.length_nil, List.length_cons, List.nil_append, List.cons_append, nil1, show IntKind.i64.wrap 3 = 3 from rfl, false_implies, and_true, fact]
theorem of_4 (hT : TabOk P tab) : Pure P G n_word_of [.int .u8 4] fun v => v = fact (.fn (.func n_word_div) [] []) false false (1) true := by
  intro t
  refine C_keep 0 (Nat.zero_le _) (C_tab hT t_word_of (by simp [word_of]) (W_run 1000 ?_))
  simp -implicitDefEqProofs (disch := omega) only [go_sem, ↓reduceIte, reduceCtorEq, Nat.reduceAdd, Nat.reduceEqDiff, Nat.reduceLeDiff, Nat.reduceLT, Nat.reduceMul, Int.reduceToNat, Int.reduceLE, Nat.zero_add, decide_false, Bool.not_false, Nat.le_refl, Nat.zero_le, ge_iff_le, word_of, zq15_0, zq15_1, zq15_2, zq15_3, zq15_4, List.length_nil, List.length_cons, List.nil_append, List.cons_append, nil1, show IntKind.i64.wrap 4 = 4 from rfl, false_implies, and_true, fact]
theorem of_5 (hT : TabOk P tab) : Pure P G n_word_of [.int .u8 5] fun v => v = fact (.fn (.func n_word_rem) [] []) false false (0) true := by
  intro t
  refine C_keep 0 (Nat.zero_le _) (C_tab hT t_word_of (by simp [word_of]) (W_run 1000 ?_))
  simp -implicitDefEqProofs (disch := omega) only [go_sem, ↓reduceIte, reduceCtorEq, Nat.reduceAdd, Nat.reduceEqDiff, Nat.reduceLeDiff, Nat.reduceLT, Nat.reduceMul, Int.reduceToNat, Int.reduceLE, Nat.zero_add, decide_false, Bool.not_false, Nat.le_refl, Nat.zero_le, ge_iff_le, word_of, zq15_0, zq15_1, zq15_2, zq15_3, zq15_4, List.length_nil, List.length_cons, List.nil_append, List.cons_append, nil1, show IntKind.i64.wrap 5 = 5 from rfl, false_implies, and_true, fact]
theorem of_6 (hT : TabOk P tab) : Pure P G n_word_of [.int .u8 6] fun v => v = fact (.fn (.func n_word_divU) [] []) false false (1) true := by
  intro t
  refine C_keep 0 (Nat.zero_le _) (C_tab hT t_word_of (by simp [word_of]) (W_run 1000 ?_))
  simp -implicitDefEqProofs (disch := omega) only [go_sem, ↓reduceIte, reduceCtorEq, Nat.reduceAdd, Nat.reduceEqDiff, Nat.reduceLeDiff, Nat.reduceLT, Nat.reduceMul, Int.reduceToNat, Int.reduceLE, Nat.zero_add, decide_false, Bool.not_false, Nat.le_refl, Nat.zero_le, ge_iff_le, word_of, zq15_0, zq15_1, zq15_2, zq15_3, zq15_4, List.length_nil, List.length_cons, List.nil_append, List.cons_append, nil1, show IntKind.i64.wrap 6 = 6 from rfl, false_implies, and_true, fact]
theorem of_7 (hT : TabOk P tab) : Pure P G n_word_of [.int .u8 7] fun v => v = fact (.fn (.func n_word_remU) [] []) false false (0) true := by
  intro t
  refine C_keep 0 (Nat.zero_le _) (C_tab hT t_word_of (by simp [word_of]) (W_run 1000 ?_))
  simp -implicitDefEqProofs (disch := omega) only [go_sem, ↓reduceIte, reduceCtorEq, Nat.reduceAdd, Nat.reduceEqDiff, Nat.reduceLeDiff, Nat.reduceLT, Nat.reduceMul, Int.reduceToNat, Int.reduceLE, Nat.zero_add, decide_false, Bool.not_false, Nat.le_refl, Nat.zero_le, ge_iff_le, word_of, zq15_0, zq15_1, zq15_2, zq15_3, zq15_4, List.length_nil, List.length_cons, List.nil_append, List.cons_append, nil1, show IntKind.i64.wrap 7 = 7 from rfl, false_implies, and_true, fact]
theorem of_8 (hT : TabOk P tab) : Pure P G n_word_of [.int .u8 8] fun v => v = fact (.fn (.func n_word_of_S4) [] []) true true (-1) true := by
  intro t
  refine C_keep 0 (Nat.zero_le _) (C_tab hT t_word_of (by simp [word_of]) (W_run 1000 ?_))
  simp -implicitDefEqProofs (disch := omega) only [go_sem, ↓reduceIte, reduceCtorEq, Nat.reduceAdd, Nat.reduceEqDiff, Nat.reduceLeDiff, Nat.reduceLT, Nat.reduceMul, Int.reduceToNat, Int.reduceLE, Nat.zero_add, decide_false, Bool.not_false, Nat.le_refl, Nat.zero_le, ge_iff_le, word_of, zq15_0, zq15_1, zq15_2, zq15_3, zq15_4, List.length_nil, List.length_cons, List.nil_append, List.cons_append, nil1, show IntKind.i64.wrap 8 = 8 from rfl, false_implies, and_true, fact]
theorem of_9 (hT : TabOk P tab) : Pure P G n_word_of [.int .u8 9] fun v => v = fact (.fn (.func n_word_of_S5) [] []) true true (0) true := by
  intro t
  refine C_keep 0 (Nat.zero_le _) (C_tab hT t_word_of (by simp [word_of]) (W_run 1000 ?_))
  simp -implicitDefEqProofs (disch := omega) only [go_sem, ↓reduceIte, reduceCtorEq, Nat.reduceAdd, Nat.reduceEqDiff, Nat.reduceLeDiff, Nat.reduceLT, Nat.reduceMul, Int.reduceToNat, Int.reduceLE, Nat.zero_add, decide_false, Bool.not_false, Nat.le_refl, Nat.zero_le, ge_iff_le, word_of, zq15_0, zq15_1, zq15_2, zq15_3, zq15_4, List.length_nil, List.length_cons, List.nil_append, List.cons_append, nil1, show IntKind.i64.wrap 9 = 9 from rfl, false_implies, and_true, fact]
theorem of_10 (hT : TabOk P tab) : Pure P G n_word_of [.int .u8 10] fun v => v = fact (.fn (.func n_word_of_S6) [] []) true true (0) true := by
  intro t
  refine C_keep 0 (Nat.zero_le _) (C_tab hT t_word_of (by simp [word_of]) (W_run 1000 ?_))
  simp -implicitDefEqProofs (disch := omega) only [go_sem, ↓reduceIte, reduceCtorEq, Nat.reduceAdd, Nat.reduceEqDiff, Nat.reduceLeDiff, Nat.reduceLT, Nat.reduceMul, Int.reduceToNat, Int.reduceLE, Nat.zero_add, decide_false, Bool.not_false, Nat.le_refl, Nat.zero_le, ge_iff_le, word_of, zq15_0, zq15_1, zq15_2, zq15_3, zq15_4, List.length_nil, List.length_cons, List.nil_append, List.cons_append, nil1, show IntKind.i64.wrap 10 = 10 from rfl, false_implies, and_true, fact]
theorem of_11 (hT : TabOk P tab) : Pure P G n_word_of [.int .u8 11] fun v => v = fact (.fn (.func n_word_of_S7) [] []) false false (0) true := by
  intro t
  refine C_keep 0 (Nat.zero_le _) (C_tab hT t_word_of (by simp [word_of]) (W_run 1000 ?_))
  simp -implicitDefEqProofs (disch := omega) only [go_sem, ↓reduceIte, reduceCtorEq, Nat.reduceAdd, Nat.reduceEqDiff, Nat.reduceLeDiff, Nat.reduceLT, Nat.reduceMul, Int.reduceToNat, Int.reduceLE, Nat.zero_add, decide_false, Bool.not_false, Nat.le_refl, Nat.zero_le, ge_iff_le, word_of, zq15_0, zq15_1, zq15_2, zq15_3, zq15_4, List.length_nil, List.length_cons, List.nil_append, List.cons_append, nil1, show IntKind.i64.wrap 11 = 11 from rfl, false_implies, and_true, fact]
theorem of_12 (hT : TabOk P tab) : Pure P G n_word_of [.int .u8 12] fun v => v = fact (.fn (.func n_word_of_S8) [] []) false false (0) true := by
  intro t
  refine C_keep 0 (Nat.zero_le _) (C_tab hT t_word_of (by simp [word_of]) (W_run 1000 ?_))
  simp -implicitDefEqProofs (disch := omega) only [go_sem, ↓reduceIte, reduceCtorEq, Nat.reduceAdd, Nat.reduceEqDiff, Nat.reduceLeDiff, Nat.reduceLT, Nat.reduceMul, Int.reduceToNat, Int.reduceLE, Nat.zero_add, decide_false, Bool.not_false, Nat.le_refl, Nat.zero_le, ge_iff_le, word_of, zq15_0, zq15_1, zq15_2, zq15_3, zq15_4, List.length_nil, List.length_cons, List.nil_append, List.cons_append, nil1, show IntKind.i64.wrap 12 = 12 from rfl, false_implies, and_true, fact]
theorem of_13 (hT : TabOk P tab) : Pure P G n_word_of [.int .u8 13] fun v => v = fact (.fn (.func n_word_of_S9) [] []) false false (0) true := by
  intro t
  refine C_keep 0 (Nat.zero_le _) (C_tab hT t_word_of (by simp [word_of]) (W_run 1000 ?_))
  simp -implicitDefEqProofs (disch := omega) only [go_sem, ↓reduceIte, reduceCtorEq, Nat.reduceAdd, Nat.reduceEqDiff, Nat.reduceLeDiff, Nat.reduceLT, Nat.reduceMul, Int.reduceToNat, Int.reduceLE, Nat.zero_add, decide_false, Bool.not_false, Nat.le_refl, Nat.zero_le, ge_iff_le, word_of, zq15_0, zq15_1, zq15_2, zq15_3, zq15_4, List.length_nil, List.length_cons, List.nil_append, List.cons_append, nil1, show IntKind.i64.wrap 13 = 13 from rfl, false_implies, and_true, fact]
theorem of_14 (hT : TabOk P tab) : Pure P G n_word_of [.int .u8 14] fun v => v = fact (.fn (.func n_word_of_S10) [] []) false false (0) false := by
  intro t
  refine C_keep 0 (Nat.zero_le _) (C_tab hT t_word_of (by simp [word_of]) (W_run 1000 ?_))
  simp -implicitDefEqProofs (disch := omega) only [go_sem, ↓reduceIte, reduceCtorEq, Nat.reduceAdd, Nat.reduceEqDiff, Nat.reduceLeDiff, Nat.reduceLT, Nat.reduceMul, Int.reduceToNat, Int.reduceLE, Nat.zero_add, decide_false, Bool.not_false, Nat.le_refl, Nat.zero_le, ge_iff_le, word_of, zq15_0, zq15_1, zq15_2, zq15_3, zq15_4, List.length_nil, List.length_cons, List.nil_append, List.cons_append, nil1, show IntKind.i64.wrap 14 = 14 from rfl, false_implies, and_true, fact]
theorem of_15 (hT : TabOk P tab) : Pure P G n_word_of [.int .u8 15] fun v => v = fact (.fn (.func n_word_of_S11) [] []) false false (0) false := by
  intro t
  refine C_keep 0 (Nat.zero_le _) (C_tab hT t_word_of (by simp [word_of]) (W_run 1000 ?_))
  simp -implicitDefEqProofs (disch := omega) only [go_sem, ↓reduceIte, reduceCtorEq, Nat.reduceAdd, Nat.reduceEqDiff, Nat.reduceLeDiff, Nat.reduceLT, Nat.reduceMul, Int.reduceToNat, Int.reduceLE, Nat.zero_add, decide_false, Bool.not_false, Nat.le_refl, Nat.zero_le, ge_iff_le, word_of, zq15_0, zq15_1, zq15_2, zq15_3, zq15_4, List.length_nil, List.length_cons, List.nil_append, List.cons_append, nil1, show IntKind.i64.wrap 15 = 15 from rfl, false_implies, and_true, fact]
theorem of_16 (hT : TabOk P tab) : Pure P G n_word_of [.int .u8 16] fun v => v = fact (.fn (.func n_word_of_S12) [] []) true false (0) false := by
  intro t
  refine C_keep 0 (Nat.zero_le _) (C_tab hT t_word_of (by simp [word_of]) (W_run 1000 ?_))
  simp -implicitDefEqProofs (disch := omega) only [go_sem, ↓reduceIte, reduceCtorEq, Nat.reduceAdd, Nat.reduceEqDiff, Nat.reduceLeDiff, Nat.reduceLT, Nat.reduceMul, Int.reduceToNat, Int.reduceLE, Nat.zero_add, decide_false, Bool.not_false, Nat.le_refl, Nat.zero_le, ge_iff_le, word_of, zq15_0, zq15_1, zq15_2, zq15_3, zq15_4, List.length_nil, List.length_cons, List.nil_append, List.cons_append, nil1, show IntKind.i64.wrap 16 = 16 from rfl, false_implies, and_true, fact]
theorem of_more (hT : TabOk P tab) {op : Int} (h : 17 ≤ op) (h2 : op ≤ 255) : Pure P G n_word_of [.int .u8 op] fun v => v = fact (.val .nilFunc) false false 0 false := by
  intro t
  refine C_keep 0 (Nat.zero_le _) (C_tab hT t_word_of (by simp [word_of]) (W_run 1000 ?_))
  have hw : IntKind.i64.wrap op = op := wrap_i64 (by omega) (by omega)
  simp -implicitDefEqProofs (disch := omega) only [go_sem, ↓reduceIte, reduceCtorEq, Nat.reduceAdd, Nat.reduceEqDiff, Nat.reduceLeDiff, Nat.zero_add, decide_true, Bool.not_false, Nat.le_refl, Nat.zero_le, ge_iff_le, word_of, zq15_0, zq15_1, zq15_2, zq15_3, zq15_4, List.length_nil, List.length_cons, List.nil_append, List.cons_append, nil1, hw, h, false_implies, and_true, fact]
def doW (op a b : Int) : Int :=
  if op = 1 then IntKind.i64.wrap (a + b) else
  if op = 2 then IntKind.i64.wrap (a - b) else
  if op = 3 then IntKind.i64.wrap (a * b) else
  if op = 4 then divS a b else
  if op = 5 then remS a b else
  if op = 6 then divN a b else
  if op = 7 then remN a b else
  if op = 8 then andI .i64 a b else
  if op = 9 then orI .i64 a b else
  if op = 10 then xorI .i64 a b else
  if op = 11 then IntKind.i64.wrap (a * 2 ^ min (andI .i64 b 63).toNat 64) else
  if op = 12 then IntKind.i64.wrap ((IntKind.u64.wrap a).fdiv (2 ^ min (andI .i64 b 63).toNat 64)) else
  if op = 13 then a.fdiv (2 ^ min (andI .i64 b 63).toNat 64) else
  if op = 14 then (if a < b then 1 else 0) else
  if op = 15 then (if IntKind.u64.wrap a < IntKind.u64.wrap b then 1 else 0) else
  if op = 16 then (if a = b then 1 else 0) else
  0
theorem do_nil (hT : TabOk P tab) {op a b : Int} (h : Pure P G n_word_of [.int .u8 op] fun v => v = fact (.val .nilFunc) false false 0 false) : Pure P G n_word_Do [.int .u8 op, .int .i64 a, .int .i64 b] fun v => v = .int .i64 0 := by
  intro t
  refine C_keep 0 (Nat.zero_le _) (C_tab hT t_word_Do (by simp [word_Do]) (W_run 1000 ?_))
  simp -implicitDefEqProofs (disch := omega) only [go_sem, ↓reduceIte, reduceCtorEq, Nat.reduceAdd, Nat.reduceEqDiff, Nat.zero_add, word_Do, zqb_0, zqb_1, zqb_2, zqb_3, zqb_4]
  refine callPS hT t_word_of h rfl 1000 ?_
  simp -implicitDefEqProofs (disch := omega) only [go_sem, ↓reduceIte, reduceCtorEq, Nat.reduceAdd, Nat.reduceEqDiff, Nat.reduceLeDiff, Nat.zero_add, Nat.add_zero, Bool.not_false, Nat.le_refl, Nat.zero_le, fact, List.length_nil, List.length_cons, List.nil_append, List.cons_append, nil1, true_implies, and_true]
theorem do_fn (hT : TabOk P tab) {op a b n : Int} {f : Nat} {A : AF} {c1 c2 c3 : Bool} {d : Int → Int → Int} (hf : tab f = some A) (h : Pure P G n_word_of [.int .u8 op] fun v => v = fact (.fn (.func f) [] []) c1 c2 n c3) (hd : Pure P G f [.int .i64 a, .int .i64 b] fun v => v = .int .i64 (d a b)) : Pure P G n_word_Do [.int .u8 op, .int .i64 a, .int .i64 b] fun v => v = .int .i64 (d a b) := by
  intro t
  refine C_keep 0 (Nat.zero_le _) (C_tab hT t_word_Do (by simp [word_Do]) (W_run 1000 ?_))
  simp -implicitDefEqProofs (disch := omega) only [go_sem, ↓reduceIte, reduceCtorEq, Nat.reduceAdd, Nat.reduceEqDiff, Nat.zero_add, word_Do, zqb_0, zqb_1, zqb_2, zqb_3, zqb_4]
  refine callPS hT t_word_of h rfl 1000 ?_
  simp -implicitDefEqProofs (disch := omega) only [go_sem, ↓reduceIte, reduceCtorEq, Nat.reduceAdd, Nat.reduceEqDiff, Nat.reduceLeDiff, Nat.zero_add, Nat.add_zero, Bool.not_false, Nat.le_refl, fact, List.length_nil, List.length_cons, List.nil_append, List.cons_append, nil1, true_implies, and_true]
  refine callPS hT hf hd rfl 1000 ?_
  simp -implicitDefEqProofs (disch := omega) only [go_sem, ↓reduceIte, reduceCtorEq, Nat.reduceEqDiff, Nat.zero_add, Nat.zero_le]
theorem c_Do (hT : TabOk P tab) {op a b : Int} (h0 : 0 ≤ op) (h1 : op ≤ 255) (ha : i64 a) (hb : i64 b) : Pure P G n_word_Do [.int .u8 op, .int .i64 a, .int .i64 b] fun v => v = .int .i64 (doW op a b) := by
  by_cases hm : 17 ≤ op
  · have e : doW op a b = 0 := by unfold doW; repeat rw [if_neg (by omega)]
    rw [e]
    exact do_nil hT (of_more hT hm h1)
  · have : op = 0 ∨ op = 1 ∨ op = 2 ∨ op = 3 ∨ op = 4 ∨ op = 5 ∨ op = 6 ∨ op = 7 ∨ op = 8 ∨ op = 9 ∨ op = 10 ∨ op = 11 ∨ op = 12 ∨ op = 13 ∨ op = 14 ∨ op = 15 ∨ op = 16 := by omega
    rcases this with rfl | rfl | rfl | rfl | rfl | rfl | rfl | rfl | rfl | rfl | rfl | rfl | rfl | rfl | rfl | rfl | rfl
    · exact do_nil hT (of_0 hT)
    · exact do_fn hT t_word_of_S1 (of_1 hT) (w_S1 hT a b ha hb)
    · exact do_fn hT t_word_of_S2 (of_2 hT) (w_S2 hT a b ha hb)
    · exact do_fn hT t_word_of_S3 (of_3 hT) (w_S3 hT a b ha hb)
    · exact do_fn hT t_word_div (of_4 hT) (w_div hT a b ha hb)
    · exact do_fn hT t_word_rem (of_5 hT) (w_rem hT a b ha hb)
    · exact do_fn hT t_word_divU (of_6 hT) (w_divU hT a b ha hb)
    · exact do_fn hT t_word_remU (of_7 hT) (w_remU hT a b ha hb)
    · exact do_fn hT t_word_of_S4 (of_8 hT) (w_S4 hT a b ha hb)
    · exact do_fn hT t_word_of_S5 (of_9 hT) (w_S5 hT a b ha hb)
    · exact do_fn hT t_word_of_S6 (of_10 hT) (w_S6 hT a b ha hb)
    · exact do_fn hT t_word_of_S7 (of_11 hT) (w_S7 hT a b ha hb)
    · exact do_fn hT t_word_of_S8 (of_12 hT) (w_S8 hT a b ha hb)
    · exact do_fn hT t_word_of_S9 (of_13 hT) (w_S9 hT a b ha hb)
    · exact do_fn hT t_word_of_S10 (of_14 hT) (w_S10 hT a b ha hb)
    · exact do_fn hT t_word_of_S11 (of_15 hT) (w_S11 hT a b ha hb)
    · exact do_fn hT t_word_of_S12 (of_16 hT) (w_S12 hT a b ha hb)
end Go.Proofs.YtpdeoalocejodaaGreatDoor
/- The document's Uses, of roots that stay. -/
namespace Go.Proofs.YtpdeoalocejodaaGreatDoor
open Go Go.Am
set_option maxRecDepth 100000
set_option maxHeartbeats 1000000
variable {P : Program} {G : Nat → Option V}
end Go.Proofs.YtpdeoalocejodaaGreatDoor
