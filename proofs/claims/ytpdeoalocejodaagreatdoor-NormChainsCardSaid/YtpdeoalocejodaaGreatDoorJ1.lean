/- Contracts of term's functions. -/
import Derived.Test.YtpdeoalocejodaaGreatDoorTabB
import Derived.Test.YtpdeoalocejodaaGreatDoorAmD
/- Contracts of term's functions. -/
namespace Go.Proofs.YtpdeoalocejodaaGreatDoor
open Go Go.Am
set_option maxRecDepth 100000
variable {P : Program} {G : Nat → Option V}
structure Nd where
  kind : Int
  n : Int
  a : Int
  op : Int
  x : Int
  y : Int
  deriving DecidableEq
def Nd.cells (d : Nd) : List V := [.int .u8 d.kind, .int .i64 d.n, .int .i64 d.a, .int .u8 d.op, .int .i64 d.x, .int .i64 d.y]
theorem c_bare (hT : TabOk P tab) (d : Nd) : Pure P G n_term_bare [.agg d.cells] fun v => v = .agg (Nd.cells ⟨0, if d.kind = 1 ∨ d.kind = 2 ∨ d.kind = 3 then 0 else d.n, if d.kind = 3 then 0 else d.a, if d.kind = 4 then 0 else d.op, if d.kind = 4 then 0 else d.x, if d.kind = 3 ∨ d.kind = 4 then 0 else d.y⟩) := by
  intro t
  refine C_tab hT t_term_bare (by simp [term_bare]) (W_run 1000 ?_)
  simp -implicitDefEqProofs (disch := omega) only [go_sem, ↓reduceIte, reduceCtorEq, Nat.reduceAdd, Nat.reduceEqDiff, Nat.reduceLeDiff, Nat.zero_add, Nat.add_zero, Bool.not_false, Nat.le_refl, Nat.zero_le, term_bare, zq2f_0, zq2f_1, zq2f_2, zq2f_3, zq2f_4, zq2f_5, zq2f_6, zq2f_7, zq2f_8, zq2f_9, zq2f_10, Nd.cells]
  grind
def Nd.parts (d : Nd) : List Int := if d.kind = 3 then [d.y] else if d.kind = 4 then [d.x, d.y] else []
theorem c_parts (hT : TabOk P tab) (d : Nd) : Pure P G n_term_parts [.agg d.cells] fun v => ∃ z, v = .lst z (d.parts.map (V.int .i64)) true ∧ (z = 1 ∨ d.parts = []) := by
  intro t
  refine C_tab hT t_term_parts (by simp [term_parts]) (W_run 1000 ?_)
  simp -implicitDefEqProofs (disch := omega) only [go_sem, ↓reduceIte, reduceCtorEq, Nat.reduceAdd, Nat.reduceEqDiff, Nat.reduceLeDiff, Nat.zero_add, Nat.add_zero, Nat.le_refl, term_parts, zq1k_0, zq1k_1, zq1k_2, zq1k_3, zq1k_4, zq1k_5, zq1k_6, Nd.cells, Nd.parts]
  by_cases h3 : d.kind = 3 <;> by_cases h4 : d.kind = 4 <;> simp [h3, h4]
def signs : List (List UInt8) := [[], [43], [45], [42], [47], [37], [47, 117], [37, 117], [38], [124], [94], [60, 60], [62, 62, 117], [62, 62], [60], [60, 117], [61, 61]]
theorem c_sign (hT : TabOk P tab) (o : Int) (h0 : 0 ≤ o) (h1 : o ≤ 16) : Pure P G n_term_sign [.int .u8 o] fun v => v = .str (signs.getD o.toNat []) := by
  intro t
  refine C_tab hT t_term_sign (by simp [term_sign]) (W_run 1000 ?_)
  simp -implicitDefEqProofs (disch := omega) only [go_sem, need_of, ↓reduceIte, reduceCtorEq, Nat.reduceAdd, Nat.reduceEqDiff, Nat.reduceLeDiff, Nat.zero_add, Nat.mul_one, Nat.le_refl, term_sign, zq2e_0, zq2e_1]
  have : o = 0 ∨ o = 1 ∨ o = 2 ∨ o = 3 ∨ o = 4 ∨ o = 5 ∨ o = 6 ∨ o = 7 ∨ o = 8 ∨ o = 9 ∨ o = 10 ∨ o = 11 ∨ o = 12 ∨ o = 13 ∨ o = 14 ∨ o = 15 ∨ o = 16 := by omega
  rcases this with h | h | h | h | h | h | h | h | h | h | h | h | h | h | h | h | h <;> subst h <;> exact ⟨rfl, rfl⟩
def gS (v0 v1 v2 v3 v4 len : Nat) : Option Ob := some (.arr v0 85 [.sl 2 v2 0 6 len none, .mp 1 v1, .sl 3 v3 0 1 len none, .sl 4 v4 0 1 len none])
theorem c_is (hT : TabOk P tab) {base : Nat} {v0 v1 v2 v3 v4 t : Nat} {o : List (Option Ob)} {len : Nat} {id : Int} :
   C P G base n_term_Graph_is [.ptr 0 v0 0, .int .i64 id] ⟨t, gS v0 v1 v2 v3 v4 len :: o⟩ fun v σ => v = .bool (decide (0 ≤ id ∧ id < len)) ∧ σ = ⟨t, gS v0 v1 v2 v3 v4 len :: o⟩ := by
  refine C_tab hT t_term_Graph_is (by simp [term_Graph_is]) (W_run 1000 ?_)
  simp -implicitDefEqProofs (disch := omega) only [go_sem, ↓reduceIte, reduceCtorEq, Nat.reduceAdd, Nat.reduceEqDiff, Nat.reduceLeDiff, Nat.zero_add, Nat.add_zero, ge_iff_le, term_Graph_is, zq17_0, zq17_1, gS]
  by_cases h1 : 0 ≤ id <;> simp [h1]
def Nd.may (d : Nd) (len : Nat) : Bool :=
  decide ((if d.kind = 1 ∨ d.kind = 2 ∨ d.kind = 3 then 0 else d.n) = 0 ∧ (if d.kind = 3 then 0 else d.a) = 0 ∧ (if d.kind = 4 then 0 else d.op) = 0 ∧ (if d.kind = 4 then 0 else d.x) = 0 ∧ (if d.kind = 3 ∨ d.kind = 4 then 0 else d.y) = 0) &&
  (if d.kind = 1 then true else if d.kind = 2 then decide (0 ≤ d.n) else if d.kind = 3 then decide (0 ≤ d.n ∧ 0 ≤ d.a ∧ 0 ≤ d.y ∧ d.y < len) else if d.kind = 4 then decide (1 ≤ d.op ∧ d.op ≤ 16 ∧ 0 ≤ d.x ∧ d.x < len ∧ 0 ≤ d.y ∧ d.y < len) else false)
theorem c_may (hT : TabOk P tab) {base : Nat} {v0 v1 v2 v3 v4 t : Nat} {o1 o2 o3 o4 : Option Ob} {len : Nat} (d : Nd) (hb : base ≤ 5) :
   C P G base n_term_Graph_may [.ptr 0 v0 0, .agg d.cells] ⟨t, [gS v0 v1 v2 v3 v4 len, o1, o2, o3, o4]⟩ fun v σ => v = .bool (d.may len) ∧ ∃ t', t ≤ t' ∧ σ = ⟨t', [gS v0 v1 v2 v3 v4 len, o1, o2, o3, o4]⟩ := by
  refine C_keep 5 hb (C_tab hT t_term_Graph_may (by simp [term_Graph_may]) (W_run 1000 ?_))
  simp -implicitDefEqProofs (disch := omega) only [go_sem, ↓reduceIte, reduceCtorEq, Nat.reduceAdd, Nat.reduceEqDiff, Nat.zero_add, Nat.le_refl, term_Graph_may, zq1j_0, zq1j_1, zq1j_2, zq1j_3, zq1j_4, zq1j_5, zq1j_6, zq1j_7, zq1j_8, zq1j_9, zq1j_10, zq1j_11, zq1j_12, Nd.cells, gS]
  refine callP hT t_term_bare (c_bare hT d) (by simp [nameless, namelessL]) 1000 fun v hv => ?_
  subst hv
  simp -implicitDefEqProofs (disch := omega) only [go_sem, ↓reduceIte, reduceCtorEq, Nat.reduceAdd, Nat.reduceEqDiff, Nat.reduceLeDiff, Nat.zero_add, Nat.add_zero, Nat.le_refl, ge_iff_le, beq_self_eq_true, Nd.cells]
  repeat' (first | with_reducible refine And.intro ?_ ?_ | with_reducible intro _)
  any_goals (first | (refine ⟨_, ?_, rfl, rfl⟩; omega) | (refine ⟨_, ?_, rfl⟩; omega))
  any_goals (refine call hT t_term_Graph_is (c_is hT) 1000 fun v σ hv => ?_; obtain ⟨rfl, rfl⟩ := hv; simp -implicitDefEqProofs (disch := omega) only [go_sem, ↓reduceIte, reduceCtorEq, Nat.reduceAdd, Nat.reduceEqDiff, Nat.reduceLeDiff, Nat.zero_add, Nat.le_refl, gS]; repeat' (first | with_reducible refine And.intro ?_ ?_ | with_reducible intro _))
  any_goals (first | (refine ⟨_, ?_, rfl, rfl⟩; omega) | (refine ⟨_, ?_, rfl⟩; omega))
  any_goals (refine call hT t_term_Graph_is (c_is hT) 1000 fun v σ hv => ?_; obtain ⟨rfl, rfl⟩ := hv; simp -implicitDefEqProofs (disch := omega) only [go_sem, ↓reduceIte, reduceCtorEq, Nat.reduceAdd, Nat.reduceEqDiff, Nat.reduceLeDiff, Nat.zero_add, gS]; repeat' (first | with_reducible refine And.intro ?_ ?_ | with_reducible intro _))
  any_goals (first | (refine ⟨_, ?_, rfl, rfl⟩; omega) | (refine ⟨_, ?_, rfl⟩; omega))
  all_goals (simp only [V.bool.injEq, Nd.may]; grind)
structure Fmt (P : Program) (G : Nat → Option V) where
  fmt : Int → List UInt8
  le : ∀ i, (fmt i).length ≤ 24
  int : ∀ i : Int, -9223372036854775808 ≤ i → i ≤ 9223372036854775807 → Pure P G n_strconv_FormatInt [.int .i64 i, .int .i64 10] fun v => v = .str (fmt i)
  itoa : ∀ i : Int, -9223372036854775808 ≤ i → i ≤ 9223372036854775807 → Pure P G n_strconv_Itoa [.int .i64 i] fun v => v = .str (fmt i)
def i64 (i : Int) : Prop := -9223372036854775808 ≤ i ∧ i ≤ 9223372036854775807
def Nd.words (fmt : Int → List UInt8) (d : Nd) (x y : List UInt8) : List UInt8 :=
  if d.kind = 1 then fmt d.n else if d.kind = 2 then [115] ++ fmt d.n else if d.kind = 3 then [97] ++ fmt d.a ++ [118] ++ fmt d.n ++ [91] ++ y ++ [93] else [40] ++ x ++ [32] ++ signs.getD d.op.toNat [] ++ [32] ++ y ++ [41]
theorem c_words (hT : TabOk P tab) (F : Fmt P G) (d : Nd) (x y : List UInt8) (hn : i64 d.n) (ha : i64 d.a) (ho : 0 ≤ d.op ∧ d.op ≤ 16) (hx : x.length ≤ 1000000) (hy : y.length ≤ 1000000) :
    Pure P G n_term_words [.agg d.cells, .str x, .str y] fun v => v = .str (d.words F.fmt x y) := by
  intro t
  have l1 := F.le d.n
  have l2 := F.le d.a
  have l3 : (signs.getD d.op.toNat []).length ≤ 3 := by
    have : d.op = 0 ∨ d.op = 1 ∨ d.op = 2 ∨ d.op = 3 ∨ d.op = 4 ∨ d.op = 5 ∨ d.op = 6 ∨ d.op = 7 ∨ d.op = 8 ∨ d.op = 9 ∨ d.op = 10 ∨ d.op = 11 ∨ d.op = 12 ∨ d.op = 13 ∨ d.op = 14 ∨ d.op = 15 ∨ d.op = 16 := by omega
    rcases this with h | h | h | h | h | h | h | h | h | h | h | h | h | h | h | h | h <;> rw [h] <;> decide
  refine C_tab hT t_term_words (by simp [term_words]) (W_run 1000 ?_)
  simp -implicitDefEqProofs (disch := omega) only [go_sem, ↓reduceIte, reduceCtorEq, Nat.reduceAdd, Nat.reduceEqDiff, Nat.reduceLeDiff, Nat.zero_add, term_words, zq1i_0, zq1i_1, zq1i_2, zq1i_3, zq1i_4, zq1i_5, zq1i_6, zq1i_7, zq1i_8, zq1i_9, Nd.cells]
  refine callP hT t_strconv_FormatInt (F.int d.n hn.1 hn.2) (by simp [nameless, namelessL]) 1000 fun v hv => ?_
  subst hv
  simp -implicitDefEqProofs (disch := omega) only [go_sem, need_of, ↓reduceIte, reduceCtorEq, Nat.reduceAdd, Nat.reduceEqDiff, Nat.reduceLeDiff, Nat.zero_add, Nat.add_zero]
  repeat' (first | with_reducible refine And.intro ?_ ?_ | with_reducible intro _)
  any_goals (refine callP hT t_strconv_Itoa (F.itoa d.a ha.1 ha.2) (by simp [nameless, namelessL]) 1000 fun v hv => ?_; subst hv; simp -implicitDefEqProofs (disch := omega) only [go_sem, need_of, ↓reduceIte, reduceCtorEq, Nat.reduceEqDiff, Nat.reduceLeDiff, Nat.zero_add, List.length_append])
  any_goals (refine callP hT t_term_sign (c_sign hT d.op ho.1 ho.2) (by simp [nameless, namelessL]) 1000 fun v hv => ?_; subst hv; simp -implicitDefEqProofs (disch := omega) only [go_sem, need_of, ↓reduceIte, reduceCtorEq, Nat.reduceEqDiff, Nat.reduceLeDiff, Nat.zero_add, List.length_append])
  all_goals (simp [Nd.words, *])
end Go.Proofs.YtpdeoalocejodaaGreatDoor
/- Contracts of a graph's methods. -/
namespace Go.Proofs.YtpdeoalocejodaaGreatDoor
open Go Go.Am
set_option maxRecDepth 100000
variable {P : Program} {G : Nat → Option V}
def ents : Nat → List Nd → List (V × V)
  | _, [] => []
  | k, d :: l => (.agg d.cells, .int .i64 k) :: ents (k + 1) l
def idx (d : Nd) : List Nd → Option Nat
  | [] => none
  | e :: l => if d = e then some 0 else (idx d l).map (· + 1)
abbrev k6 : List Kd := [.i, .i, .i, .i, .i, .i]
theorem wrap_i64 {x : Int} (h1 : -9223372036854775808 ≤ x) (h2 : x ≤ 9223372036854775807) : IntKind.i64.wrap x = x := by
  unfold IntKind.wrap
  simp [IntKind.bits, IntKind.signed]
  omega
theorem keyEq_cells (d e : Nd) : keyEq k6 (.agg d.cells) (.agg e.cells) = decide (d = e) := by
  cases d; cases e
  simp [keyEq, Nd.cells, V.cells, beqL, beqV]
  grind
theorem beqL_cells (d e : Nd) : (beqL k6 (V.agg d.cells).cells (V.agg e.cells).cells).isSome = true := by
  simp [Nd.cells, V.cells, beqL, beqV]
theorem ents_mem : ∀ (k : Nat) (l : List Nd) (p : V × V), p ∈ ents k l → ∃ d, p.1 = .agg (Nd.cells d)
  | _, [], p, h => by simp [ents] at h
  | k, d :: l, p, h => by
    simp only [ents, List.mem_cons] at h
    rcases h with h | h
    · exact ⟨d, by rw [h]⟩
    · exact ents_mem (k + 1) l p h
theorem keysOk_ents (d : Nd) (k : Nat) (l : List Nd) : keysOk true k6 (.agg d.cells) (ents k l) := by
  refine ⟨⟨rfl, beqL_cells d d⟩, fun p hp => ?_⟩
  obtain ⟨e, he⟩ := ents_mem k l p hp
  rw [he]
  exact ⟨rfl, beqL_cells d e⟩
theorem mget_ents (d : Nd) : ∀ (k : Nat) (l : List Nd), mget k6 (.agg d.cells) (ents k l) = (idx d l).map fun i => V.int .i64 ((k + i : Nat) : Int)
  | k, [] => rfl
  | k, e :: l => by
    have ih := mget_ents d (k + 1) l
    unfold mget at ih ⊢
    simp only [ents, idx, List.find?_cons, keyEq_cells]
    by_cases h : d = e
    · simp [h]
    · simp only [h, decide_false, if_false]
      rw [ih]
      cases idx d l <;> simp; omega
theorem midx_ents (d : Nd) : ∀ (k : Nat) (l : List Nd), midx k6 (.agg d.cells) (ents k l) = idx d l
  | k, [] => rfl
  | k, e :: l => by
    simp only [ents, idx, midx, keyEq_cells, midx_ents d (k + 1) l]
    by_cases h : d = e <;> simp [h]
theorem ents_length : ∀ (k : Nat) (l : List Nd), (ents k l).length = l.length
  | _, [] => rfl
  | k, d :: l => by simp [ents, ents_length (k + 1) l]
theorem ents_append : ∀ (k : Nat) (l : List Nd) (d : Nd), ents k (l ++ [d]) = ents k l ++ [(.agg d.cells, .int .i64 ((k + l.length : Nat) : Int))]
  | k, [], d => by simp [ents]
  | k, e :: l, d => by simp [ents, ents_append (k + 1) l d]; omega
theorem ents_ment (L : List Nd) (d : Nd) (h : idx d L = none) : L.length < (mentL k6 (.agg d.cells) (.int .i64 0) (ents 0 L)).length ∧
    (mentL k6 (.agg d.cells) (.int .i64 0) (ents 0 L)).modify L.length (fun p => (p.1, .int .i64 (L.length : Nat))) = ents 0 (L ++ [d]) := by
  have e1 : mentL k6 (.agg d.cells) (.int .i64 0) (ents 0 L) = ents 0 L ++ [(.agg d.cells, .int .i64 0)] := by
    unfold mentL
    rw [midx_ents, h]
    rfl
  rw [e1, ents_append]
  refine ⟨by simp [ents_length], ?_⟩
  have : ∀ (a : List (V × V)) (b : V × V) (f : V × V → V × V), (a ++ [b]).modify a.length f = a ++ [f b] := fun a b f => by
    induction a with
    | nil => rfl
    | cons x a ih => simpa using ih
  have h2 := this (ents 0 L) (.agg d.cells, .int .i64 0) (fun p => (p.1, .int .i64 (L.length : Nat)))
  rw [ents_length] at h2
  rw [h2]
  simp
def ndC (l : List Nd) : List V := (l.map Nd.cells).flatten
theorem ndC_length (l : List Nd) : (ndC l).length = l.length * 6 := by
  induction l with
  | nil => rfl
  | cons d l ih => simp [ndC] at ih ⊢; simp [Nd.cells]; omega
def gH (v0 v1 v2 v3 v4 : Nat) (L : List Nd) (D N : List Int) : List (Option Ob) :=
  [gS v0 v1 v2 v3 v4 L.length, some (.map v1 (ents 0 L)), some (.arr v2 57 (ndC L)), some (.arr v3 3 (D.map (V.int .i64))), some (.arr v4 3 (N.map (V.int .i64)))]
theorem c_Size (hT : TabOk P tab) {base : Nat} {v0 v1 v2 v3 v4 t : Nat} {o : List (Option Ob)} {len : Nat} :
   C P G base n_term_Graph_Size [.ptr 0 v0 0] ⟨t, gS v0 v1 v2 v3 v4 len :: o⟩ fun v σ => v = .int .i64 len ∧ σ = ⟨t, gS v0 v1 v2 v3 v4 len :: o⟩ := by
  refine C_tab hT t_term_Graph_Size (by simp [term_Graph_Size]) (W_run 1000 ?_)
  simp -implicitDefEqProofs (disch := omega) only [go_sem, ↓reduceIte, reduceCtorEq, Nat.reduceAdd, Nat.reduceEqDiff, Nat.reduceLeDiff, Nat.zero_add, Nat.add_zero, term_Graph_Size, zqn_0, zqn_1, zqn_2, zqn_3, gS]
def zeroNd : Nd := ⟨0, 0, 0, 0, 0, 0⟩
theorem ndC_get {l : List Nd} {i : Nat} {d : Nd} (h : l[i]? = some d) : ((ndC l).drop (i * 6)).take 6 = d.cells := by
  induction l generalizing i with
  | nil => simp at h
  | cons e l ih =>
    cases i with
    | zero => simp at h; subst h; simp [ndC, Nd.cells]
    | succ i =>
      have := ih (i := i) (by simpa using h)
      have e1 : ndC (e :: l) = e.cells ++ ndC l := by simp [ndC]
      have e2 : (i + 1) * 6 = e.cells.length + i * 6 := by simp [Nd.cells]; omega
      rw [e1, e2, ← List.drop_drop, List.drop_left]
      exact this
theorem c_Node (hT : TabOk P tab) {base : Nat} {v0 v1 v2 v3 v4 t : Nat} {L : List Nd} {D N : List Int} {id : Int} (hb : base ≤ 5) :
   C P G base n_term_Graph_Node [.ptr 0 v0 0, .int .i64 id] ⟨t, gH v0 v1 v2 v3 v4 L D N⟩ fun v σ => v = (if 0 ≤ id ∧ id < L.length then .tup [.agg (L.getD id.toNat zeroNd).cells, .bool true] else .tup [.agg zeroNd.cells, .bool false]) ∧ ∃ t', t ≤ t' ∧ σ = ⟨t', gH v0 v1 v2 v3 v4 L D N⟩ := by
  refine C_keep 5 hb (C_tab hT t_term_Graph_Node (by simp [term_Graph_Node]) (W_run 1000 ?_))
  simp -implicitDefEqProofs (disch := omega) only [go_sem, ↓reduceIte, reduceCtorEq, Nat.reduceAdd, Nat.reduceEqDiff, Nat.zero_add, term_Graph_Node, zqq_0, zqq_1, zqq_2, zqq_3, gH, gS]
  refine call hT t_term_Graph_is (c_is hT) 1000 fun v σ hv => ?_
  obtain ⟨rfl, rfl⟩ := hv
  by_cases h : 0 ≤ id ∧ id < L.length
  · obtain ⟨d, hd⟩ : ∃ d, L[id.toNat]? = some d := ⟨_, List.getElem?_eq_getElem (by omega)⟩
    have hl := ndC_length L
    have hc := ndC_get hd
    have hlen : id.toNat < L.length := by omega
    have h6 : id.toNat * 6 + 6 ≤ (ndC L).length := by omega
    have hgd : L.getD id.toNat zeroNd = d := by simp [List.getD_eq_getElem?_getD, hd]
    simp -implicitDefEqProofs (disch := omega) only [go_sem, need_of, ↓reduceIte, reduceCtorEq, Nat.reduceAdd, Nat.reduceEqDiff, Nat.reduceLeDiff, Nat.zero_add, Nat.add_zero, decide_true, Bool.not_true, Bool.not_false, Nat.le_refl, gS, h, hc, hlen, h6, hgd, Nd.cells]
    exact ⟨_, by omega, rfl⟩
  · simp -implicitDefEqProofs (disch := omega) only [go_sem, need_of, ↓reduceIte, reduceCtorEq, Nat.reduceAdd, Nat.reduceEqDiff, Nat.reduceLeDiff, Nat.zero_add, decide_false, Bool.not_false, Nat.le_refl, gS, h, Nd.cells, zeroNd]
    exact ⟨_, by omega, rfl⟩
theorem ndC_nameless (L : List Nd) : namelessL (ndC L) = true := by
  induction L with
  | nil => rfl
  | cons d l ih => simp [ndC, Nd.cells, namelessL, nameless] at ih ⊢; exact ih
theorem ints_nameless (D : List Int) : namelessL (D.map (V.int .i64)) = true := by
  induction D with
  | nil => rfl
  | cons d l ih => simp [namelessL, nameless, ih]
theorem ents_under (n : Nat) : ∀ (k : Nat) (L : List Nd), (ents k L).all (fun p => V.under n p.2) = true
  | _, [] => rfl
  | k, d :: l => by simp only [ents, List.all_cons, ents_under n (k + 1) l, Bool.and_true]; rfl
theorem gH_und (v0 v1 v2 v3 v4 : Nat) (L : List Nd) (D N : List Int) : undO 5 (gH v0 v1 v2 v3 v4 L D N) = true := by
  simp [gH, gS, undO, Ob.under, underL, V.under, underL_nameless _ (ndC_nameless L), underL_nameless _ (ints_nameless D), underL_nameless _ (ints_nameless N), -List.all_eq_true, ents_under]
def addN (L : List Nd) (d : Nd) : Int × List Nd :=
  if d.may L.length then (match idx d L with | some i => ((i : Int), L) | none => ((L.length : Int), L ++ [d])) else (-1, L)
end Go.Proofs.YtpdeoalocejodaaGreatDoor
/- What terms are made of: the walk. -/
namespace Go.Proofs.YtpdeoalocejodaaGreatDoor
open Go Go.Am
set_option maxRecDepth 100000
variable {P : Program} {G : Nat → Option V}
def gwf (L : List Nd) : Prop := ∀ (i : Nat) (d : Nd), L[i]? = some d → ∀ p ∈ d.parts, 0 ≤ p ∧ p < i
def walkN (L : List Nd) : Nat → Int → List Int → List Int
  | 0, _, S => S
  | f + 1, id, S => if 0 ≤ id ∧ id < L.length ∧ id ∉ S then (L.getD id.toNat zeroNd).parts.foldl (fun S p => walkN L f p S) (S ++ [id]) else S
def okS (L : List Nd) (S : List Int) : Prop := S.Nodup ∧ ∀ x ∈ S, 0 ≤ x ∧ x < L.length
theorem okS_len {L : List Nd} {S : List Int} (h : okS L S) : S.length ≤ L.length := nodup_len _ _ h.1 h.2
theorem okS_add {L : List Nd} {S : List Int} {id : Int} (h : okS L S) (h0 : 0 ≤ id) (h1 : id < L.length) (h2 : id ∉ S) : okS L (S ++ [id]) := by
  refine ⟨?_, fun x hx => ?_⟩
  · rw [List.nodup_append]
    exact ⟨h.1, by simp, fun a ha b hb => by simp at hb; subst hb; exact fun e => h2 (e ▸ ha)⟩
  · simp only [List.mem_append, List.mem_singleton] at hx
    rcases hx with hx | rfl
    · exact h.2 x hx
    · exact ⟨h0, h1⟩
theorem okS_walk (L : List Nd) : ∀ (f : Nat) (id : Int) (S : List Int), okS L S → okS L (walkN L f id S)
  | 0, _, _, h => h
  | f + 1, id, S, h => by
    simp only [walkN]
    split
    · rename_i hc
      have : ∀ (l : List Int) (S : List Int), okS L S → okS L (l.foldl (fun S p => walkN L f p S) S) := fun l => by
        induction l with
        | nil => intro S h; exact h
        | cons p l ih => intro S h; exact ih _ (okS_walk L f p S h)
      exact this _ _ (okS_add h hc.1 hc.2.1 hc.2.2)
    · exact h
def one1 : Int → V := fun _ => .int .i64 1
def wFn (b0 c0 o0 f0 : Nat) : V := .fn (.func n_term_Graph_Uses_S1) [] [.ptr 5 b0 0, .ptr 7 c0 0, .ptr 8 o0 0, .ptr 9 f0 0]
def uH (v0 v1 v2 v3 v4 b0 s0 c0 o0 f0 r0 : Nat) (L : List Nd) (D N S : List Int) : List (Option Ob) :=
  [gS v0 v1 v2 v3 v4 L.length, some (.map v1 (ents 0 L)), some (.arr v2 57 (ndC L)), some (.arr v3 3 (D.map (V.int .i64))), some (.arr v4 3 (N.map (V.int .i64))),
   some (.arr b0 25 [.ptr 0 v0 0]), some (.map s0 (im .i64 one1 S)), some (.arr c0 115 [.mp 6 s0]), some (.arr o0 50 [.sl 10 r0 0 1 S.length none]), some (.arr f0 116 [wFn b0 c0 o0 f0]), some (.arr r0 26 (S.map (V.int .i64)))]
theorem c_walk (hT : TabOk P tab) {base : Nat} (hb : base ≤ 5) {v0 v1 v2 v3 v4 b0 s0 c0 o0 f0 : Nat} {L : List Nd} {D N : List Int} (hL : L.length ≤ 1000000) (hwf : gwf L) : ∀ (f : Nat) (id : Int) (S : List Int) (t r0 : Nat), id.toNat < f → okS L S →
   C P G base n_term_Graph_Uses_S1 [.int .i64 id, .ptr 5 b0 0, .ptr 7 c0 0, .ptr 8 o0 0, .ptr 9 f0 0] ⟨t, uH v0 v1 v2 v3 v4 b0 s0 c0 o0 f0 r0 L D N S⟩ fun v σ => ∃ t' r0', t ≤ t' ∧ σ = ⟨t', uH v0 v1 v2 v3 v4 b0 s0 c0 o0 f0 r0' L D N (walkN L f id S)⟩ := by
  intro f
  induction f with
  | zero => intro id S t r0 h; omega
  | succ f ih =>
    intro id S t r0 hf hS
    have hSl := okS_len hS
    have hkk := keysOk_im .i64 one1 S id
    have hkm := mget_im .i64 one1 id S
    refine C_tab hT t_term_Graph_Uses_S1 (by simp [term_Graph_Uses_S1]) (W_run 1000 ?_)
    simp -implicitDefEqProofs (disch := omega) only [go_sem, ↓reduceIte, reduceCtorEq, Nat.reduceAdd, Nat.reduceEqDiff, Nat.zero_add, Nat.le_refl, term_Graph_Uses_S1, zq2a_0, zq2a_1, zq2a_2, zq2a_3, zq2a_4, zq2a_5, zq2a_6, zq2a_7, uH, gS]
    refine call hT t_term_Graph_is (c_is hT) 1000 fun v σ hv => ?_
    obtain ⟨rfl, rfl⟩ := hv
    by_cases hin : 0 ≤ id ∧ id < L.length
    · by_cases hid : id ∈ S
      · rw [if_pos hid] at hkm
        simp -implicitDefEqProofs (disch := omega) only [go_sem, ↓reduceIte, reduceCtorEq, Nat.reduceAdd, Nat.reduceEqDiff, Int.reduceLT, Nat.zero_add, decide_true, Bool.not_true, Nat.le_refl, gt_iff_lt, Option.getD_some, gS, hin, hkk, hkm, one1]
        exact ⟨t, r0, by omega, by simp [walkN, hid]⟩
      · rw [if_neg hid] at hkm
        have hmp := mput_im .i64 one1 id (.int .i64 1) rfl S hid
        obtain ⟨d, hd⟩ : ∃ d, L[id.toNat]? = some d := ⟨_, List.getElem?_eq_getElem (by omega)⟩
        have hl := ndC_length L
        have hc := ndC_get hd
        have hlen : id.toNat < L.length := by omega
        have h6 : id.toNat * 6 + 6 ≤ (ndC L).length := by omega
        have hgd : L.getD id.toNat zeroNd = d := by simp [List.getD_eq_getElem?_getD, hd]
        simp -implicitDefEqProofs (disch := omega) only [go_sem, need_of, ↓reduceIte, reduceCtorEq, Nat.reduceAdd, Nat.reduceEqDiff, Nat.reduceLeDiff, Int.reduceLT, Nat.zero_add, Nat.add_zero, Nat.mul_one, decide_true, decide_false, Bool.not_true, Bool.not_false, Nat.le_refl, gt_iff_lt, Option.getD_none, gS, hin, hkk, hkm, hmp, hc, hlen, h6, List.length_map, Nd.cells, show base ≤ 6 from by omega, show base ≤ 8 from by omega, show base ≤ 10 from by omega]
        refine callP hT t_term_parts (c_parts hT d) rfl 1000 fun v hv => ?_
        obtain ⟨z, rfl, hz⟩ := hv
        simp -implicitDefEqProofs (disch := omega) only [go_sem, ↓reduceIte, reduceCtorEq, Nat.reduceEqDiff, List.length_map]
        have hS1 := okS_add hS hin.1 hin.2 hid
        have hdp : ∀ p ∈ d.parts, 0 ≤ p ∧ p < id.toNat := hwf _ d hd
        refine sem_invE (fun m fr σ => ∃ (i t' r' : Nat) (S' : List Int), i ≤ d.parts.length ∧ m = d.parts.length - i ∧ okS L S' ∧ S' = (d.parts.take i).foldl (fun S p => walkN L f p S) (S ++ [id]) ∧ t ≤ t' ∧ fget fr 1 = .ptr 5 b0 0 ∧ fget fr 2 = .ptr 7 c0 0 ∧ fget fr 3 = .ptr 8 o0 0 ∧ fget fr 4 = .ptr 9 f0 0 ∧
             fget fr 31 = .lst z (d.parts.map (V.int .i64)) true ∧ fget fr 32 = .int .i64 d.parts.length ∧ fget fr 33 = .int .i64 i ∧ σ = ⟨t', uH v0 v1 v2 v3 v4 b0 s0 c0 o0 f0 r' L D N S'⟩)
          (fun e fr σ => e = .ex 0 ∧ ∃ t' r', t ≤ t' ∧ σ = ⟨t', uH v0 v1 v2 v3 v4 b0 s0 c0 o0 f0 r' L D N (walkN L (f + 1) id S)⟩)
          (m0 := d.parts.length) ⟨0, t + 1, t, S ++ [id], Nat.zero_le _, rfl, hS1, rfl, by omega, ?_⟩ (fun m fr σ hJ => ?_) (fun e fr σ hE => ?_)
        · simp -implicitDefEqProofs (disch := omega) only [go_sem, ↓reduceIte, reduceCtorEq, Nat.reduceEqDiff]
          simp [uH, gS, wFn]
        · obtain ⟨i, t', r', S', hi, rfl, hS', hS'e, ht', f1, f2, f3, f4, f31, f32, f33, rfl⟩ := hJ
          refine W_run 1000 ?_
          rcases Nat.lt_or_ge i d.parts.length with hlt | hge
          · have hz1 : z = 1 := by rcases hz with h | h; exact h; rw [h] at hlt; simp at hlt
            subst hz1
            obtain ⟨p, hp⟩ : ∃ p, d.parts[i]? = some p := ⟨_, List.getElem?_eq_getElem hlt⟩
            obtain ⟨hp0, hp1⟩ := hdp p (List.mem_of_getElem? hp)
            have hg : (d.parts.map (V.int .i64)).getD i .any = V.int .i64 p := by simp [List.getD_eq_getElem?_getD, hp]
            simp -implicitDefEqProofs (disch := omega) only [go_sem, need_of, ↓reduceIte, Nat.reduceEqDiff, Nat.zero_add, decide_true, Nat.le_refl, uH, gS, List.length_map, f4, f31, f32, f33, hlt, hg, wFn]
            refine callK hT t_term_Graph_Uses_S1 (ih p S' t' r' (by omega) hS') 1000 fun v σ hv => ?_
            obtain ⟨t2, r2, ht2, rfl⟩ := hv
            simp -implicitDefEqProofs (disch := omega) only [go_sem, ↓reduceIte, Nat.reduceEqDiff, f33]
            refine ⟨d.parts.length - (i + 1), _, _, by omega, Shift.refl _ _ _ _, i + 1, t2, r2, walkN L f p S', hlt, rfl, okS_walk L f p S' hS', ?_, by omega, ?_⟩
            · rw [List.take_add_one, hp, Option.toList_some, List.foldl_append, ← hS'e]; rfl
            · have hpl : d.parts.length ≤ 2 := by unfold Nd.parts; split <;> (try split) <;> simp
              have hw : IntKind.i64.wrap ((i : Int) + 1) = ((i + 1 : Nat) : Int) := by
                rw [wrap_i64 (by omega) (by omega)]; rfl
              simp -implicitDefEqProofs (disch := omega) only [go_sem, ↓reduceIte, Nat.reduceEqDiff, f1, f2, f3, f4, f31, f32, hw]
              rfl
          · simp -implicitDefEqProofs (disch := omega) only [go_sem, ↓reduceIte, decide_false, f32, f33, show ¬ i < d.parts.length from by omega]
            refine ⟨t', r', ht', ?_⟩
            rw [List.take_of_length_le (by omega)] at hS'e
            have : walkN L (f + 1) id S = S' := by rw [walkN, if_pos ⟨hin.1, hin.2, hid⟩, hgd, hS'e]
            rw [this]; exact ⟨rfl, rfl⟩
        · obtain ⟨rfl, t', r', ht', rfl⟩ := hE
          refine run_sem 1000 ?_
          simp -implicitDefEqProofs (disch := omega) only [go_sem, ↓reduceIte]
          exact ⟨t', r', ht', rfl, rfl⟩
    · simp -implicitDefEqProofs (disch := omega) only [go_sem, ↓reduceIte, reduceCtorEq, Nat.reduceEqDiff, decide_false, Bool.not_false, gS, hin]
      exact ⟨t, r0, by omega, by simp [walkN]; grind⟩
end Go.Proofs.YtpdeoalocejodaaGreatDoor
/- What terms are made of: Uses. -/
namespace Go.Proofs.YtpdeoalocejodaaGreatDoor
open Go Go.Am
set_option maxRecDepth 100000
variable {P : Program} {G : Nat → Option V}
structure SortOk (P : Program) : Prop where
  some : ∀ (blk off cap : Nat) (zs : List Int) (w : World), Go.Sort.Holds (Value.int .i64) w blk off zs.toArray → blk < w.heap.size → zs.length < 4611686018427387904 →
    Calls P n_slices_Sort_term_ID_term_ID #[.slice (some ⟨blk, off, none⟩) zs.length cap] w fun e w' => e = .returned (.tuple #[]) ∧ ∃ n os, w' = Go.Sort.grow (Go.Sort.putRow (Value.int .i64) (Go.Sort.ahead w n) blk off (zs.mergeSort fun x y => decide (x ≤ y)).toArray) os
  none : ∀ (p : Option Addr) (cap : Nat) (w : World), Calls P n_slices_Sort_term_ID_term_ID #[.slice p 0 cap] w fun e w' => e = .returned (.tuple #[]) ∧ w' = w
theorem c_Sort (S : SortOk P) {base k v T t : Nat} {o : List (Option Ob)} {zs : List Int} {n : Nat} {lim : Option Nat} (hk : base ≤ k) (ho : o[k]? = some (some (.arr v T (zs.map (V.int .i64))))) (hn : n = zs.length) (hl : zs.length < 4611686018427387904) :
    C P G base n_slices_Sort_term_ID_term_ID [.sl k v 0 1 n lim] ⟨t, o⟩ fun r σ' => r = .tup [] ∧ σ' = ⟨t, o.set k (some (.arr v T ((zs.mergeSort fun x y => decide (x ≤ y)).map (V.int .i64))))⟩ := by
  subst hn
  cases zs with
  | nil =>
    refine (C_sort0 (fun p cap w => S.none p cap w)).conseq fun r σ' ⟨h1, h2⟩ => ⟨h1, ?_⟩
    rw [h2]
    congr 1
    have hk' := (List.getElem?_eq_some_iff.1 ho).1
    have := (List.getElem?_eq_some_iff.1 ho).2
    apply List.ext_getElem? 
    intro m
    by_cases hm : m = k
    · subst hm; rw [ho]; simp [hk']
    · simp [List.getElem?_set_ne (Ne.symm hm)]
  | cons z zs => exact C_sort hk ho (by simp) (by simp) fun blk off cap w hH hb => S.some blk off cap _ w hH hb hl
def walks (L : List Nd) (roots : List Int) (S : List Int) : List Int := roots.foldl (fun S r => walkN L (r.toNat + 1) r S) S
def usesL (L : List Nd) (roots : List Int) : List Int := (walks L roots []).mergeSort fun x y => decide (x ≤ y)
theorem okS_walks (L : List Nd) : ∀ (roots S : List Int), okS L S → okS L (walks L roots S)
  | [], S, h => h
  | r :: roots, S, h => okS_walks L roots _ (okS_walk L _ r S h)
theorem c_Uses (hT : TabOk P tab) (SO : SortOk P) {base : Nat} (hb : base ≤ 5) {v0 v1 v2 v3 v4 t : Nat} {L : List Nd} {D N : List Int} (hL : L.length ≤ 1000000) (hwf : gwf L) (roots : List Int) (z : Nat) (tight : Bool) (hz : z = 1 ∨ roots = []) (hrl : roots.length ≤ 9223372036854775806) :
   C P G base n_term_Graph_Uses [.ptr 0 v0 0, .lst z (roots.map (V.int .i64)) tight] ⟨t, gH v0 v1 v2 v3 v4 L D N⟩ fun v σ => v = .lst 1 ((usesL L roots).map (V.int .i64)) false ∧ ∃ t', t ≤ t' ∧ σ = ⟨t', gH v0 v1 v2 v3 v4 L D N⟩ := by
  refine C.wk hb (Nat.le_refl _) (C_keep 5 (Nat.le_refl _) (C_freeze (Q := fun v σ => ∃ (r n t' : Nat) (x5 x6 x7 x8 x9 : Option Ob), n = (usesL L roots).length ∧ t ≤ t' ∧ v = .sl 10 r 0 1 n none ∧ σ = ⟨t', gH v0 v1 v2 v3 v4 L D N ++ [x5, x6, x7, x8, x9, some (.arr r 26 ((usesL L roots).map (V.int .i64)))]⟩) ?_ fun v σ hv => ?_))
  · refine C_tab hT t_term_Graph_Uses (by simp [term_Graph_Uses]) (W_run 1000 ?_)
    simp -implicitDefEqProofs (disch := omega) only [go_sem, ↓reduceIte, reduceCtorEq, Nat.reduceAdd, Nat.reduceEqDiff, Nat.reduceLeDiff, Nat.zero_add, Bool.not_false, Nat.le_refl, term_Graph_Uses, zq1h_0, zq1h_1, zq1h_2, zq1h_3, zq1h_4, zq1h_5, zq1h_6, zq1h_7, zq1h_8, zq1h_9, zq1h_10, zq1h_11, gH, gS, List.length_map, List.length_nil, List.nil_append, List.length_cons, List.cons_append, show (Value.map none).oneCell' = true from rfl, show Value.nilFunc.oneCell' = true from rfl]
    refine sem_shift (HShift.shift (HShift.ownAt 1 26 (k := 8) (p := 0) (by omega) rfl rfl)) (run_sem 1000 ?_)
    simp -implicitDefEqProofs (disch := omega) only [go_sem, Nat.reduceAdd, Nat.zero_add, List.length_nil, List.nil_append, List.length_cons, List.cons_append]
    refine sem_invE (fun m fr σ => ∃ (i t' r' : Nat) (S : List Int), i ≤ roots.length ∧ m = roots.length - i ∧ okS L S ∧ S = walks L (roots.take i) [] ∧ t ≤ t' ∧ fget fr 2 = .ptr 5 t 0 ∧ fget fr 5 = .ptr 7 (t + 1 + 1) 0 ∧ fget fr 6 = .ptr 8 (t + 1 + 1 + 1) 0 ∧ fget fr 7 = .ptr 9 (t + 1 + 1 + 1 + 1) 0 ∧
         fget fr 12 = .lst z (roots.map (V.int .i64)) tight ∧ fget fr 13 = .int .i64 roots.length ∧ fget fr 14 = .int .i64 i ∧ σ = ⟨t', uH v0 v1 v2 v3 v4 t (t + 1) (t + 1 + 1) (t + 1 + 1 + 1) (t + 1 + 1 + 1 + 1) r' L D N S⟩)
      (fun e fr σ => e = .ex 0 ∧ fget fr 6 = .ptr 8 (t + 1 + 1 + 1) 0 ∧ ∃ t' r', t ≤ t' ∧ σ = ⟨t', uH v0 v1 v2 v3 v4 t (t + 1) (t + 1 + 1) (t + 1 + 1 + 1) (t + 1 + 1 + 1 + 1) r' L D N (walks L roots [])⟩)
      (m0 := roots.length) ⟨0, t + 1 + 1 + 1 + 1 + 1 + 1, t + 1 + 1 + 1 + 1 + 1, [], Nat.zero_le _, rfl, ⟨List.nodup_nil, by simp⟩, rfl, by omega, ?_⟩ (fun m fr σ hJ => ?_) (fun e fr σ hE => ?_)
    · simp -implicitDefEqProofs (disch := omega) only [go_sem, ↓reduceIte, reduceCtorEq, Nat.reduceEqDiff]
      simp [uH, gS, wFn, im]
    · obtain ⟨i, t', r', S, hi, rfl, hS, hSe, ht', f2, f5, f6, f7, f12, f13, f14, rfl⟩ := hJ
      refine W_run 1000 ?_
      rcases Nat.lt_or_ge i roots.length with hlt | hge
      · have hz1 : z = 1 := by rcases hz with h | h; exact h; rw [h] at hlt; simp at hlt
        subst hz1
        obtain ⟨p, hp⟩ : ∃ p, roots[i]? = some p := ⟨_, List.getElem?_eq_getElem hlt⟩
        have hg : (roots.map (V.int .i64)).getD i .any = V.int .i64 p := by simp [List.getD_eq_getElem?_getD, hp]
        simp -implicitDefEqProofs (disch := omega) only [go_sem, need_of, ↓reduceIte, Nat.reduceEqDiff, Nat.zero_add, decide_true, Nat.le_refl, uH, gS, List.length_map, f7, f12, f13, f14, hlt, hg, wFn]
        refine callK hT t_term_Graph_Uses_S1 (c_walk hT (Nat.le_refl 5) hL hwf (p.toNat + 1) p S t' r' (by omega) hS) 1000 fun v σ hv => ?_
        obtain ⟨t2, r2, ht2, rfl⟩ := hv
        simp -implicitDefEqProofs (disch := omega) only [go_sem, ↓reduceIte, Nat.reduceEqDiff, f14]
        refine ⟨roots.length - (i + 1), _, _, by omega, Shift.refl _ _ _ _, i + 1, t2, r2, walkN L (p.toNat + 1) p S, hlt, rfl, okS_walk L _ p S hS, ?_, by omega, ?_⟩
        · rw [List.take_add_one, hp, Option.toList_some, walks, List.foldl_append, hSe]; rfl
        · have hw : IntKind.i64.wrap ((i : Int) + 1) = ((i + 1 : Nat) : Int) := by
            rw [wrap_i64 (by omega) (by omega)]; rfl
          simp -implicitDefEqProofs (disch := omega) only [go_sem, ↓reduceIte, Nat.reduceEqDiff, f2, f5, f6, f7, f12, f13, hw]
          rfl
      · simp -implicitDefEqProofs (disch := omega) only [go_sem, ↓reduceIte, Nat.reduceEqDiff, decide_false, f6, f13, f14, show ¬ i < roots.length from by omega]
        rw [List.take_of_length_le (by omega)] at hSe
        exact ⟨t', r', ht', rfl, by rw [hSe]⟩
    · obtain ⟨rfl, f6, t', r', ht', rfl⟩ := hE
      have hSw := okS_len (okS_walks L roots [] ⟨List.nodup_nil, by simp⟩)
      refine run_sem 1000 ?_
      simp -implicitDefEqProofs (disch := omega) only [go_sem, ↓reduceIte, Nat.zero_add, Nat.le_refl, uH, gS, f6]
      refine call hT t_slices_Sort_term_ID_term_ID (c_Sort SO (k := 10) (T := 26) (zs := walks L roots []) (by omega) rfl rfl (by omega)) 1000 fun v σ hv => ?_
      obtain ⟨rfl, rfl⟩ := hv
      simp -implicitDefEqProofs (disch := omega) only [go_sem, ↓reduceIte, Nat.reduceEqDiff, Nat.zero_add, Nat.le_refl, f6]
      exact ⟨r', _, t', _, _, _, _, _, rfl, ht', by simp [usesL], rfl, rfl⟩
  · obtain ⟨r, n, t', x5, x6, x7, x8, x9, rfl, ht', rfl, rfl⟩ := hv
    refine ⟨10, r, 26, (usesL L roots).map (V.int .i64), by omega, rfl, ints_nameless _, ?_⟩
    refine ⟨by simp [mapFrom_length, gH], ?_, t', ht', ?_⟩
    · simp only [frzV, rowsV]
      simp [List.take_of_length_le]
    · simp [gH, mapFrom]
end Go.Proofs.YtpdeoalocejodaaGreatDoor
/- Adding, with how deep and how long all is. -/
namespace Go.Proofs.YtpdeoalocejodaaGreatDoor
open Go Go.Am
set_option maxRecDepth 100000
variable {P : Program} {G : Nat → Option V}
def deepA (D : List Int) (ps : List Int) : Int := ps.foldl (fun m p => max m (D.getD p.toNat 0)) 0
def deepF (D : List Int) (d : Nd) : Int := deepA D d.parts + 1
def deeps (L : List Nd) : List Int := L.foldl (fun D d => D ++ [deepF D d]) []
theorem deeps_add (L : List Nd) (d : Nd) : deeps (L ++ [d]) = deeps L ++ [deepF (deeps L) d] := by simp [deeps, List.foldl_append]
def longA (N : List Int) (ps : List Int) (b : Int) : Int := ps.foldl (fun m p => m + N.getD p.toNat 0) b
def longF (fmt : Int → List UInt8) (N : List Int) (d : Nd) : Int := if 65537 < longA N d.parts ((d.words fmt [] []).length : Int) then 65537 else longA N d.parts ((d.words fmt [] []).length : Int)
def longs (fmt : Int → List UInt8) (L : List Nd) : List Int := L.foldl (fun N d => N ++ [longF fmt N d]) []
theorem longs_add (fmt : Int → List UInt8) (L : List Nd) (d : Nd) : longs fmt (L ++ [d]) = longs fmt L ++ [longF fmt (longs fmt L) d] := by simp [longs, List.foldl_append]
theorem snoc_ind {α : Type} {p : List α → Prop} (h0 : p []) (h1 : ∀ l a, p l → p (l ++ [a])) (l : List α) : p l := by
  have : ∀ r : List α, p r.reverse := fun r => by
    induction r with
    | nil => exact h0
    | cons a r ih => rw [List.reverse_cons]; exact h1 _ _ ih
  simpa using this l.reverse
theorem deeps_length (L : List Nd) : (deeps L).length = L.length := by
  refine snoc_ind (p := fun L => (deeps L).length = L.length) rfl (fun l a h => ?_) L
  rw [deeps_add]; simp [h]
theorem longs_length (fmt : Int → List UInt8) (L : List Nd) : (longs fmt L).length = L.length := by
  refine snoc_ind (p := fun L => (longs fmt L).length = L.length) rfl (fun l a h => ?_) L
  rw [longs_add]; simp [h]
theorem deepA_bd {D : List Int} {b : Int} (hD : ∀ x ∈ D, 0 ≤ x ∧ x ≤ b) (h0 : 0 ≤ b) (ps : List Int) : 0 ≤ deepA D ps ∧ deepA D ps ≤ b := by
  have : ∀ (ps : List Int) (m : Int), 0 ≤ m ∧ m ≤ b → 0 ≤ ps.foldl (fun m p => max m (D.getD p.toNat 0)) m ∧ ps.foldl (fun m p => max m (D.getD p.toNat 0)) m ≤ b := fun ps => by
    induction ps with
    | nil => intro m h; exact h
    | cons p ps ih =>
      intro m h
      refine ih _ ?_
      have : 0 ≤ D.getD p.toNat 0 ∧ D.getD p.toNat 0 ≤ b := by
        rw [List.getD_eq_getElem?_getD]
        cases hx : D[p.toNat]? with
        | none => simp; exact h0
        | some x => simpa using hD x (List.mem_of_getElem? hx)
      show 0 ≤ max m (D.getD p.toNat 0) ∧ max m (D.getD p.toNat 0) ≤ b
      omega
  exact this ps 0 ⟨Int.le_refl _, h0⟩
theorem deeps_bd (L : List Nd) : ∀ x ∈ deeps L, 0 ≤ x ∧ x ≤ L.length := by
  refine snoc_ind (p := fun L => ∀ x ∈ deeps L, 0 ≤ x ∧ x ≤ L.length) (by simp [deeps]) (fun l a h => ?_) L
  rw [deeps_add]
  intro x hx
  simp only [List.mem_append, List.mem_singleton] at hx
  rcases hx with hx | rfl
  · have := h x hx; simp; omega
  · have := deepA_bd (b := l.length) h (by omega) a.parts
    simp [deepF]; omega
theorem longA_nn {N : List Int} (hN : ∀ x ∈ N, 0 ≤ x ∧ x ≤ 65537) (ps : List Int) (b : Int) (hb : 0 ≤ b) : 0 ≤ longA N ps b ∧ longA N ps b ≤ b + 65537 * ps.length := by
  induction ps generalizing b with
  | nil => simp [longA]; exact hb
  | cons p ps ih =>
    have : 0 ≤ N.getD p.toNat 0 ∧ N.getD p.toNat 0 ≤ 65537 := by
      rw [List.getD_eq_getElem?_getD]
      cases hx : N[p.toNat]? with
      | none => simp
      | some x => simpa using hN x (List.mem_of_getElem? hx)
    have h2 := ih (b + N.getD p.toNat 0) (by omega)
    simp only [longA, List.foldl_cons, List.length_cons] at h2 ⊢
    omega
theorem longs_bd (fmt : Int → List UInt8) (L : List Nd) : ∀ x ∈ longs fmt L, 0 ≤ x ∧ x ≤ 65537 := by
  refine snoc_ind (p := fun L => ∀ x ∈ longs fmt L, 0 ≤ x ∧ x ≤ 65537) (by simp [longs]) (fun l a h => ?_) L
  rw [longs_add]
  intro x hx
  simp only [List.mem_append, List.mem_singleton] at hx
  rcases hx with hx | rfl
  · exact h x hx
  · have := longA_nn h a.parts ((a.words fmt [] []).length : Int) (by omega)
    unfold longF
    split <;> omega
theorem signs_le {o : Int} (ho : 0 ≤ o ∧ o ≤ 16) : (signs.getD o.toNat []).length ≤ 3 := by
  have : o = 0 ∨ o = 1 ∨ o = 2 ∨ o = 3 ∨ o = 4 ∨ o = 5 ∨ o = 6 ∨ o = 7 ∨ o = 8 ∨ o = 9 ∨ o = 10 ∨ o = 11 ∨ o = 12 ∨ o = 13 ∨ o = 14 ∨ o = 15 ∨ o = 16 := by omega
  rcases this with h | h | h | h | h | h | h | h | h | h | h | h | h | h | h | h | h <;> rw [h] <;> decide
theorem words_le (F : Fmt P G) (d : Nd) (x y : List UInt8) (ho : 0 ≤ d.op ∧ d.op ≤ 16) : (d.words F.fmt x y).length ≤ x.length + y.length + 60 := by
  have l1 := F.le d.n
  have l2 := F.le d.a
  have l3 := signs_le ho
  unfold Nd.words
  split
  · omega
  · split
    · simp only [List.length_append, List.length_cons, List.length_nil]; omega
    · split
      · simp only [List.length_append, List.length_cons, List.length_nil]; omega
      · simp only [List.length_append, List.length_cons, List.length_nil]; omega
def gG (fmt : Int → List UInt8) (v0 v1 v2 v3 v4 : Nat) (L : List Nd) : List (Option Ob) := gH v0 v1 v2 v3 v4 L (deeps L) (longs fmt L)
theorem c_AddG (hT : TabOk P tab) (F : Fmt P G) {v0 v1 v2 v3 v4 t : Nat} {L : List Nd} (d : Nd) (hL : L.length ≤ 1000000) (hn : i64 d.n) (ha : i64 d.a) :
   C P G 0 n_term_Graph_Add [.ptr 0 v0 0, .agg d.cells] ⟨t, gG F.fmt v0 v1 v2 v3 v4 L⟩ fun v σ => v = .int .i64 (addN L d).1 ∧ ∃ t' v2' v3' v4', t ≤ t' ∧ σ = ⟨t', gG F.fmt v0 v1 v2' v3' v4' (addN L d).2⟩ := by
  have hD := deeps_length L
  have hN := longs_length F.fmt L
  have hDb := deeps_bd L
  have hNb := longs_bd F.fmt L
  have hDD := deeps_add L d
  have hNN := longs_add F.fmt L d
  unfold gG
  generalize hDe : deeps L = D at hD hDb hDD ⊢
  generalize hNe : longs F.fmt L = N at hN hNb hNN ⊢
  have hkm := mget_ents d 0 L
  have hki := midx_ents d 0 L
  have hkk := keysOk_ents d 0 L
  have hkl := ents_length 0 L
  refine C_keep 5 (Nat.zero_le _) (C_tab hT t_term_Graph_Add (by simp [term_Graph_Add]) (W_run 1000 ?_))
  simp -implicitDefEqProofs (disch := omega) only [go_sem, ↓reduceIte, reduceCtorEq, Nat.reduceAdd, Nat.reduceEqDiff, Nat.zero_add, Nat.le_refl, term_Graph_Add, zq12_0, zq12_1, zq12_2, zq12_3, zq12_4, zq12_5, zq12_6, zq12_7, zq12_8, zq12_9, zq12_10, zq12_11, zq12_12, zq12_13, zq12_14, zq12_15, gH, gS, Nd.cells]
  refine callE (ex := _) hT t_term_Graph_may (c_may (o1 := _) (o2 := _) (o3 := _) (o4 := _) hT d (Nat.zero_le _)) rfl (gH_und ..) (Nat.zero_le _) rfl 1000 fun v σ hv => ?_
  obtain ⟨rfl, t1, ht1, rfl⟩ := hv
  refine ⟨rfl, gH_und .., rfl, ?_⟩
  simp only at ht1
  cases hmay : d.may L.length
  · simp -implicitDefEqProofs (disch := omega) only [go_sem, ↓reduceIte, reduceCtorEq, Nat.reduceAdd, Nat.reduceEqDiff, Nat.reduceLeDiff, Nat.zero_add, Bool.not_false, gS]
    have e1 : addN L d = (-1, L) := by simp [addN, hmay]
    rw [e1]
    simp only [hDe, hNe]
    exact ⟨trivial, _, _, _, _, by omega, ⟨rfl, rfl⟩⟩
  · simp only [Nd.cells] at hkm hki hkk
    cases hidx : idx d L with
    | some i =>
      simp -implicitDefEqProofs (disch := omega) only [go_sem, ↓reduceIte, reduceCtorEq, Nat.reduceAdd, Nat.reduceEqDiff, Nat.reduceLeDiff, Nat.reduceLT, Nat.zero_add, Bool.not_true, Nat.le_refl, Option.isSome_some, Option.getD_some, gS, hkm, hkk, hidx]
      have e1 : addN L d = ((i : Int), L) := by simp [addN, hmay, hidx]
      rw [e1]
      simp only [hDe, hNe]
      exact ⟨trivial, _, _, _, _, by omega, ⟨rfl, rfl⟩⟩
    | none =>
      simp -implicitDefEqProofs (disch := omega) only [go_sem, ↓reduceIte, reduceCtorEq, Nat.reduceAdd, Nat.reduceEqDiff, Nat.reduceLeDiff, Nat.reduceLT, Nat.zero_add, Nat.add_zero, Bool.not_true, Nat.le_refl, Option.isSome_none, Option.getD_none, gS, hkm, hkk, hidx]
      have hop : 0 ≤ d.op ∧ d.op ≤ 16 := by simp only [Nd.may] at hmay; grind
      refine callP hT t_term_words (c_words hT F d [] [] hn ha hop (by simp) (by simp)) rfl 1000 fun v hv => ?_
      subst hv
      simp -implicitDefEqProofs (disch := omega) only [go_sem, ↓reduceIte, reduceCtorEq, Nat.reduceAdd, Nat.reduceEqDiff, Nat.zero_add, Nat.le_refl]
      refine callP hT t_term_parts (c_parts hT d) rfl 1000 fun v hv => ?_
      obtain ⟨z, rfl, hz⟩ := hv
      simp -implicitDefEqProofs (disch := omega) only [go_sem, ↓reduceIte, reduceCtorEq, Nat.reduceEqDiff, List.length_map]
      have hpp : ∀ p ∈ d.parts, 0 ≤ p ∧ p < L.length := by simp only [Nd.may] at hmay; simp only [Nd.parts]; grind
      refine sem_inv (fun m fr σ => ∃ i : Nat, i ≤ d.parts.length ∧ m = d.parts.length - i ∧ fget fr 0 = .ptr 0 v0 0 ∧ fget fr 3 = .ptr 5 t 0 ∧ fget fr 7 = .int .i64 L.length ∧ fget fr 8 = .int .i64 (deepA D (d.parts.take i)) ∧ fget fr 9 = .int .i64 (longA N (d.parts.take i) ((d.words F.fmt [] []).length : Int)) ∧
        fget fr 40 = .lst z (d.parts.map (V.int .i64)) true ∧ fget fr 41 = .int .i64 d.parts.length ∧ fget fr 42 = .int .i64 i ∧ σ = ⟨t1, gH v0 v1 v2 v3 v4 L D N ++ [some (.arr t 57 d.cells)]⟩) (fun m fr σ hJ => ?_) (m0 := d.parts.length) ⟨0, Nat.zero_le _, rfl, ?_⟩
      · obtain ⟨i, hi, rfl, f0, f3, f7, f8, f9, f40, f41, f42, rfl⟩ := hJ
        refine W_run 1000 ?_
        rcases Nat.lt_or_ge i d.parts.length with hlt | hge
        · have hz1 : z = 1 := by rcases hz with h | h; exact h; rw [h] at hlt; simp at hlt
          subst hz1
          obtain ⟨p, hp⟩ : ∃ p, d.parts[i]? = some p := ⟨_, List.getElem?_eq_getElem hlt⟩
          obtain ⟨hp0, hp1⟩ := hpp p (List.mem_of_getElem? hp)
          have hg : (d.parts.map (V.int .i64)).getD i .any = V.int .i64 p := by simp [List.getD_eq_getElem?_getD, hp]
          have hp2 : p.toNat < L.length := by omega
          obtain ⟨x, hx⟩ : ∃ x, D[p.toNat]? = some x := ⟨_, List.getElem?_eq_getElem (by omega)⟩
          obtain ⟨y, hy⟩ : ∃ y, N[p.toNat]? = some y := ⟨_, List.getElem?_eq_getElem (by omega)⟩
          have hgD : (D.map (V.int .i64)).getD p.toNat .any = V.int .i64 x := by simp [List.getD_eq_getElem?_getD, hx]
          have hgN : (N.map (V.int .i64)).getD p.toNat .any = V.int .i64 y := by simp [List.getD_eq_getElem?_getD, hy]
          simp -implicitDefEqProofs (disch := omega) only [go_sem, need_of, ↓reduceIte, reduceCtorEq, Nat.reduceAdd, Nat.reduceEqDiff, Nat.reduceLeDiff, Nat.succ_ne_zero, Nat.zero_add, Nat.mul_one, decide_true, Nat.le_refl, gt_iff_lt, gH, gS, Nd.cells, List.length_map, f0, f8, f9, f40, f41, f42, hlt, hg, hp0, hp2, hgD, hgN]
          refine ⟨d.parts.length - (i + 1), _, _, by omega, Shift.refl _ _ _ _, i + 1, hlt, rfl, ?_⟩
          simp -implicitDefEqProofs (disch := omega) only [go_sem, ↓reduceIte, reduceCtorEq, Nat.reduceEqDiff, Nat.succ_ne_zero, f0, f3, f7, f40, f41]
          have hpl : d.parts.length ≤ 2 := by unfold Nd.parts; split <;> (try split) <;> simp
          have hw : IntKind.i64.wrap ((i : Int) + 1) = ((i + 1 : Nat) : Int) := by
            rw [wrap_i64 (by omega) (by omega)]; rfl
          have hpl2 : (d.parts.take i).length ≤ 2 := by rw [List.length_take]; omega
          have hA := deepA_bd hDb (by omega) (d.parts.take i)
          have hB := longA_nn hNb (d.parts.take i) ((d.words F.fmt [] []).length : Int) (by omega)
          have hxb := hDb x (List.mem_of_getElem? hx)
          have hyb := hNb y (List.mem_of_getElem? hy)
          have eA : deepA D (d.parts.take (i + 1)) = max (deepA D (d.parts.take i)) x := by
            rw [List.take_add_one, hp, Option.toList_some, deepA, List.foldl_append]; simp [deepA, List.getD_eq_getElem?_getD, hx]
          have eB : longA N (d.parts.take (i + 1)) ((d.words F.fmt [] []).length : Int) = longA N (d.parts.take i) ((d.words F.fmt [] []).length : Int) + y := by
            rw [List.take_add_one, hp, Option.toList_some, longA, List.foldl_append]; simp [longA, List.getD_eq_getElem?_getD, hy]
          have hwl := words_le F d [] [] hop
          simp only [List.length_nil] at hwl
          have hw2 : IntKind.i64.wrap (longA N (d.parts.take i) ((d.words F.fmt [] []).length : Int) + y) = longA N (d.parts.take i) ((d.words F.fmt [] []).length : Int) + y := wrap_i64 (by omega) (by omega)
          rw [hw, eA, eB, hw2]
          (repeat' (first | with_reducible refine And.intro ?_ ?_ | with_reducible intro _))
          all_goals first | rfl | (congr 1; omega) | skip
        · simp -implicitDefEqProofs (disch := omega) only [go_sem, ↓reduceIte, decide_false, gH, gS, Nd.cells, f41, f42, show ¬ i < d.parts.length from by omega]
          refine run_sem 1000 ?_
          simp -implicitDefEqProofs (disch := omega) only [go_sem, need_of, ↓reduceIte, reduceCtorEq, Nat.reduceAdd, Nat.reduceEqDiff, Nat.reduceLeDiff, Nat.reduceLT, Nat.succ_ne_zero, Nat.zero_add, Nat.add_zero, Nat.mul_one, Bool.not_true, Bool.not_false, Nat.le_refl, Nat.zero_le, Option.getD_none, List.length_map, f0, f3, f7, f8, f9, hkm, hki, hkk, hkl, hidx, ndC_length, hD, hN]
          obtain ⟨hm1, hm2⟩ := ents_ment L d hidx
          simp only [Nd.cells] at hm1 hm2
          refine ⟨⟨by omega, hm1⟩, ?_⟩
          simp only [addN, hmay, hidx, if_true]
          refine ⟨trivial, _, t1, t1 + 1, t1 + 1 + 1, by omega, ⟨rfl, ?_⟩⟩
          rw [hm2, hDD, hNN]
          have hi : i = d.parts.length := by omega
          subst hi
          have hA := deepA_bd hDb (by omega) d.parts
          have hw3 : IntKind.i64.wrap (deepA D d.parts + 1) = deepA D d.parts + 1 := wrap_i64 (by omega) (by omega)
          simp [ndC, Nd.cells, deepF, longF, hw3]
      · simp -implicitDefEqProofs (disch := omega) only [go_sem, ↓reduceIte, reduceCtorEq, Nat.reduceEqDiff, gH, gS, Nd.cells]
        exact ⟨rfl, rfl, rfl⟩
end Go.Proofs.YtpdeoalocejodaaGreatDoor
/- Contracts: a new graph; the document's graph. -/
namespace Go.Proofs.YtpdeoalocejodaaGreatDoor
open Go Go.Am
set_option maxRecDepth 100000
variable {P : Program} {G : Nat → Option V}
theorem c_New (hT : TabOk P tab) {base : Nat} {t : Nat} {o : List (Option Ob)} (hb : base ≤ o.length) :
   C P G base n_term_New [] ⟨t, o⟩ fun v σ => ∃ v0 v1 v2 v3 v4 t' i1 i2 i3 i4, t ≤ t' ∧ v = .ptr (o.length + 1) v0 0 ∧ σ = ⟨t', o ++ [some (.map v1 []), some (.arr v0 85 [.sl i2 v2 0 6 0 none, .mp i1 v1, .sl i3 v3 0 1 0 none, .sl i4 v4 0 1 0 none]), some (.arr v2 57 []), some (.arr v3 3 []), some (.arr v4 3 [])]⟩ ∧
      i1 = o.length ∧ i2 = o.length + 2 ∧ i3 = o.length + 3 ∧ i4 = o.length + 4 := by
  refine C_hshift (Q := fun v σ => v = .ptr (o.length + 1) (t + 1) 0 ∧ σ = ⟨t + 2, o ++ [some (.map t []), some (.arr (t + 1) 85 [.lst 0 [] true, .mp o.length t, .lst 0 [] true, .lst 0 [] true])]⟩) ?_ fun v σ hv => ?_
  · refine C_tab hT t_term_New (by simp [term_New]) (W_run 1000 ?_)
    simp -implicitDefEqProofs (disch := omega) only [go_sem, ↓reduceIte, reduceCtorEq, Nat.reduceAdd, Nat.reduceEqDiff, Nat.reduceLeDiff, Nat.zero_add, term_New, zqy_0, zqy_1]
    simp
  · obtain ⟨rfl, rfl⟩ := hv
    have h1 := HShift.ownAt (G := G) 6 57 (base := base) (k := o.length + 1) (v := t + 1) (T' := 85) (p := 0) (z := 0) (cs := [.lst 0 [] true, .mp o.length t, .lst 0 [] true, .lst 0 [] true]) (t := t + 2) (o := o ++ [some (.map t []), some (.arr (t + 1) 85 [.lst 0 [] true, .mp o.length t, .lst 0 [] true, .lst 0 [] true])]) (by omega) (by simp) rfl
    simp [] at h1
    have h2 := HShift.ownAt (G := G) 1 3 (base := base) (k := o.length + 1) (v := t + 1) (T' := 85) (p := 2) (z := 0) (cs := [.sl (o.length + 2) (t + 2) 0 6 0 none, .mp o.length t, .lst 0 [] true, .lst 0 [] true]) (t := t + 2 + 1) (o := o ++ [some (.map t []), some (.arr (t + 1) 85 [.sl (o.length + 2) (t + 2) 0 6 0 none, .mp o.length t, .lst 0 [] true, .lst 0 [] true]), some (.arr (t + 2) 57 [])]) (by omega) (by simp) rfl
    simp [] at h2
    have h3 := HShift.ownAt (G := G) 1 3 (base := base) (k := o.length + 1) (v := t + 1) (T' := 85) (p := 3) (z := 0) (cs := [.sl (o.length + 2) (t + 2) 0 6 0 none, .mp o.length t, .sl (o.length + 3) (t + 2 + 1) 0 1 0 none, .lst 0 [] true]) (t := t + 2 + 1 + 1) (o := o ++ [some (.map t []), some (.arr (t + 1) 85 [.sl (o.length + 2) (t + 2) 0 6 0 none, .mp o.length t, .sl (o.length + 3) (t + 2 + 1) 0 1 0 none, .lst 0 [] true]), some (.arr (t + 2) 57 []), some (.arr (t + 2 + 1) 3 [])]) (by omega) (by simp) rfl
    simp [] at h3
    exact ⟨_, (h1.trans h2).trans h3, t + 1, t, t + 2, t + 2 + 1, t + 2 + 1 + 1, t + 2 + 1 + 1 + 1, o.length, o.length + 2, o.length + 3, o.length + 4, by omega, rfl, rfl, rfl, rfl, rfl, rfl⟩
end Go.Proofs.YtpdeoalocejodaaGreatDoor
