/- Contracts of term's functions. -/
import Derived.Test.YtfligilbnpcnaaaGreatDoorTabB
namespace Go.Proofs.YtfligilbnpcnaaaGreatDoor
open Go Go.Am
set_option maxRecDepth 100000
variable {P : Program} {G : Nat → Option V}

/-- A node. -/
structure Nd where
  kind : Int
  n : Int
  a : Int
  op : Int
  x : Int
  y : Int
  deriving DecidableEq

def Nd.cells (d : Nd) : List V := [.int .u8 d.kind, .int .i64 d.n, .int .i64 d.a, .int .u8 d.op, .int .i64 d.x, .int .i64 d.y]

theorem c_bare (hT : TabOk P tab) (d : Nd) : Pure P G n_term_bare [.agg d.cells] fun v => v = .agg (Nd.cells ⟨0, if d.kind = 1 ∨ d.kind = 2 ∨ d.kind = 3 then 0 else d.n, if d.kind = 3 then 0 else d.a, if d.kind = 4 then 0 else d.op, if d.kind = 4 then 0 else d.x, if d.kind = 3 ∨ d.kind = 4 then 0 else d.y⟩) := by
  intro t
  refine C_tab hT t_term_bare (by simp [term_bare]) (W_run 1000 ?_)
  simp -implicitDefEqProofs (disch := omega) only [go_sem, ↓reduceIte, reduceCtorEq, Nat.reduceAdd, Nat.reduceEqDiff, Nat.reduceLeDiff, Nat.zero_add, Nat.add_zero, Bool.not_false, Nat.le_refl, Nat.zero_le, term_bare, zq1d_0, zq1d_1, zq1d_2, zq1d_3, zq1d_4, zq1d_5, zq1d_6, zq1d_7, zq1d_8, zq1d_9, zq1d_10, Nd.cells]
  grind

/-- What parts a node has. -/
def Nd.parts (d : Nd) : List Int := if d.kind = 3 then [d.y] else if d.kind = 4 then [d.x, d.y] else []

theorem c_parts (hT : TabOk P tab) (d : Nd) : Pure P G n_term_parts [.agg d.cells] fun v => ∃ z, v = .lst z (d.parts.map (V.int .i64)) true ∧ (z = 1 ∨ d.parts = []) := by
  intro t
  refine C_tab hT t_term_parts (by simp [term_parts]) (W_run 1000 ?_)
  simp -implicitDefEqProofs (disch := omega) only [go_sem, ↓reduceIte, reduceCtorEq, Nat.reduceAdd, Nat.reduceEqDiff, Nat.reduceLeDiff, Nat.zero_add, Nat.add_zero, Nat.le_refl, term_parts, zqx_0, zqx_1, zqx_2, zqx_3, zqx_4, zqx_5, zqx_6, Nd.cells, Nd.parts]
  by_cases h3 : d.kind = 3 <;> by_cases h4 : d.kind = 4 <;> simp [h3, h4]

def signs : List (List UInt8) := [[], [43], [45], [42], [47], [37], [47, 117], [37, 117], [38], [124], [94], [60, 60], [62, 62, 117], [62, 62], [60], [60, 117], [61, 61]]

theorem c_sign (hT : TabOk P tab) (o : Int) (h0 : 0 ≤ o) (h1 : o ≤ 16) : Pure P G n_term_sign [.int .u8 o] fun v => v = .str (signs.getD o.toNat []) := by
  intro t
  refine C_tab hT t_term_sign (by simp [term_sign]) (W_run 1000 ?_)
  simp -implicitDefEqProofs (disch := omega) only [go_sem, need_of, ↓reduceIte, reduceCtorEq, Nat.reduceAdd, Nat.reduceEqDiff, Nat.reduceLeDiff, Nat.zero_add, Nat.mul_one, Nat.le_refl, term_sign, zq1g_0, zq1g_1]
  have : o = 0 ∨ o = 1 ∨ o = 2 ∨ o = 3 ∨ o = 4 ∨ o = 5 ∨ o = 6 ∨ o = 7 ∨ o = 8 ∨ o = 9 ∨ o = 10 ∨ o = 11 ∨ o = 12 ∨ o = 13 ∨ o = 14 ∨ o = 15 ∨ o = 16 := by omega
  rcases this with h | h | h | h | h | h | h | h | h | h | h | h | h | h | h | h | h <;> subst h <;> exact ⟨rfl, rfl⟩

/-- A graph's heap: the graph, its map, its three rows. -/
def gS (v0 v1 v2 v3 v4 len : Nat) : Option Ob := some (.arr v0 82 [.sl 2 v2 0 6 len none, .mp 1 v1, .sl 3 v3 0 1 len none, .sl 4 v4 0 1 len none])

theorem c_is (hT : TabOk P tab) {base : Nat} {v0 v1 v2 v3 v4 t : Nat} {o : List (Option Ob)} {len : Nat} {id : Int} :
   C P G base n_term_Graph_is [.ptr 0 v0 0, .int .i64 id] ⟨t, gS v0 v1 v2 v3 v4 len :: o⟩ fun v σ => v = .bool (decide (0 ≤ id ∧ id < len)) ∧ σ = ⟨t, gS v0 v1 v2 v3 v4 len :: o⟩ := by
  refine C_tab hT t_term_Graph_is (by simp [term_Graph_is]) (W_run 1000 ?_)
  simp -implicitDefEqProofs (disch := omega) only [go_sem, ↓reduceIte, reduceCtorEq, Nat.reduceAdd, Nat.reduceEqDiff, Nat.reduceLeDiff, Nat.zero_add, Nat.add_zero, ge_iff_le, term_Graph_is, zqy_0, zqy_1, gS]
  by_cases h1 : 0 ≤ id <;> simp [h1]

/-- May a node be, in a graph of so many? -/
def Nd.may (d : Nd) (len : Nat) : Bool :=
  decide ((if d.kind = 1 ∨ d.kind = 2 ∨ d.kind = 3 then 0 else d.n) = 0 ∧ (if d.kind = 3 then 0 else d.a) = 0 ∧ (if d.kind = 4 then 0 else d.op) = 0 ∧ (if d.kind = 4 then 0 else d.x) = 0 ∧ (if d.kind = 3 ∨ d.kind = 4 then 0 else d.y) = 0) &&
  (if d.kind = 1 then true else if d.kind = 2 then decide (0 ≤ d.n) else if d.kind = 3 then decide (0 ≤ d.n ∧ 0 ≤ d.a ∧ 0 ≤ d.y ∧ d.y < len) else if d.kind = 4 then decide (1 ≤ d.op ∧ d.op ≤ 16 ∧ 0 ≤ d.x ∧ d.x < len ∧ 0 ≤ d.y ∧ d.y < len) else false)

theorem c_may (hT : TabOk P tab) {base : Nat} {v0 v1 v2 v3 v4 t : Nat} {o1 o2 o3 o4 : Option Ob} {len : Nat} (d : Nd) (hb : base ≤ 5) :
   C P G base n_term_Graph_may [.ptr 0 v0 0, .agg d.cells] ⟨t, [gS v0 v1 v2 v3 v4 len, o1, o2, o3, o4]⟩ fun v σ => v = .bool (d.may len) ∧ ∃ t', t ≤ t' ∧ σ = ⟨t', [gS v0 v1 v2 v3 v4 len, o1, o2, o3, o4]⟩ := by
  refine C_keep 5 hb (C_tab hT t_term_Graph_may (by simp [term_Graph_may]) (W_run 1000 ?_))
  simp -implicitDefEqProofs (disch := omega) only [go_sem, ↓reduceIte, reduceCtorEq, Nat.reduceAdd, Nat.reduceEqDiff, Nat.zero_add, Nat.le_refl, term_Graph_may, zqv_0, zqv_1, zqv_2, zqv_3, zqv_4, zqv_5, zqv_6, zqv_7, zqv_8, zqv_9, zqv_10, zqv_11, zqv_12, Nd.cells, gS]
  refine callP hT t_term_bare (c_bare hT d) (by simp [nameless, namelessL]) 1000 fun v hv => ?_
  subst hv
  simp -implicitDefEqProofs (disch := omega) only [go_sem, ↓reduceIte, reduceCtorEq, Nat.reduceAdd, Nat.reduceEqDiff, Nat.reduceLeDiff, Nat.zero_add, Nat.add_zero, Nat.le_refl, ge_iff_le, beq_self_eq_true, Nd.cells]
  repeat' (first | with_reducible refine And.intro ?_ ?_ | with_reducible intro _)
  any_goals (first | (refine ⟨_, ?_, rfl, rfl⟩; omega) | (refine ⟨_, ?_, rfl⟩; omega))
  any_goals (refine call hT t_term_Graph_is (c_is hT) 1000 fun v σ hv => ?_; obtain ⟨rfl, rfl⟩ := hv; simp -implicitDefEqProofs (disch := omega) only [go_sem, ↓reduceIte, reduceCtorEq, Nat.reduceAdd, Nat.reduceEqDiff, Nat.reduceLeDiff, Nat.zero_add, Nat.le_refl, gS]; repeat' (first | with_reducible refine And.intro ?_ ?_ | with_reducible intro _))
  any_goals (first | (refine ⟨_, ?_, rfl, rfl⟩; omega) | (refine ⟨_, ?_, rfl⟩; omega))
  any_goals (refine call hT t_term_Graph_is (c_is hT) 1000 fun v σ hv => ?_; obtain ⟨rfl, rfl⟩ := hv; simp -implicitDefEqProofs (disch := omega) only [go_sem, ↓reduceIte, reduceCtorEq, Nat.reduceAdd, Nat.reduceEqDiff, Nat.reduceLeDiff, Nat.zero_add, gS]; repeat' (first | with_reducible refine And.intro ?_ ?_ | with_reducible intro _))
  any_goals (first | (refine ⟨_, ?_, rfl, rfl⟩; omega) | (refine ⟨_, ?_, rfl⟩; omega))
  all_goals (simp only [V.bool.injEq, Nd.may]; grind)

/-- Numbers, as text: what is asked of FormatInt. -/
structure Fmt (P : Program) (G : Nat → Option V) where
  fmt : Int → List UInt8
  le : ∀ i, (fmt i).length ≤ 24
  int : ∀ i : Int, -9223372036854775808 ≤ i → i ≤ 9223372036854775807 → Pure P G n_strconv_FormatInt [.int .i64 i, .int .i64 10] fun v => v = .str (fmt i)
  itoa : ∀ i : Int, -9223372036854775808 ≤ i → i ≤ 9223372036854775807 → Pure P G n_strconv_Itoa [.int .i64 i] fun v => v = .str (fmt i)

def i64 (i : Int) : Prop := -9223372036854775808 ≤ i ∧ i ≤ 9223372036854775807

/-- A node's text, with its parts' texts. -/
def Nd.words (fmt : Int → List UInt8) (d : Nd) (x y : List UInt8) : List UInt8 :=
  if d.kind = 1 then fmt d.n else if d.kind = 2 then [115] ++ fmt d.n else if d.kind = 3 then [97] ++ fmt d.a ++ [118] ++ fmt d.n ++ [91] ++ y ++ [93] else [40] ++ x ++ [32] ++ signs.getD d.op.toNat [] ++ [32] ++ y ++ [41]

theorem c_words (hT : TabOk P tab) (F : Fmt P G) (d : Nd) (x y : List UInt8) (hn : i64 d.n) (ha : i64 d.a) (ho : 0 ≤ d.op ∧ d.op ≤ 16) (hx : x.length ≤ 1000000) (hy : y.length ≤ 1000000) :
    Pure P G n_term_words [.agg d.cells, .str x, .str y] fun v => v = .str (d.words F.fmt x y) := by
  intro t
  have l1 := F.le d.n
  have l2 := F.le d.a
  have l3 : (signs.getD d.op.toNat []).length ≤ 3 := by
    have : d.op = 0 ∨ d.op = 1 ∨ d.op = 2 ∨ d.op = 3 ∨ d.op = 4 ∨ d.op = 5 ∨ d.op = 6 ∨ d.op = 7 ∨ d.op = 8 ∨ d.op = 9 ∨ d.op = 10 ∨ d.op = 11 ∨ d.op = 12 ∨ d.op = 13 ∨ d.op = 14 ∨ d.op = 15 ∨ d.op = 16 := by omega
    rcases this with h | h | h | h | h | h | h | h | h | h | h | h | h | h | h | h | h <;> rw [h] <;> decide
  refine C_tab hT t_term_words (by simp [term_words]) (W_run 1000 ?_)
  simp -implicitDefEqProofs (disch := omega) only [go_sem, ↓reduceIte, reduceCtorEq, Nat.reduceAdd, Nat.reduceEqDiff, Nat.reduceLeDiff, Nat.zero_add, term_words, zqw_0, zqw_1, zqw_2, zqw_3, zqw_4, zqw_5, zqw_6, zqw_7, zqw_8, zqw_9, Nd.cells]
  refine callP hT t_strconv_FormatInt (F.int d.n hn.1 hn.2) (by simp [nameless, namelessL]) 1000 fun v hv => ?_
  subst hv
  simp -implicitDefEqProofs (disch := omega) only [go_sem, need_of, ↓reduceIte, reduceCtorEq, Nat.reduceAdd, Nat.reduceEqDiff, Nat.reduceLeDiff, Nat.zero_add, Nat.add_zero]
  repeat' (first | with_reducible refine And.intro ?_ ?_ | with_reducible intro _)
  any_goals (refine callP hT t_strconv_Itoa (F.itoa d.a ha.1 ha.2) (by simp [nameless, namelessL]) 1000 fun v hv => ?_; subst hv; simp -implicitDefEqProofs (disch := omega) only [go_sem, need_of, ↓reduceIte, reduceCtorEq, Nat.reduceEqDiff, Nat.reduceLeDiff, Nat.zero_add, List.length_append])
  any_goals (refine callP hT t_term_sign (c_sign hT d.op ho.1 ho.2) (by simp [nameless, namelessL]) 1000 fun v hv => ?_; subst hv; simp -implicitDefEqProofs (disch := omega) only [go_sem, need_of, ↓reduceIte, reduceCtorEq, Nat.reduceEqDiff, Nat.reduceLeDiff, Nat.zero_add, List.length_append])
  all_goals (simp [Nd.words, *])
end Go.Proofs.YtfligilbnpcnaaaGreatDoor

