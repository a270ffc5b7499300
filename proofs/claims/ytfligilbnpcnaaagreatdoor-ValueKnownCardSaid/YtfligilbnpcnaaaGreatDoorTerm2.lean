/- Contracts of a graph's methods. -/
import Derived.Test.YtfligilbnpcnaaaGreatDoorTerm1
namespace Go.Proofs.YtfligilbnpcnaaaGreatDoor
open Go Go.Am
set_option maxRecDepth 100000
variable {P : Program} {G : Nat → Option V}

/-- The entries of the map: each node with its number. -/
def ents : Nat → List Nd → List (V × V)
  | _, [] => []
  | k, d :: l => (.agg d.cells, .int .i64 k) :: ents (k + 1) l

def idx (d : Nd) : List Nd → Option Nat
  | [] => none
  | e :: l => if d = e then some 0 else (idx d l).map (· + 1)

abbrev k6 : List Kd := [.i, .i, .i, .i, .i, .i]

theorem wrap_i64 {x : Int} (h1 : -9223372036854775808 ≤ x) (h2 : x ≤ 9223372036854775807) : IntKind.i64.wrap x = x := by
  unfold IntKind.wrap
  simp [IntKind.bits, IntKind.signed]
  omega

theorem keyEq_cells (d e : Nd) : keyEq k6 (.agg d.cells) (.agg e.cells) = decide (d = e) := by
  cases d; cases e
  simp [keyEq, Nd.cells, V.cells, beqL, beqV]
  grind

theorem beqL_cells (d e : Nd) : (beqL k6 (V.agg d.cells).cells (V.agg e.cells).cells).isSome = true := by
  simp [Nd.cells, V.cells, beqL, beqV]

theorem ents_mem : ∀ (k : Nat) (l : List Nd) (p : V × V), p ∈ ents k l → ∃ d, p.1 = .agg (Nd.cells d)
  | _, [], p, h => by simp [ents] at h
  | k, d :: l, p, h => by
    simp only [ents, List.mem_cons] at h
    rcases h with h | h
    · exact ⟨d, by rw [h]⟩
    · exact ents_mem (k + 1) l p h

theorem keysOk_ents (d : Nd) (k : Nat) (l : List Nd) : keysOk true k6 (.agg d.cells) (ents k l) := by
  refine ⟨⟨rfl, beqL_cells d d⟩, fun p hp => ?_⟩
  obtain ⟨e, he⟩ := ents_mem k l p hp
  rw [he]
  exact ⟨rfl, beqL_cells d e⟩

theorem mget_ents (d : Nd) : ∀ (k : Nat) (l : List Nd), mget k6 (.agg d.cells) (ents k l) = (idx d l).map fun i => V.int .i64 ((k + i : Nat) : Int)
  | k, [] => rfl
  | k, e :: l => by
    have ih := mget_ents d (k + 1) l
    unfold mget at ih ⊢
    simp only [ents, idx, List.find?_cons, keyEq_cells]
    by_cases h : d = e
    · simp [h]
    · simp only [h, decide_false, if_false]
      rw [ih]
      cases idx d l <;> simp; omega

theorem midx_ents (d : Nd) : ∀ (k : Nat) (l : List Nd), midx k6 (.agg d.cells) (ents k l) = idx d l
  | k, [] => rfl
  | k, e :: l => by
    simp only [ents, idx, midx, keyEq_cells, midx_ents d (k + 1) l]
    by_cases h : d = e <;> simp [h]

theorem ents_length : ∀ (k : Nat) (l : List Nd), (ents k l).length = l.length
  | _, [] => rfl
  | k, d :: l => by simp [ents, ents_length (k + 1) l]

theorem ents_append : ∀ (k : Nat) (l : List Nd) (d : Nd), ents k (l ++ [d]) = ents k l ++ [(.agg d.cells, .int .i64 ((k + l.length : Nat) : Int))]
  | k, [], d => by simp [ents]
  | k, e :: l, d => by simp [ents, ents_append (k + 1) l d]; omega

theorem ents_ment (L : List Nd) (d : Nd) (h : idx d L = none) : L.length < (mentL k6 (.agg d.cells) (.int .i64 0) (ents 0 L)).length ∧
    (mentL k6 (.agg d.cells) (.int .i64 0) (ents 0 L)).modify L.length (fun p => (p.1, .int .i64 (L.length : Nat))) = ents 0 (L ++ [d]) := by
  have e1 : mentL k6 (.agg d.cells) (.int .i64 0) (ents 0 L) = ents 0 L ++ [(.agg d.cells, .int .i64 0)] := by
    unfold mentL
    rw [midx_ents, h]
    rfl
  rw [e1, ents_append]
  refine ⟨by simp [ents_length], ?_⟩
  have : ∀ (a : List (V × V)) (b : V × V) (f : V × V → V × V), (a ++ [b]).modify a.length f = a ++ [f b] := fun a b f => by
    induction a with
    | nil => rfl
    | cons x a ih => simpa using ih
  have h2 := this (ents 0 L) (.agg d.cells, .int .i64 0) (fun p => (p.1, .int .i64 (L.length : Nat)))
  rw [ents_length] at h2
  rw [h2]
  simp

/-- The rows of nodes. -/
def ndC (l : List Nd) : List V := (l.map Nd.cells).flatten
theorem ndC_length (l : List Nd) : (ndC l).length = l.length * 6 := by
  induction l with
  | nil => rfl
  | cons d l ih => simp [ndC] at ih ⊢; simp [Nd.cells]; omega

/-- A graph's heap. -/
def gH (v0 v1 v2 v3 v4 : Nat) (L : List Nd) (D N : List Int) : List (Option Ob) :=
  [gS v0 v1 v2 v3 v4 L.length, some (.map v1 (ents 0 L)), some (.arr v2 50 (ndC L)), some (.arr v3 3 (D.map (V.int .i64))), some (.arr v4 3 (N.map (V.int .i64)))]

theorem c_Size (hT : TabOk P tab) {base : Nat} {v0 v1 v2 v3 v4 t : Nat} {o : List (Option Ob)} {len : Nat} :
   C P G base n_term_Graph_Size [.ptr 0 v0 0] ⟨t, gS v0 v1 v2 v3 v4 len :: o⟩ fun v σ => v = .int .i64 len ∧ σ = ⟨t, gS v0 v1 v2 v3 v4 len :: o⟩ := by
  refine C_tab hT t_term_Graph_Size (by simp [term_Graph_Size]) (W_run 1000 ?_)
  simp -implicitDefEqProofs (disch := omega) only [go_sem, ↓reduceIte, reduceCtorEq, Nat.reduceAdd, Nat.reduceEqDiff, Nat.reduceLeDiff, Nat.zero_add, Nat.add_zero, term_Graph_Size, zqj_0, zqj_1, zqj_2, zqj_3, gS]

def zeroNd : Nd := ⟨0, 0, 0, 0, 0, 0⟩

theorem ndC_get {l : List Nd} {i : Nat} {d : Nd} (h : l[i]? = some d) : ((ndC l).drop (i * 6)).take 6 = d.cells := by
  induction l generalizing i with
  | nil => simp at h
  | cons e l ih =>
    cases i with
    | zero => simp at h; subst h; simp [ndC, Nd.cells]
    | succ i =>
      have := ih (i := i) (by simpa using h)
      have e1 : ndC (e :: l) = e.cells ++ ndC l := by simp [ndC]
      have e2 : (i + 1) * 6 = e.cells.length + i * 6 := by simp [Nd.cells]; omega
      rw [e1, e2, ← List.drop_drop, List.drop_left]
      exact this

theorem c_Node (hT : TabOk P tab) {base : Nat} {v0 v1 v2 v3 v4 t : Nat} {L : List Nd} {D N : List Int} {id : Int} (hb : base ≤ 5) :
   C P G base n_term_Graph_Node [.ptr 0 v0 0, .int .i64 id] ⟨t, gH v0 v1 v2 v3 v4 L D N⟩ fun v σ => v = (if 0 ≤ id ∧ id < L.length then .tup [.agg (L.getD id.toNat zeroNd).cells, .bool true] else .tup [.agg zeroNd.cells, .bool false]) ∧ ∃ t', t ≤ t' ∧ σ = ⟨t', gH v0 v1 v2 v3 v4 L D N⟩ := by
  refine C_keep 5 hb (C_tab hT t_term_Graph_Node (by simp [term_Graph_Node]) (W_run 1000 ?_))
  simp -implicitDefEqProofs (disch := omega) only [go_sem, ↓reduceIte, reduceCtorEq, Nat.reduceAdd, Nat.reduceEqDiff, Nat.zero_add, term_Graph_Node, zqk_0, zqk_1, zqk_2, zqk_3, gH, gS]
  refine call hT t_term_Graph_is (c_is hT) 1000 fun v σ hv => ?_
  obtain ⟨rfl, rfl⟩ := hv
  by_cases h : 0 ≤ id ∧ id < L.length
  · obtain ⟨d, hd⟩ : ∃ d, L[id.toNat]? = some d := ⟨_, List.getElem?_eq_getElem (by omega)⟩
    have hl := ndC_length L
    have hc := ndC_get hd
    have hlen : id.toNat < L.length := by omega
    have h6 : id.toNat * 6 + 6 ≤ (ndC L).length := by omega
    have hgd : L.getD id.toNat zeroNd = d := by simp [List.getD_eq_getElem?_getD, hd]
    simp -implicitDefEqProofs (disch := omega) only [go_sem, need_of, ↓reduceIte, reduceCtorEq, Nat.reduceAdd, Nat.reduceEqDiff, Nat.reduceLeDiff, Nat.zero_add, Nat.add_zero, decide_true, Bool.not_true, Bool.not_false, Nat.le_refl, gS, h, hc, hlen, h6, hgd, Nd.cells]
    exact ⟨_, by omega, rfl⟩
  · simp -implicitDefEqProofs (disch := omega) only [go_sem, need_of, ↓reduceIte, reduceCtorEq, Nat.reduceAdd, Nat.reduceEqDiff, Nat.reduceLeDiff, Nat.zero_add, decide_false, Bool.not_false, Nat.le_refl, gS, h, Nd.cells, zeroNd]
    exact ⟨_, by omega, rfl⟩

theorem ndC_nameless (L : List Nd) : namelessL (ndC L) = true := by
  induction L with
  | nil => rfl
  | cons d l ih => simp [ndC, Nd.cells, namelessL, nameless] at ih ⊢; exact ih
theorem ints_nameless (D : List Int) : namelessL (D.map (V.int .i64)) = true := by
  induction D with
  | nil => rfl
  | cons d l ih => simp [namelessL, nameless, ih]
theorem ents_under (n : Nat) : ∀ (k : Nat) (L : List Nd), (ents k L).all (fun p => V.under n p.2) = true
  | _, [] => rfl
  | k, d :: l => by simp only [ents, List.all_cons, ents_under n (k + 1) l, Bool.and_true]; rfl
theorem gH_und (v0 v1 v2 v3 v4 : Nat) (L : List Nd) (D N : List Int) : undO 5 (gH v0 v1 v2 v3 v4 L D N) = true := by
  simp [gH, gS, undO, Ob.under, underL, V.under, underL_nameless _ (ndC_nameless L), underL_nameless _ (ints_nameless D), underL_nameless _ (ints_nameless N), -List.all_eq_true, ents_under]

/-- What is added to: the number, the nodes. -/
def addN (L : List Nd) (d : Nd) : Int × List Nd :=
  if d.may L.length then (match idx d L with | some i => ((i : Int), L) | none => ((L.length : Int), L ++ [d])) else (-1, L)

end Go.Proofs.YtfligilbnpcnaaaGreatDoor

