/- What terms need: the document's. -/
import Derived.Test.YtpdeoalocejodaaGreatDoorJ2
/- What terms need: the document's. -/
namespace Go.Proofs.YtpdeoalocejodaaGreatDoor
open Go Go.Am
set_option maxRecDepth 100000
set_option maxHeartbeats 1000000
variable {P : Program} {G : Nat → Option V}
end Go.Proofs.YtpdeoalocejodaaGreatDoor
/- What terms need: the document's. -/
namespace Go.Proofs.YtpdeoalocejodaaGreatDoor
open Go Go.Am
set_option maxRecDepth 100000
set_option maxHeartbeats 1000000
variable {P : Program} {G : Nat → Option V}
end Go.Proofs.YtpdeoalocejodaaGreatDoor
/- What terms need: the document's contract. -/
namespace Go.Proofs.YtpdeoalocejodaaGreatDoor
open Go Go.Am
set_option maxRecDepth 100000
set_option maxHeartbeats 1000000
variable {P : Program} {G : Nat → Option V}
end Go.Proofs.YtpdeoalocejodaaGreatDoor
/- The law ValueNeeds. -/
namespace Go.Proofs.YtpdeoalocejodaaGreatDoor
open Go Go.Am
set_option maxRecDepth 100000
set_option maxHeartbeats 1000000
variable {P : Program} {G : Nat → Option V}
theorem nints_get {l : List Int} {i : Nat} {x : Int} (h : l[i]? = some x) : (nints l).getD i .any = .int .i64 x := by simp [nints, List.getD_eq_getElem?_getD, h]
end Go.Proofs.YtpdeoalocejodaaGreatDoor
/- What symbols are known to be. -/
namespace Go.Proofs.YtpdeoalocejodaaGreatDoor
open Go Go.Am
set_option maxRecDepth 100000
set_option maxHeartbeats 1000000
variable {P : Program} {G : Nat → Option V}
structure Cl where
  arr : Int
  ver : Int
  at' : Int
  n : Int
def Cl.v (c : Cl) : V := .agg [.int .i64 c.arr, .int .i64 c.ver, .int .i64 c.at', .int .i64 c.n]
def envV (S : List Int) (tS : Bool) (zC : Nat) (C : List Cl) (tC : Bool) : V := .agg [.lst 1 (nints S) tS, .lst zC (C.map Cl.v) tC]
def symE (S : List Int) (k : Int) : Int := if k < 0 ∨ (S.length : Int) ≤ k then 0 else S.getD k.toNat 0
theorem c_Sym (hT : TabOk P tab) (S : List Int) (tS : Bool) (zC : Nat) (C : List Cl) (tC : Bool) (k : Int) : Pure P G n_value_Env_Sym [envV S tS zC C tC, .int .i64 k] fun v => v = .int .i64 (symE S k) := by
  intro t
  refine C_keep 0 (Nat.zero_le _) (C_tab hT t_value_Env_Sym (by simp [value_Env_Sym]) (W_run 14 ?_))
  by_cases h1 : k < 0
  · have h1' : decide (k < 0) = true := by simpa using h1
    simp -implicitDefEqProofs (disch := omega) only [go_sem, ↓reduceIte, reduceCtorEq, Nat.reduceEqDiff, Nat.zero_add, decide_true, value_Env_Sym, zq26_0, zq26_1, zq26_2, zq26_3, envV, symE, List.length_nil, List.nil_append, h1, true_or, and_true]
    iterate 9 (try (refine run_sem 4 ?_; simp -implicitDefEqProofs (disch := omega) only [go_sem, ↓reduceIte, reduceCtorEq, Nat.reduceEqDiff, Nat.zero_add, Nat.zero_le, List.length_nil, List.length_cons, and_true]))
  · have h1' : decide (k < 0) = false := by simpa using h1
    by_cases h2 : (S.length : Int) ≤ k
    · have h2' : decide ((S.length : Int) ≤ k) = true := by simpa using h2
      simp -implicitDefEqProofs (disch := omega) only [go_sem, ↓reduceIte, reduceCtorEq, Nat.reduceAdd, Nat.reduceEqDiff, Nat.reduceLeDiff, Nat.zero_add, Nat.add_zero, decide_false, value_Env_Sym, zq26_0, zq26_1, zq26_2, zq26_3, envV, symE, List.length_nil, List.length_cons, List.nil_append, h1, h2, or_true, true_implies, and_true]
      iterate 9 (try (refine run_sem 4 ?_; simp -implicitDefEqProofs (disch := omega) only [go_sem, ↓reduceIte, reduceCtorEq, Nat.reduceAdd, Nat.reduceEqDiff, Nat.zero_add, decide_true, Nat.zero_le, ge_iff_le, nints_length, List.length_nil, List.length_cons, h2, and_true]))
    · have h2' : decide ((S.length : Int) ≤ k) = false := by simpa using h2
      obtain ⟨x, hx⟩ : ∃ x, S[k.toNat]? = some x := ⟨_, List.getElem?_eq_getElem (by omega)⟩
      have hg := nints_get hx
      have hg2 : S.getD k.toNat 0 = x := by simp [List.getD_eq_getElem?_getD, hx]
      simp -implicitDefEqProofs (disch := omega) only [go_sem, ↓reduceIte, reduceCtorEq, Nat.reduceAdd, Nat.reduceEqDiff, Nat.reduceLeDiff, Nat.zero_add, Nat.add_zero, decide_false, value_Env_Sym, zq26_0, zq26_1, zq26_2, zq26_3, envV, symE, List.length_nil, List.length_cons, List.nil_append, h1, h2, hg2, or_self, true_implies, and_true]
      iterate 9 (try (refine run_sem 4 ?_; simp -implicitDefEqProofs (disch := omega) only [go_sem, need_of, ↓reduceIte, reduceCtorEq, Nat.reduceAdd, Nat.reduceEqDiff, Nat.reduceLeDiff, Nat.zero_add, Nat.add_zero, decide_false, Nat.le_refl, Nat.zero_le, ge_iff_le, nints_length, List.length_nil, List.length_cons, h2, hg, true_implies, and_true]))
end Go.Proofs.YtpdeoalocejodaaGreatDoor
/- What a cell is known to be. -/
namespace Go.Proofs.YtpdeoalocejodaaGreatDoor
open Go Go.Am
set_option maxRecDepth 100000
set_option maxHeartbeats 1000000
variable {P : Program} {G : Nat → Option V}
def TellsC (P : Program) (G : Nat → Option V) (base : Nat) (f : V) (o : List (Option Ob)) (p : Cl → Bool) : Prop :=
  ∀ t n, CV P G base f [n.v] ⟨t, o⟩ fun v σ => v = .bool (p n) ∧ ∃ t', t ≤ t' ∧ σ = ⟨t', o⟩
def fstC (p : Cl → Bool) : List Cl → Nat → Int
  | [], _ => -1
  | n :: c, i => if p n then i else fstC p c (i + 1)
theorem fstC_neg {p : Cl → Bool} : ∀ {c : List Cl} {i : Nat}, (∀ n ∈ c, p n = false) → fstC p c i = -1
  | [], _, _ => rfl
  | n :: c, i, h => by rw [fstC, h n (by simp), if_neg (by simp), fstC_neg fun m hm => h m (by simp [hm])]
theorem fstC_at {p : Cl → Bool} : ∀ {c : List Cl} {i k : Nat} {n : Cl}, (∀ m ∈ c.take k, p m = false) → c[k]? = some n → p n = true → fstC p c i = ((i + k : Nat) : Int)
  | [], _, _, _, _, h, _ => by simp at h
  | m :: c, i, 0, n, _, h, hp => by simp at h; subst h; simp [fstC, hp]
  | m :: c, i, k + 1, n, h, hk, hp => by
    rw [fstC, h m (by simp), if_neg (by simp), fstC_at (k := k) (fun m hm => h m (by simp [hm])) (by simpa using hk) hp]
    congr 1; omega
theorem cells_get {l : List Cl} {i : Nat} {x : Cl} (h : l[i]? = some x) : (l.map Cl.v).getD i .any = x.v := by simp [List.getD_eq_getElem?_getD, h]
theorem c_IndexC (hT : TabOk P tab) {base t : Nat} {o : List (Option Ob)} {f : V} {p : Cl → Bool} {c : List Cl} {z : Bool} (hp : TellsC P G base f o p) (hl : c.length ≤ 1000000) :
    C P G base n_slices_IndexFunc_value_Cell_value_Cell [.lst 4 (c.map Cl.v) z, f] ⟨t, o⟩ fun v σ => v = .int .i64 (fstC p c 0) ∧ ∃ t', t ≤ t' ∧ σ = ⟨t', o⟩ := by
  refine C_tab hT t_slices_IndexFunc_value_Cell_value_Cell (by simp [slices_IndexFunc_value_Cell_value_Cell]) (W_run 1000 ?_)
  simp -implicitDefEqProofs (disch := omega) only [go_sem, ↓reduceIte, reduceCtorEq, Nat.reduceEqDiff, Nat.zero_add, slices_IndexFunc_value_Cell_value_Cell, zq2n_0, zq2n_1, zq2n_2, zq2n_3, zq2n_4, zq2n_5, zq2n_6, zq2n_7, List.length_map]
  refine sem_invE (fun m fr σ => ∃ i t', i ≤ c.length ∧ m = c.length - i ∧ (∀ n ∈ c.take i, p n = false) ∧ t ≤ t' ∧ fget fr 0 = .lst 4 (c.map Cl.v) z ∧ fget fr 1 = f ∧ fget fr 7 = .int .i64 c.length ∧ fget fr 8 = .int .i64 i ∧ σ = ⟨t', o⟩)
    (fun e fr σ => ∃ t', t ≤ t' ∧ σ = ⟨t', o⟩ ∧ ((e = .ret ∧ fget fr 4 = .int .i64 (fstC p c 0)) ∨ (e = .ex 0 ∧ fstC p c 0 = -1)))
    (m0 := c.length) ⟨0, t, by omega, rfl, by simp, by omega, ?_⟩ (fun m fr σ hJ => ?_) (fun e fr σ hE => ?_)
  · simp -implicitDefEqProofs (disch := omega) only [go_sem, ↓reduceIte, reduceCtorEq, Nat.reduceEqDiff]
    simp
  · obtain ⟨i, t', hi, rfl, hno, ht, f0, f1, f7, f8, rfl⟩ := hJ
    refine W_run 1000 ?_
    rcases Nat.lt_or_ge i c.length with hlt | hge
    · obtain ⟨n, hni⟩ : ∃ n, c[i]? = some n := ⟨_, List.getElem?_eq_getElem hlt⟩
      have hD := cells_get hni
      have e2 := w_nx hlt (by omega)
      simp -implicitDefEqProofs (disch := omega) only [go_sem, need_of, ↓reduceIte, reduceCtorEq, Nat.reduceAdd, Nat.reduceEqDiff, Nat.succ_ne_zero, Nat.zero_add, decide_true, Nat.le_refl, List.length_map, f0, f1, f7, f8, hlt, hD, Cl.v, List.length_cons, List.length_nil, List.take_succ_cons, List.take_zero]
      refine CV.use 1000 (hp t' n) fun v σ hv => ?_
      obtain ⟨rfl, t2, ht2, rfl⟩ := hv
      cases hpn : p n with
      | true =>
        simp -implicitDefEqProofs (disch := omega) only [go_sem, ↓reduceIte, reduceCtorEq, Nat.reduceEqDiff]
        rw [fstC_at hno hni hpn]
        exact ⟨t2, by omega, rfl, by simp⟩
      | false =>
        simp -implicitDefEqProofs (disch := omega) only [go_sem, ↓reduceIte, Nat.reduceEqDiff, f8]
        refine ⟨c.length - (i + 1), _, _, by omega, Shift.refl _ _ _ _, i + 1, t2, by omega, rfl, fun m hm => ?_, by omega, ?_⟩
        · rw [take_snoc2 hni] at hm
          simp at hm
          rcases hm with hm | rfl
          · exact hno m hm
          · exact hpn
        · simp -implicitDefEqProofs (disch := omega) only [go_sem, ↓reduceIte, reduceCtorEq, Nat.reduceEqDiff, Nat.succ_ne_zero, f0, f1, f7, e2]
    · have hi : i = c.length := by omega
      subst hi
      simp -implicitDefEqProofs (disch := omega) only [go_sem, ↓reduceIte, reduceCtorEq, Nat.reduceEqDiff, decide_false, f7, f8, Nat.lt_irrefl]
      rw [List.take_length] at hno
      exact ⟨t', ht, rfl, fstC_neg hno⟩
  · obtain ⟨t', ht, rfl, hE⟩ := hE
    rcases hE with ⟨rfl, f4⟩ | ⟨rfl, hh⟩
    · refine run_sem 1000 ?_
      simp -implicitDefEqProofs (disch := omega) only [go_sem, f4]
      exact ⟨t', ht, rfl⟩
    · refine run_sem 1000 ?_
      simp -implicitDefEqProofs (disch := omega) only [go_sem, ↓reduceIte, hh]
      exact ⟨t', ht, rfl⟩
def isC (a w x : Int) (c : Cl) : Bool := decide (c.arr = a ∧ c.ver = w ∧ c.at' = x)
def eH (v0 v1 v2 v3 : Nat) (e : List V) (a w x : Int) : List (Option Ob) := [some (.arr v0 48 e), some (.arr v1 3 [.int .i64 a]), some (.arr v2 2 [.int .i64 w]), some (.arr v3 2 [.int .i64 x])]
theorem c_CellIs (hT : TabOk P tab) {v0 v1 v2 v3 t : Nat} {e : List V} {a w x : Int} (c : Cl) :
    C P G 0 n_value_Env_Cell_S1 [c.v, .ptr 1 v1 0, .ptr 2 v2 0, .ptr 3 v3 0] ⟨t, eH v0 v1 v2 v3 e a w x⟩ fun v σ => v = .bool (isC a w x c) ∧ ∃ t', t ≤ t' ∧ σ = ⟨t', eH v0 v1 v2 v3 e a w x⟩ := by
  refine C_keep 4 (Nat.zero_le _) (C_tab hT t_value_Env_Cell_S1 (by simp [value_Env_Cell_S1]) (W_run 14 ?_))
  by_cases h1 : c.arr = a
  · have h1' : decide (c.arr = a) = true := by simpa using h1
    by_cases h2 : c.ver = w
    · have h2' : decide (c.ver = w) = true := by simpa using h2
      simp -implicitDefEqProofs (disch := omega) only [go_sem, ↓reduceIte, reduceCtorEq, Nat.reduceAdd, Nat.reduceEqDiff, Nat.reduceLeDiff, Nat.zero_add, Nat.add_zero, Nat.le_refl, beq_self_eq_true, value_Env_Cell_S1, zq2o_0, zq2o_1, eH, Cl.v, isC, List.length_nil, List.length_cons, List.nil_append, List.cons_append, true_implies, true_and, and_self, h1, h2]
      iterate 9 (try (refine run_sem 4 ?_; simp -implicitDefEqProofs (disch := omega) only [go_sem, ↓reduceIte, reduceCtorEq, Nat.reduceAdd, Nat.reduceEqDiff, Nat.reduceLeDiff, Nat.zero_add, Nat.le_refl, beq_self_eq_true, List.length_nil, List.length_cons, true_implies, true_and, and_true, and_self]))
      exact ⟨rfl, t + 1, by omega, rfl⟩
    · have h2' : decide (c.ver = w) = false := by simpa using h2
      simp -implicitDefEqProofs (disch := omega) only [go_sem, ↓reduceIte, reduceCtorEq, Nat.reduceAdd, Nat.reduceEqDiff, Nat.reduceLeDiff, Nat.zero_add, Nat.add_zero, decide_false, Nat.le_refl, beq_self_eq_true, value_Env_Cell_S1, zq2o_0, zq2o_1, eH, Cl.v, isC, List.length_nil, List.length_cons, List.nil_append, List.cons_append, true_implies, false_and, and_false, and_self, h1, h2]
      iterate 9 (try (refine run_sem 4 ?_; simp -implicitDefEqProofs (disch := omega) only [go_sem, ↓reduceIte, reduceCtorEq, Nat.reduceAdd, Nat.reduceEqDiff, Nat.reduceLeDiff, Nat.zero_add, Nat.le_refl, List.length_nil, List.length_cons, not_false_eq_true, false_implies, true_implies, true_and, and_true, and_self, h2]))
      exact ⟨t + 1, by omega, rfl⟩
  · have h1' : decide (c.arr = a) = false := by simpa using h1
    simp -implicitDefEqProofs (disch := omega) only [go_sem, ↓reduceIte, reduceCtorEq, Nat.reduceAdd, Nat.reduceEqDiff, Nat.reduceLeDiff, Nat.zero_add, Nat.add_zero, decide_false, Nat.le_refl, value_Env_Cell_S1, zq2o_0, zq2o_1, eH, Cl.v, isC, List.length_nil, List.length_cons, List.nil_append, List.cons_append, not_false_eq_true, false_implies, true_implies, true_and, false_and, and_self, h1]
    iterate 9 (try (refine run_sem 4 ?_; simp -implicitDefEqProofs (disch := omega) only [go_sem, ↓reduceIte, reduceCtorEq, Nat.reduceAdd, Nat.reduceEqDiff, Nat.reduceLeDiff, Nat.zero_add, List.length_nil, List.length_cons, true_and, and_true]))
    exact ⟨t + 1, by omega, rfl⟩
end Go.Proofs.YtpdeoalocejodaaGreatDoor
/- What a cell is known to be: the program's Env.Cell. -/
namespace Go.Proofs.YtpdeoalocejodaaGreatDoor
open Go Go.Am
set_option maxRecDepth 100000
set_option maxHeartbeats 1000000
variable {P : Program} {G : Nat → Option V}
theorem fstC_lt {p : Cl → Bool} : ∀ {c : List Cl} {i : Nat}, fstC p c i = -1 ∨ ∃ k n, c[k]? = some n ∧ fstC p c i = ((i + k : Nat) : Int)
  | [], _ => .inl rfl
  | n :: c, i => by
    unfold fstC
    split
    · exact .inr ⟨0, n, rfl, rfl⟩
    · rcases fstC_lt (p := p) (c := c) (i := i + 1) with h | ⟨k, m, h1, h2⟩
      · exact .inl h
      · exact .inr ⟨k + 1, m, by simpa using h1, by rw [h2]; congr 1; omega⟩
def cellE (C : List Cl) (a w x : Int) : Int := if fstC (isC a w x) C 0 < 0 then 0 else ((C[(fstC (isC a w x) C 0).toNat]?).map Cl.n).getD 0
theorem c_Cell (hT : TabOk P tab) (S : List Int) (tS : Bool) (C' : List Cl) (hC : C'.length ≤ 1000000) (tC : Bool) (a w x : Int) : Pure P G n_value_Env_Cell [envV S tS 4 C' tC, .int .i64 a, .int .i64 w, .int .i64 x] fun v => v = .int .i64 (cellE C' a w x) := by
  intro t
  refine C_keep 0 (Nat.zero_le _) (C_tab hT t_value_Env_Cell (by simp [value_Env_Cell]) (W_run 1000 ?_))
  simp -implicitDefEqProofs (disch := omega) only [go_sem, ↓reduceIte, reduceCtorEq, Nat.reduceAdd, Nat.reduceEqDiff, Nat.zero_add, Nat.le_refl, value_Env_Cell, zq27_0, zq27_1, zq27_2, zq27_3, zq27_4, envV, List.length_nil, List.length_cons, List.nil_append, List.cons_append, true_implies, and_true]
  refine call hT t_slices_IndexFunc_value_Cell_value_Cell (c_IndexC (p := isC a w x) (o := eH t (t + 1) (t + 1 + 1) (t + 1 + 1 + 1) [.lst 1 (nints S) tS, .lst 4 (C'.map Cl.v) tC] a w x) hT (fun t' n => CV.of hT t_value_Env_Cell_S1 (c_CellIs hT n)) hC) 1000 fun v σ hv => ?_
  obtain ⟨rfl, t2, ht2, rfl⟩ := hv
  rcases fstC_lt (p := isC a w x) (c := C') (i := 0) with h | ⟨k, n, h1, h2⟩
  · have e : cellE C' a w x = 0 := by rw [cellE, h]; rfl
    rw [h, e]
    simp -implicitDefEqProofs (disch := omega) only [go_sem, ↓reduceIte, reduceCtorEq, Nat.reduceAdd, Nat.reduceEqDiff, Int.reduceLT, Nat.zero_add, decide_true, Nat.zero_le, eH, List.length_nil, List.length_cons, and_true]
  · have e : cellE C' a w x = n.n := by rw [cellE, h2, if_neg (by omega)]; simp [h1]
    have hD := cells_get h1
    have hlt := (List.getElem?_eq_some_iff.1 h1).1
    rw [h2, e]
    rw [Nat.zero_add]
    simp -implicitDefEqProofs (disch := omega) only [go_sem, need_of, ↓reduceIte, reduceCtorEq, Nat.reduceAdd, Nat.reduceEqDiff, Nat.zero_add, Nat.le_refl, Nat.zero_le, eH, List.length_map, List.length_nil, List.length_cons, true_implies, true_and, and_true, hD, hlt, Cl.v]
    intro hk
    omega
end Go.Proofs.YtpdeoalocejodaaGreatDoor
/- One term's value: the closure of the program's All. -/
namespace Go.Proofs.YtpdeoalocejodaaGreatDoor
open Go Go.Am
set_option maxRecDepth 100000
set_option maxHeartbeats 1000000
variable {P : Program} {G : Nat → Option V}
def kEs (K : List (Int × Int)) : List (V × V) := K.map fun p => (.int .i64 p.1, .int .i64 p.2)
def kAt (K : List (Int × Int)) (x : Int) : Option Int := (K.find? fun p => decide (x = p.1)).map (·.2)
theorem keyEq_int (x y : Int) : keyEq [.i] (.int .i64 x) (.int .i64 y) = decide (x = y) := by
  by_cases h : x = y
  · subst h
    simp [keyEq, beqL, V.cells, beqV]
  · simp [keyEq, beqL, V.cells, beqV, h]
theorem mget_kEs (K : List (Int × Int)) (x : Int) : mget [.i] (.int .i64 x) (kEs K) = (kAt K x).map (V.int .i64) := by
  induction K with
  | nil => rfl
  | cons p K ih =>
    simp only [mget, kEs, kAt, List.map_cons, List.find?_cons, keyEq_int] at ih ⊢
    by_cases h : x = p.1
    · simp [h]
    · simp only [h, decide_false]
      exact ih
theorem keyOk_int (x : Int) : keyOk false [.i] (.int .i64 x) := ⟨rfl, by simp [beqL, V.cells, beqV]⟩
theorem keysOk_kEs (K : List (Int × Int)) (x : Int) : keysOk false [.i] (.int .i64 x) (kEs K) := by
  refine ⟨keyOk_int x, fun p hp => ?_⟩
  obtain ⟨q, _, rfl⟩ := List.mem_map.1 hp
  exact ⟨rfl, by simp [beqL, V.cells, beqV]⟩
theorem ite_i64 {c : Prop} [Decidable c] {x y : Int} (h1 : i64 x) (h2 : i64 y) : i64 (if c then x else y) := by split <;> assumption
theorem doW_i64 {op a b : Int} (ha : i64 a) (hb : i64 b) : i64 (doW op a b) := by
  have one (c : Prop) [Decidable c] : i64 (if c then 1 else 0) := by unfold i64; split <;> omega
  have hr : i64 (remS a b) := by
    unfold remS
    split
    · exact ha
    · split
      · unfold i64; omega
      · have h1 := Int.natAbs_tmod a b
        have h2 : (a.tmod b).natAbs ≤ a.natAbs := by rw [h1]; exact Nat.mod_le _ _
        unfold i64 at *
        by_cases h : 0 ≤ a
        · have := Int.tmod_nonneg b h
          omega
        · have := Int.tmod_nonneg b (a := -a) (by omega)
          rw [Int.neg_tmod] at this
          omega
  have hs : i64 (a.fdiv (2 ^ min (andI .i64 b 63).toNat 64)) := by
    have hp : (0 : Int) < 2 ^ min (andI .i64 b 63).toNat 64 := Int.pow_pos (by omega)
    generalize (2 : Int) ^ min (andI .i64 b 63).toNat 64 = m at hp
    rw [Int.fdiv_eq_ediv_of_nonneg _ (by omega)]
    unfold i64 at *
    have h1 := Int.ediv_le_ediv hp (a := a) (b := 9223372036854775807) (by omega)
    have h2 := Int.ediv_le_ediv hp (a := -9223372036854775808) (b := a) (by omega)
    have h3 : (9223372036854775807 : Int) / m ≤ 9223372036854775807 := Int.ediv_le_self _ (by omega)
    have h4 : -9223372036854775808 ≤ (-9223372036854775808 : Int) / m := by
      rw [Int.le_ediv_iff_mul_le hp]
      omega
    omega
  have hdiv : i64 (divS a b) := ite_i64 (by unfold i64; omega) (ite_i64 (wrap_rg _) (wrap_rg _))
  have hdn : i64 (divN a b) := ite_i64 (by unfold i64; omega) (wrap_rg _)
  have hrn : i64 (remN a b) := ite_i64 ha (wrap_rg _)
  have hand : i64 (andI .i64 a b) := wrap_rg _
  have hor : i64 (orI .i64 a b) := wrap_rg _
  have hxor : i64 (xorI .i64 a b) := wrap_rg _
  exact ite_i64 (wrap_rg _) (ite_i64 (wrap_rg _) (ite_i64 (wrap_rg _) (ite_i64 hdiv (ite_i64 hr (ite_i64 hdn (ite_i64 hrn (ite_i64 hand (ite_i64 hor (ite_i64 hxor (ite_i64 (wrap_rg _) (ite_i64 (wrap_rg _) (ite_i64 hs (ite_i64 (one _) (ite_i64 (one _) (ite_i64 (one _) (by unfold i64; omega))))))))))))))))
end Go.Proofs.YtpdeoalocejodaaGreatDoor
/- One term's value: the closure of the program's All. -/
namespace Go.Proofs.YtpdeoalocejodaaGreatDoor
open Go Go.Am
set_option maxRecDepth 100000
set_option maxHeartbeats 1000000
variable {P : Program} {G : Nat → Option V}
def oneV (S : List Int) (C : List Cl) (K : List (Int × Int)) (d : Nd) : Int :=
  if d.kind = 1 then d.n else if d.kind = 2 then symE S d.n else if d.kind = 3 then cellE C d.a d.n ((kAt K d.y).getD 0) else doW d.op ((kAt K d.x).getD 0) ((kAt K d.y).getD 0)
def allH (ve vm vk : Nat) (S : List Int) (tS : Bool) (C : List Cl) (tC : Bool) (K : List (Int × Int)) : List (Option Ob) :=
  [some (.arr ve 48 [.lst 1 (nints S) tS, .lst 4 (C.map Cl.v) tC]), some (.map vm (kEs K)), some (.arr vk 109 [.mp 6 vm])]
theorem kGt_9 {fmt : Int → List UInt8} {v0 v1 v2 v3 v4 : Nat} {L : List Nd} {ex : List (Option Ob)} {x0 x1 x2 x3 : Option Ob} : (kG fmt v0 v1 v2 v3 v4 L ++ x0 :: x1 :: x2 :: x3 :: ex).take 9 = kG fmt v0 v1 v2 v3 v4 L ++ [x0, x1, x2, x3] := rfl
theorem getD_map (o : Option Int) : (o.map (V.int .i64)).getD (.int .i64 0) = .int .i64 (o.getD 0) := by cases o <;> rfl
theorem kAt_i64 {K : List (Int × Int)} (hK : ∀ p ∈ K, i64 p.2) (x : Int) : i64 ((kAt K x).getD 0) := by
  unfold kAt
  cases h : K.find? fun p => decide (x = p.1) with
  | none => simp [i64]
  | some p => simpa using hK p (List.mem_of_find?_eq_some h)
theorem c_One {b : Nat} (hb : b ≤ 9) (hT : TabOk P tab) {fmt : Int → List UInt8} {v0 v1 v2 v3 v4 ve vm vk t : Nat} {L : List Nd} {y8 : Option Ob} (S : List Int) (tS : Bool) (C' : List Cl) (hC : C'.length ≤ 1000000) (tC : Bool) (K : List (Int × Int)) (hK : ∀ p ∈ K, i64 p.2) (d : Nd) (hk : d.kind = 1 ∨ d.kind = 2 ∨ d.kind = 3 ∨ d.kind = 4) (ho : 0 ≤ d.op ∧ d.op ≤ 255) :
    C P G b n_value_All_S1 [.agg d.cells, .ptr 5 ve 0, .ptr 7 vk 0] ⟨t, kG fmt v0 v1 v2 v3 v4 L ++ (allH ve vm vk S tS C' tC K ++ [y8])⟩ fun v σ => v = .int .i64 (oneV S C' K d) ∧ ∃ t', t ≤ t' ∧ σ = ⟨t', kG fmt v0 v1 v2 v3 v4 L ++ (allH ve vm vk S tS C' tC K ++ [y8])⟩ := by
  refine C_keep 9 hb (C_tab hT t_value_All_S1 (by simp [value_All_S1]) (W_run 1000 ?_))
  rcases hk with k | k | k | k
  · have e : oneV S C' K d = d.n := by rw [oneV, if_pos k]
    rw [e]
    simp -implicitDefEqProofs (disch := omega) only [go_sem, ↓reduceIte, reduceCtorEq, Nat.reduceAdd, Nat.reduceEqDiff, Nat.reduceLeDiff, Nat.zero_add, Nat.add_zero, beq_self_eq_true, value_All_S1, zq25_0, zq25_1, zq25_2, zq25_3, zq25_4, zq25_5, zq25_6, zq25_7, zq25_8, Nd.cells, kG_len, kG_app, kG_9, kGt_9, allH, List.length_nil, List.length_cons, List.nil_append, List.cons_append, true_implies, true_and, and_true, k]
    exact ⟨t + 1, by omega, rfl⟩
  · have e : oneV S C' K d = symE S d.n := by rw [oneV, if_neg (by omega), if_pos k]
    rw [e]
    simp -implicitDefEqProofs (disch := omega) only [go_sem, ↓reduceIte, reduceCtorEq, Nat.reduceAdd, Nat.reduceEqDiff, Nat.reduceLeDiff, Nat.zero_add, Nat.add_zero, Nat.le_refl, beq_self_eq_true, value_All_S1, zq25_0, zq25_1, zq25_2, zq25_3, zq25_4, zq25_5, zq25_6, zq25_7, zq25_8, Nd.cells, kG_len, kG_app, kG_5, kG_9, allH, List.length_nil, List.length_cons, List.nil_append, List.cons_append, false_implies, true_implies, and_true, k, Int.reduceBEq]
    refine callPS hT t_value_Env_Sym (c_Sym hT S tS 4 C' tC d.n) (by simp [namelessL, nameless]) 1000 ?_
    simp -implicitDefEqProofs (disch := omega) only [go_sem, ↓reduceIte, reduceCtorEq, Nat.reduceAdd, Nat.reduceEqDiff, Nat.reduceLeDiff, Nat.zero_add, kG_len, kGt_9, List.length_nil, List.length_cons, true_and, and_true]
    exact ⟨t + 1, by omega, rfl⟩
  · have e : oneV S C' K d = cellE C' d.a d.n ((kAt K d.y).getD 0) := by rw [oneV, if_neg (by omega), if_neg (by omega), if_pos k]
    rw [e]
    simp -implicitDefEqProofs (disch := omega) only [go_sem, ↓reduceIte, reduceCtorEq, Nat.reduceAdd, Nat.reduceEqDiff, Nat.reduceLeDiff, Nat.zero_add, Nat.add_zero, Nat.le_refl, beq_self_eq_true, value_All_S1, zq25_0, zq25_1, zq25_2, zq25_3, zq25_4, zq25_5, zq25_6, zq25_7, zq25_8, Nd.cells, kG_len, kG_app, kG_5, kG_6, kG_7, kG_9, allH, mget_kEs, keysOk_kEs, getD_map, List.length_nil, List.length_cons, List.nil_append, List.cons_append, false_implies, true_implies, and_true, k, Int.reduceBEq]
    refine callPS hT t_value_Env_Cell (c_Cell hT S tS C' hC tC d.a d.n _) (by simp [namelessL, nameless]) 1000 ?_
    simp -implicitDefEqProofs (disch := omega) only [go_sem, ↓reduceIte, reduceCtorEq, Nat.reduceAdd, Nat.reduceEqDiff, Nat.reduceLeDiff, Nat.zero_add, kG_len, kGt_9, List.length_nil, List.length_cons, true_and, and_true]
    exact ⟨t + 1, by omega, rfl⟩
  · have e : oneV S C' K d = doW d.op ((kAt K d.x).getD 0) ((kAt K d.y).getD 0) := by rw [oneV, if_neg (by omega), if_neg (by omega), if_neg (by omega)]
    rw [e]
    simp -implicitDefEqProofs (disch := omega) only [go_sem, ↓reduceIte, reduceCtorEq, Nat.reduceAdd, Nat.reduceEqDiff, Nat.reduceLeDiff, Nat.zero_add, Nat.add_zero, Nat.le_refl, value_All_S1, zq25_0, zq25_1, zq25_2, zq25_3, zq25_4, zq25_5, zq25_6, zq25_7, zq25_8, Nd.cells, kG_len, kG_app, kG_6, kG_7, kG_9, allH, mget_kEs, keysOk_kEs, getD_map, List.length_nil, List.length_cons, List.nil_append, List.cons_append, true_implies, and_true, k, Int.reduceBEq]
    refine callPS hT t_word_Do (c_Do hT ho.1 ho.2 (kAt_i64 hK _) (kAt_i64 hK _)) rfl 1000 ?_
    simp -implicitDefEqProofs (disch := omega) only [go_sem, ↓reduceIte, reduceCtorEq, Nat.reduceAdd, Nat.reduceEqDiff, Nat.reduceLeDiff, Nat.zero_add, kG_len, kGt_9, List.length_nil, List.length_cons, true_and, and_true]
    exact ⟨t + 1, by omega, rfl⟩
end Go.Proofs.YtpdeoalocejodaaGreatDoor
/- The values of terms: the loop of the program's All. -/
namespace Go.Proofs.YtpdeoalocejodaaGreatDoor
open Go Go.Am
set_option maxRecDepth 100000
set_option maxHeartbeats 1000000
variable {P : Program} {G : Nat → Option V}
def knows (S : List Int) (C : List Cl) (L : List Nd) (U : List Int) : List (Int × Int) := U.foldl (fun K x => K ++ [(x, oneV S C K (nd L x))]) []
theorem knows_snoc {S : List Int} {C : List Cl} {L : List Nd} {U : List Int} {x : Int} : knows S C L (U ++ [x]) = knows S C L U ++ [(x, oneV S C (knows S C L U) (nd L x))] := by simp [knows]
theorem foldl_keys (S : List Int) (C : List Cl) (L : List Nd) : ∀ (U : List Int) (K : List (Int × Int)), (U.foldl (fun K x => K ++ [(x, oneV S C K (nd L x))]) K).map (·.1) = K.map (·.1) ++ U
  | [], K => by simp
  | x :: U, K => by rw [List.foldl_cons, foldl_keys S C L U]; simp
theorem knows_keys (S : List Int) (C : List Cl) (L : List Nd) (U : List Int) : (knows S C L U).map (·.1) = U := by
  rw [knows, foldl_keys]; simp
theorem mput_kEs {K : List (Int × Int)} {x v : Int} (h : x ∉ K.map (·.1)) : mput [.i] (.int .i64 x) (.int .i64 v) (kEs K) = kEs (K ++ [(x, v)]) := by
  induction K with
  | nil => rfl
  | cons p K ih =>
    simp only [List.map_cons, List.mem_cons, not_or] at h
    simp only [kEs, List.map_cons, List.cons_append, mput, keyEq_int] at ih ⊢
    rw [decide_eq_false h.1]
    simp only [Bool.false_eq_true, if_false]
    rw [ih h.2]
theorem oneV_i64 {S : List Int} {C : List Cl} {K : List (Int × Int)} {d : Nd} (hS : ∀ x ∈ S, i64 x) (hC : ∀ c ∈ C, i64 c.n) (hK : ∀ p ∈ K, i64 p.2) (hd : i64 d.n) : i64 (oneV S C K d) := by
  refine ite_i64 hd (ite_i64 ?_ (ite_i64 ?_ (doW_i64 (kAt_i64 hK _) (kAt_i64 hK _))))
  · unfold symE
    refine ite_i64 (by unfold i64; omega) ?_
    rw [List.getD_eq_getElem?_getD]
    cases h : S[d.n.toNat]? with
    | none => simp [i64]
    | some x => exact hS x (List.mem_of_getElem? h)
  · unfold cellE
    refine ite_i64 (by unfold i64; omega) ?_
    cases h : C[(fstC (isC d.a d.n ((kAt K d.y).getD 0)) C 0).toNat]? with
    | none => simp [i64]
    | some c => exact hC c (List.mem_of_getElem? h)
theorem knows_i64 {S : List Int} {C : List Cl} {L : List Nd} (hS : ∀ x ∈ S, i64 x) (hC : ∀ c ∈ C, i64 c.n) (hL : ∀ x, i64 (nd L x).n) : ∀ (U : List Int) (K : List (Int × Int)), (∀ p ∈ K, i64 p.2) → ∀ p ∈ U.foldl (fun K x => K ++ [(x, oneV S C K (nd L x))]) K, i64 p.2
  | [], K, hK => hK
  | x :: U, K, hK => by
    rw [List.foldl_cons]
    refine knows_i64 hS hC hL U _ fun p hp => ?_
    rcases List.mem_append.1 hp with h | h
    · exact hK p h
    · rw [List.mem_singleton.1 h]
      exact oneV_i64 hS hC hK (hL x)
end Go.Proofs.YtpdeoalocejodaaGreatDoor
/- The values of terms: a round of the first loop of the program's All. -/
namespace Go.Proofs.YtpdeoalocejodaaGreatDoor
open Go Go.Am
set_option maxRecDepth 100000
set_option maxHeartbeats 1000000
variable {P : Program} {G : Nat → Option V}
abbrev alJ (fmt : Int → List UInt8) (v0 v1 v2 v3 v4 ve vm vk t0 z : Nat) (L : List Nd) (S : List Int) (tS : Bool) (C' : List Cl) (tC : Bool) (ids : List Int) (tr : Bool) (U : List Int) : Nat → Fr → H → Prop := fun i fr σ => ∃ t', t0 ≤ t' ∧ fget fr 0 = .ptr 1 v0 0 ∧ fget fr 2 = .lst z (nints ids) tr ∧ fget fr 8 = .ptr 7 vk 0 ∧ fget fr 9 = .fn (.func n_value_All_S1) [] [.ptr 5 ve 0, .ptr 7 vk 0] ∧ fget fr 23 = .lst 1 (nints U) false ∧ fget fr 24 = .int .i64 U.length ∧ fget fr 25 = .int .i64 ((i : Nat) : Int) ∧ σ = ⟨t', kG fmt v0 v1 v2 v3 v4 L ++ allH ve vm vk S tS C' tC (knows S C' L (U.take i))⟩
abbrev alE (fmt : Int → List UInt8) (v0 v1 v2 v3 v4 ve vm vk t0 z : Nat) (L : List Nd) (S : List Int) (tS : Bool) (C' : List Cl) (tC : Bool) (ids : List Int) (tr : Bool) (U : List Int) : AE → Fr → H → Prop := fun e fr σ => e = .ex 0 ∧ ∃ t', t0 ≤ t' ∧ fget fr 2 = .lst z (nints ids) tr ∧ fget fr 8 = .ptr 7 vk 0 ∧ σ = ⟨t', kG fmt v0 v1 v2 v3 v4 L ++ allH ve vm vk S tS C' tC (knows S C' L U)⟩
def fit (L : List Nd) : Prop := ∀ x : Int, 0 ≤ x → x < L.length → ((nd L x).kind = 1 ∨ (nd L x).kind = 2 ∨ (nd L x).kind = 3 ∨ (nd L x).kind = 4) ∧ (0 ≤ (nd L x).op ∧ (nd L x).op ≤ 255)
theorem all_round (hT : TabOk P tab) {fmt : Int → List UInt8} {v0 v1 v2 v3 v4 ve vm vk t0 i z : Nat} {L : List Nd} (hfit : fit L) (hLn : ∀ x, i64 (nd L x).n) {S : List Int} {tS tC tr : Bool} {C' : List Cl} (hS : ∀ x ∈ S, i64 x) (hC : C'.length ≤ 1000000) (hCn : ∀ c ∈ C', i64 c.n) {ids U : List Int} (hU : ∀ x ∈ U, 0 ≤ x ∧ x < L.length) (hUn : U.Nodup) (hUl : U.length ≤ 1000000) {x : Int} (hx : U[i]? = some x) {fr : Fr} {σ : H} (hJ : alJ fmt v0 v1 v2 v3 v4 ve vm vk t0 z L S tS C' tC ids tr U i fr σ) :
    W P G 65 5 (AC.seq (AC.reg zq16_4 [])   (AC.seq (AC.cond (Arg.t 26)   AC.skip   (AC.exit 0))   (AC.seq (AC.block 1 (AC.seq (AC.reg zq16_5 [27, 28])   (AC.seq (AC.reg zq16_6 [30, 31, 32, 29, 33, 34, 13])   (AC.reg zq16_7 [35, 36, 37, 38, 39]))))   (AC.reg zq16_8 [40])))) fr σ (seqQ (fun fr σ => ∃ fr' σ', Shift G 65 5 fr σ fr' σ' ∧ alJ fmt v0 v1 v2 v3 v4 ve vm vk t0 z L S tS C' tC ids tr U (i + 1) fr' σ') (alE fmt v0 v1 v2 v3 v4 ve vm vk t0 z L S tS C' tC ids tr U)) := by
  obtain ⟨t', ht, f0, f2, f8, f9, f23, f24, f25, rfl⟩ := hJ
  have hlt := (List.getElem?_eq_some_iff.1 hx).1
  have hD := nints_get hx
  have e2 := w_nx hlt (by omega)
  obtain ⟨h0, h1⟩ := hU x (List.mem_of_getElem? hx)
  have hN := fun t ex => k_Node (P := P) (G := G) hT (base := 5) (fmt := fmt) (v0 := v0) (v1 := v1) (v2 := v2) (v3 := v3) (v4 := v4) (t := t) (L := L) (ex := ex) (id := x)
  have hts := take_snoc2 hx
  have s1 : knows S C' L (U.take (i + 1)) = knows S C' L (U.take i) ++ [(x, oneV S C' (knows S C' L (U.take i)) (nd L x))] := by rw [hts, knows_snoc]
  have hK : ∀ p ∈ knows S C' L (U.take i), i64 p.2 := knows_i64 hS hCn hLn _ [] (by simp)
  have hnot : x ∉ (knows S C' L (U.take i)).map (·.1) := by
    rw [knows_keys]
    have h2 := hUn.sublist (List.take_sublist (i + 1) U)
    rw [hts] at h2
    intro hm
    exact (List.nodup_append.1 h2).2.2 x hm x (by simp) rfl
  have hone := fun t y => c_One (P := P) (G := G) (Nat.le_refl 9) hT (fmt := fmt) (v0 := v0) (v1 := v1) (v2 := v2) (v3 := v3) (v4 := v4) (ve := ve) (vm := vm) (vk := vk) (t := t) (L := L) (y8 := y) S tS C' hC tC (knows S C' L (U.take i)) hK (nd L x) (hfit x h0 h1).1 (hfit x h0 h1).2
  have hadd := mput_kEs (v := oneV S C' (knows S C' L (U.take i)) (nd L x)) hnot
  generalize hs2 : knows S C' L (U.take (i + 1)) = K2 at *
  generalize knows S C' L (U.take i) = K at *
  simp only [if_pos (show 0 ≤ x ∧ x < L.length from ⟨h0, h1⟩)] at hN
  simp only [show L.getD x.toNat zeroNd = nd L x from rfl] at hN
  generalize oneV S C' K (nd L x) = r at *
  generalize nd L x = d at *
  simp only [Nd.cells] at hN hone
  refine W_round [(0, .ptr 1 v0 0), (2, .lst z (nints ids) tr), (8, .ptr 7 vk 0), (9, .fn (.func n_value_All_S1) [] [.ptr 5 ve 0, .ptr 7 vk 0]), (23, .lst 1 (nints U) false), (24, .int .i64 U.length), (25, .int .i64 ((i : Nat) : Int))] ⟨f0, f2, f8, f9, f23, f24, f25, trivial⟩  1000 ?_
  simp -implicitDefEqProofs (disch := omega) only [go_sem, need_of, ↓reduceIte, reduceCtorEq, Nat.reduceEqDiff, Nat.zero_add, decide_true, Nat.le_refl, zq16_4, zq16_5, zq16_6, zq16_7, zq16_8, nints_length, allH, List.length_nil, List.length_cons, true_implies, and_true, hlt, hD]
  refine call hT t_term_Graph_Node (hN _ _) 1000 fun u σ hu => ?_
  obtain ⟨rfl, t2, ht2, rfl⟩ := hu
  simp -implicitDefEqProofs (disch := omega) only [go_sem, ↓reduceIte, reduceCtorEq, Nat.reduceAdd, Nat.reduceEqDiff, Nat.reduceLeDiff, Nat.reduceLT, Nat.zero_add, Bool.not_false, Nat.le_refl, kG_len, kG_app, kG_7, kG_8, kGs_8, List.length_nil, List.length_cons, List.nil_append, List.cons_append, false_implies, true_implies, and_true]
  have hsub : ∀ (K : List (Int × Int)) (y : Option Ob), subObs (kG fmt v0 v1 v2 v3 v4 L ++ allH ve vm vk S tS C' tC K) (kG fmt v0 v1 v2 v3 v4 L ++ [some (.arr ve 48 [.lst 1 (nints S) tS, .lst 4 (C'.map Cl.v) tC]), some (.map vm (kEs K)), some (.arr vk 109 [.mp 6 vm]), y]) := fun K y => by
    have := subObs_take 8 (kG fmt v0 v1 v2 v3 v4 L ++ [some (.arr ve 48 [.lst 1 (nints S) tS, .lst 4 (C'.map Cl.v) tC]), some (.map vm (kEs K)), some (.arr vk 109 [.mp 6 vm]), y])
    exact this
  refine CV.use 1000 (CV.of hT t_value_All_S1 (hone _ _)) fun u σ hu => ?_
  obtain ⟨rfl, t3, ht3, rfl⟩ := hu
  simp -implicitDefEqProofs (disch := omega) only [go_sem, ↓reduceIte, reduceCtorEq, Nat.reduceEqDiff, Nat.reduceLeDiff, Bool.not_false, kG_6, kGs_6, keysOk_kEs, allH, List.nil_append, List.cons_append, and_true, hadd, e2]
  refine ⟨_, _, Shift.drop (o' := kG fmt v0 v1 v2 v3 v4 L ++ allH ve vm vk S tS C' tC (K ++ [(x, r)])) (t' := t3) (hsub _ _) (Nat.le_refl _) (by simp [kG, allH]), t3, by omega, ?_⟩
  simp -implicitDefEqProofs (disch := omega) only [go_sem, ↓reduceIte, reduceCtorEq, Nat.reduceEqDiff, hs2, s1]
end Go.Proofs.YtpdeoalocejodaaGreatDoor
/- The values of terms: what is asked of the terms. -/
namespace Go.Proofs.YtpdeoalocejodaaGreatDoor
open Go Go.Am
set_option maxRecDepth 100000
set_option maxHeartbeats 1000000
variable {P : Program} {G : Nat → Option V}
theorem fit_ok {L : List Nd} (hok : okN L) : fit L := by
  intro x h0 h1
  obtain ⟨d, hd⟩ : ∃ d, L[x.toNat]? = some d := ⟨_, List.getElem?_eq_getElem (by omega)⟩
  have e : nd L x = d := by simp [nd, List.getD_eq_getElem?_getD, hd]
  rw [e]
  obtain ⟨hp, h2, hk⟩ := may_parts (hok _ d hd).2.2
  exact ⟨hk, by omega, by omega⟩
theorem nd_i64 {L : List Nd} (hok : okN L) (x : Int) : i64 (nd L x).n := by
  unfold nd
  rw [List.getD_eq_getElem?_getD]
  cases h : L[x.toNat]? with
  | none => simp [i64, zeroNd]
  | some d => exact (hok _ d h).1
end Go.Proofs.YtpdeoalocejodaaGreatDoor
/- The values of terms: a round of the second loop of the program's All. -/
namespace Go.Proofs.YtpdeoalocejodaaGreatDoor
open Go Go.Am
set_option maxRecDepth 100000
set_option maxHeartbeats 1000000
variable {P : Program} {G : Nat → Option V}
def outs (K : List (Int × Int)) (ids : List Int) (i n : Nat) : List V := nints ((ids.take i).map fun x => (kAt K x).getD 0) ++ List.replicate (n - i) (.int .i64 0)
theorem outs_length {K : List (Int × Int)} {ids : List Int} {i n : Nat} (h : i ≤ n) (h2 : ids.length = n) : (outs K ids i n).length = n := by simp [outs, nints]; omega
theorem outs_set {K : List (Int × Int)} {ids : List Int} {i n : Nat} {x y : Int} (hx : ids[i]? = some x) (hn : ids.length = n) (hk : kAt K x = some y) : (outs K ids i n).set i (.int .i64 y) = outs K ids (i + 1) n := by
  have hlt := (List.getElem?_eq_some_iff.1 hx).1
  have h1 : (nints ((ids.take i).map fun x => (kAt K x).getD 0)).length = i := by simp [nints]; omega
  have h2 : n - i = (n - (i + 1)) + 1 := by omega
  rw [outs, outs, take_snoc2 hx, List.set_append, if_neg (by omega), h1, Nat.sub_self, h2, List.replicate_succ, List.set_cons_zero]
  simp [nints, hk]
end Go.Proofs.YtpdeoalocejodaaGreatDoor
/- The values of terms: a round of the second loop of the program's All. -/
namespace Go.Proofs.YtpdeoalocejodaaGreatDoor
open Go Go.Am
set_option maxRecDepth 100000
set_option maxHeartbeats 1000000
variable {P : Program} {G : Nat → Option V}
abbrev ouJ (fmt : Int → List UInt8) (v0 v1 v2 v3 v4 ve vm vk vo t : Nat) (L : List Nd) (S : List Int) (tS : Bool) (C' : List Cl) (tC : Bool) (K : List (Int × Int)) (ids : List Int) (tr : Bool) : Nat → Fr → H → Prop := fun i fr σ => (∀ x ∈ ids.take i, (kAt K x).isSome = true) ∧ fget fr 8 = .ptr 7 vk 0 ∧ fget fr 14 = .sl 8 vo 0 1 ids.length none ∧ fget fr 44 = .lst 1 (nints ids) tr ∧ fget fr 45 = .int .i64 ids.length ∧ fget fr 46 = .int .i64 ((i : Nat) : Int) ∧ σ = ⟨t, kG fmt v0 v1 v2 v3 v4 L ++ (allH ve vm vk S tS C' tC K ++ [some (.arr vo 2 (outs K ids i ids.length))])⟩
abbrev ouE (fmt : Int → List UInt8) (v0 v1 v2 v3 v4 ve vm vk vo t : Nat) (L : List Nd) (S : List Int) (tS : Bool) (C' : List Cl) (tC : Bool) (K : List (Int × Int)) (ids : List Int) : AE → Fr → H → Prop := fun e fr σ => (e = .ret ∧ (∃ x ∈ ids, kAt K x = none) ∧ fget fr 6 = .lst 0 [] true ∧ fget fr 7 = .bool false ∧ ∃ i, σ = ⟨t, kG fmt v0 v1 v2 v3 v4 L ++ (allH ve vm vk S tS C' tC K ++ [some (.arr vo 2 (outs K ids i ids.length))])⟩) ∨ (e = .ex 2 ∧ (∀ x ∈ ids, (kAt K x).isSome = true) ∧ fget fr 14 = .sl 8 vo 0 1 ids.length none ∧ σ = ⟨t, kG fmt v0 v1 v2 v3 v4 L ++ (allH ve vm vk S tS C' tC K ++ [some (.arr vo 2 (outs K ids ids.length ids.length))])⟩)
theorem out_round {fmt : Int → List UInt8} {v0 v1 v2 v3 v4 ve vm vk vo t i : Nat} {L : List Nd} {S : List Int} {tS tC tr : Bool} {C' : List Cl} {K : List (Int × Int)} {ids : List Int} (hl : ids.length ≤ 1000000) {x : Int} (hx : ids[i]? = some x) {fr : Fr} {σ : H} (hJ : ouJ fmt v0 v1 v2 v3 v4 ve vm vk vo t L S tS C' tC K ids tr i fr σ) :
    W P G 65 5 (AC.seq (AC.reg zq16_11 [])   (AC.seq (AC.cond (Arg.t 47)   AC.skip   (AC.exit 2))   (AC.seq (AC.block 3 (AC.seq (AC.reg zq16_12 [48, 49, 50])   (AC.seq (AC.reg zq16_13 [52, 53, 54, 51, 55, 56])   (AC.seq (AC.seq (AC.reg zq16_14 [57])   (AC.cond (Arg.t 58)   (AC.seq (AC.reg zq16_15 [])   AC.ret)   AC.skip))   (AC.reg zq16_16 [59, 60, 61, 62])))))   (AC.reg zq16_17 [63])))) fr σ (seqQ (fun fr σ => ∃ fr' σ', Shift G 65 5 fr σ fr' σ' ∧ ouJ fmt v0 v1 v2 v3 v4 ve vm vk vo t L S tS C' tC K ids tr (i + 1) fr' σ') (ouE fmt v0 v1 v2 v3 v4 ve vm vk vo t L S tS C' tC K ids)) := by
  obtain ⟨hall, f8, f14, f44, f45, f46, rfl⟩ := hJ
  have hlt := (List.getElem?_eq_some_iff.1 hx).1
  have hD := nints_get hx
  have e2 := w_nx hlt (by omega)
  have hol : (outs K ids i ids.length).length = ids.length := outs_length (by omega) rfl
  cases hk : kAt K x with
  | none =>
    refine W_round [(8, .ptr 7 vk 0), (14, .sl 8 vo 0 1 ids.length none), (44, .lst 1 (nints ids) tr), (45, .int .i64 ids.length), (46, .int .i64 ((i : Nat) : Int))] ⟨f8, f14, f44, f45, f46, trivial⟩  1000 ?_
    simp -implicitDefEqProofs (disch := omega) only [go_sem, need_of, ↓reduceIte, Nat.reduceAdd, Nat.reduceEqDiff, Nat.reduceLT, Nat.zero_add, decide_true, Bool.not_false, Nat.le_refl, Option.isSome_none, Option.getD_none, zq16_11, zq16_12, zq16_13, zq16_14, zq16_15, zq16_16, zq16_17, kG_6, kG_7, allH, nints_length, mget_kEs, keysOk_kEs, List.length_nil, List.length_cons, List.nil_append, List.cons_append, true_implies, and_true, hlt, hD, hk, Option.map_none, Option.isSome_none]
    exact .inl ⟨rfl, ⟨x, List.mem_of_getElem? hx, hk⟩, by simp -implicitDefEqProofs (disch := omega) only [go_sem, ↓reduceIte, Nat.reduceEqDiff], by simp -implicitDefEqProofs (disch := omega) only [go_sem, ↓reduceIte, Nat.reduceEqDiff], i, rfl⟩
  | some y =>
    have hs := outs_set hx rfl hk
    rw [List.set_eq_take_append_cons_drop, if_pos (by omega)] at hs
    have hs' : List.take i (outs K ids i ids.length) ++ [V.int .i64 y] ++ List.drop (i + 1) (outs K ids i ids.length) = outs K ids (i + 1) ids.length := by rw [List.append_assoc]; exact hs
    refine W_round [(8, .ptr 7 vk 0), (14, .sl 8 vo 0 1 ids.length none), (44, .lst 1 (nints ids) tr), (45, .int .i64 ids.length), (46, .int .i64 ((i : Nat) : Int))] ⟨f8, f14, f44, f45, f46, trivial⟩  1000 ?_
    simp -implicitDefEqProofs (disch := omega) only [go_sem, need_of, ↓reduceIte, Nat.reduceAdd, Nat.reduceEqDiff, Nat.reduceLeDiff, Nat.reduceLT, Nat.zero_add, Nat.mul_one, decide_true, Bool.not_true, Bool.not_false, Nat.le_refl, Option.isSome_some, Option.getD_some, zq16_11, zq16_12, zq16_13, zq16_14, zq16_15, zq16_16, zq16_17, kG_6, kG_7, kG_8, kGs_8, allH, nints_length, mget_kEs, keysOk_kEs, List.length_nil, List.length_cons, List.nil_append, List.cons_append, true_implies, true_and, and_true, hlt, hD, e2, hk, Option.map_some, Option.isSome_some, hol]
    refine ⟨_, _, Shift.refl _ _ _ _, fun w hw => ?_, ?_⟩
    · rw [take_snoc2 hx] at hw
      rcases List.mem_append.1 hw with h | h
      · exact hall w h
      · rw [List.mem_singleton.1 h, hk]; rfl
    · simp -implicitDefEqProofs (disch := omega) only [go_sem, ↓reduceIte, Nat.reduceEqDiff, allH, List.nil_append, List.cons_append, and_true, hs']
end Go.Proofs.YtpdeoalocejodaaGreatDoor
/- The values of terms: the program's All. -/
namespace Go.Proofs.YtpdeoalocejodaaGreatDoor
open Go Go.Am
set_option maxRecDepth 100000
set_option maxHeartbeats 1000000
variable {P : Program} {G : Nat → Option V}
def kEx (t : Nat) (o : List (Option Ob)) (σ : H) : Prop := ∃ t' ex, t ≤ t' ∧ σ = ⟨t', o ++ ex⟩
theorem mapnil1 : (Value.map none).oneCell' = true := rfl
theorem c_All0 (hT : TabOk P tab) (SO : SortOk P) {fmt : Int → List UInt8} {v0 v1 v2 v3 v4 t : Nat} {L : List Nd} (hL : L.length ≤ 1000000) (hok : okN L) (S : List Int) (hS : ∀ x ∈ S, i64 x) (tS : Bool) (C' : List Cl) (hC : C'.length ≤ 1000000) (hCn : ∀ c ∈ C', i64 c.n) (tC : Bool) (ids : List Int) (tr : Bool) (hil : ids.length ≤ 1000000) :
    C P G 5 n_value_All [.ptr 1 v0 0, envV S tS 4 C' tC, .lst 1 (nints ids) tr] ⟨t, kG fmt v0 v1 v2 v3 v4 L⟩ fun v σ => (v = .tup [.lst 0 [] true, .bool false] ∧ (∃ x ∈ ids, kAt (knows S C' L (usesL L ids)) x = none) ∧ kEx t (kG fmt v0 v1 v2 v3 v4 L) σ) ∨ (∃ vo t' ve vm vk, t ≤ t' ∧ v = .tup [.sl 8 vo 0 1 ids.length none, .bool true] ∧ (∀ x ∈ ids, (kAt (knows S C' L (usesL L ids)) x).isSome = true) ∧ σ = ⟨t', kG fmt v0 v1 v2 v3 v4 L ++ (allH ve vm vk S tS C' tC (knows S C' L (usesL L ids)) ++ [some (.arr vo 2 (outs (knows S C' L (usesL L ids)) ids ids.length ids.length))])⟩) := by
  refine C_tab hT t_value_All (by simp [value_All]) (W_run 1000 ?_)
  simp -implicitDefEqProofs (disch := omega) only [go_sem, ↓reduceIte, reduceCtorEq, Nat.reduceAdd, Nat.reduceEqDiff, Nat.reduceLeDiff, Nat.zero_add, Bool.not_false, Nat.le_refl, value_All, zq16_0, zq16_1, zq16_2, zq16_3, zq16_4, zq16_5, zq16_6, zq16_7, zq16_8, zq16_9, zq16_10, zq16_11, zq16_12, zq16_13, zq16_14, zq16_15, zq16_16, zq16_17, zq16_18, envV, mapnil1, kG_len, kG_app, kG_7, kGs_7, allH, List.length_nil, List.length_cons, List.nil_append, List.cons_append, and_true]
  have hU := fun t ex => k_Uses (P := P) (G := G) hT SO (base := 5) (fmt := fmt) (v0 := v0) (v1 := v1) (v2 := v2) (v3 := v3) (v4 := v4) (t := t) (L := L) (ex := ex) hL hok.wf ids 1 tr (.inl rfl) (by omega)
  have hUb : ∀ x ∈ usesL L ids, 0 ≤ x ∧ x < L.length := uses_ok
  have hUn : (usesL L ids).Nodup := uses_nodup
  have hUl : (usesL L ids).length ≤ 1000000 := by have := nodup_len L.length (usesL L ids) uses_nodup uses_ok; omega
  generalize usesL L ids = U at *
  refine call hT t_term_Graph_Uses (hU _ _) 1000 fun v σ hv => ?_
  obtain ⟨rfl, t1, ht1, rfl⟩ := hv
  simp -implicitDefEqProofs (disch := omega) only [go_sem, ↓reduceIte, reduceCtorEq, Nat.reduceEqDiff, List.length_map]
  refine sem_for U (alJ fmt v0 v1 v2 v3 v4 t (t + 1) (t + 1 + 1) t1 1 L S tS C' tC ids tr U) (alE fmt v0 v1 v2 v3 v4 t (t + 1) (t + 1 + 1) t1 1 L S tS C' tC ids tr U) ⟨t1, Nat.le_refl _, ?_⟩ (fun i x hx fr σ hJ => all_round hT (fit_ok hok) (nd_i64 hok) hS hC hCn hUb hUn hUl hx hJ) (fun i hi fr σ hJ => ?_) (fun e fr σ hE => ?_)
  · simp -implicitDefEqProofs (disch := omega) only [go_sem, ↓reduceIte, reduceCtorEq, Nat.reduceEqDiff, allH, true_and]
    exact ⟨rfl, rfl, rfl, rfl⟩
  · obtain ⟨t2, ht2, f0, f2, f8, f9, f23, f24, f25, rfl⟩ := hJ
    refine W_run 1000 ?_
    simp -implicitDefEqProofs (disch := omega) only [go_sem, ↓reduceIte, decide_false, allH, f24, f25, hi, Nat.lt_irrefl, List.take_length]
    exact ⟨rfl, t2, ht2, by simp -implicitDefEqProofs (disch := omega) only [go_sem, ↓reduceIte, Nat.reduceEqDiff, f2], by simp -implicitDefEqProofs (disch := omega) only [go_sem, ↓reduceIte, Nat.reduceEqDiff, f8], rfl⟩
  · obtain ⟨rfl, t2, ht2, f2, f8, rfl⟩ := hE
    refine sem_exit [(2, .lst 1 (nints ids) tr), (8, .ptr 7 (t + 1 + 1) 0)] ⟨f2, f8, trivial⟩ 1000 ?_
    simp -implicitDefEqProofs (disch := omega) only [go_sem, need_of, ↓reduceIte, Nat.reduceAdd, Nat.reduceEqDiff, Nat.zero_add, Nat.le_refl, kG_len, kG_app, allH, nints_length, List.length_nil, List.length_cons, List.nil_append, List.cons_append, true_and, and_true]
    refine sem_for ids (ouJ fmt v0 v1 v2 v3 v4 t (t + 1) (t + 1 + 1) t2 (t2 + 1) L S tS C' tC (knows S C' L U) ids tr) (ouE fmt v0 v1 v2 v3 v4 t (t + 1) (t + 1 + 1) t2 (t2 + 1) L S tS C' tC (knows S C' L U) ids) ⟨by simp, ?_⟩ (fun i x hx fr σ hJ => out_round hil hx hJ) (fun i hi fr σ hJ => ?_) (fun e fr σ hE => ?_)
    · simp -implicitDefEqProofs (disch := omega) only [go_sem, ↓reduceIte, Nat.reduceEqDiff, allH, List.nil_append, List.cons_append, true_and]
      have ho : outs (knows S C' L U) ids 0 ids.length = (List.replicate ids.length [V.int .i64 0]).flatten := by
        simp only [outs, List.take_zero, List.map_nil, nints, List.nil_append, Nat.sub_zero]
        induction ids.length with
        | zero => rfl
        | succ n ih => rw [List.replicate_succ, List.replicate_succ, List.flatten_cons, ← ih]; rfl
      rw [ho]
      exact ⟨rfl, rfl⟩
    · obtain ⟨hall, f8, f14, f44, f45, f46, rfl⟩ := hJ
      rw [hi, List.take_length] at hall
      refine W_run 1000 ?_
      simp -implicitDefEqProofs (disch := omega) only [go_sem, ↓reduceIte, decide_false, allH, List.nil_append, List.cons_append, f45, f46, hi, Nat.lt_irrefl]
      exact .inr ⟨rfl, hall, by simp -implicitDefEqProofs (disch := omega) only [go_sem, ↓reduceIte, Nat.reduceEqDiff, f14], rfl⟩
    · rcases hE with ⟨rfl, hn, f6, f7, i, rfl⟩ | ⟨rfl, hall, f14, rfl⟩
      · refine run_sem 1000 ?_
        simp -implicitDefEqProofs (disch := omega) only [go_sem, allH, List.nil_append, List.cons_append, true_and, f6, f7]
        exact .inl ⟨hn, t2 + 1, _, by omega, rfl⟩
      · refine run_sem 1000 ?_
        simp -implicitDefEqProofs (disch := omega) only [go_sem, ↓reduceIte, Nat.reduceEqDiff, allH, List.nil_append, List.cons_append, f14]
        exact .inr ⟨t2, t2 + 1, t, t + 1, t + 1 + 1, by omega, rfl, hall, rfl, rfl⟩
end Go.Proofs.YtpdeoalocejodaaGreatDoor
/- The value of each term by definition; what the program's map holds is that. -/
namespace Go.Proofs.YtpdeoalocejodaaGreatDoor
open Go Go.Am
set_option maxRecDepth 100000
set_option maxHeartbeats 1000000
variable {P : Program} {G : Nat → Option V}
def stepV (S : List Int) (C : List Cl) (v : Int → Int) (d : Nd) : Int :=
  if d.kind = 1 then d.n else if d.kind = 2 then symE S d.n else if d.kind = 3 then cellE C d.a d.n (v d.y) else doW d.op (v d.x) (v d.y)
theorem stepV_same {S S' : List Int} {C C' : List Cl} {v v' : Int → Int} {d : Nd} (hk : d.kind = 1 ∨ d.kind = 2 ∨ d.kind = 3 ∨ d.kind = 4) (h : ∀ p ∈ d.parts, v p = v' p)
    (hs : d.kind = 2 → symE S d.n = symE S' d.n) (hc : d.kind = 3 → ∀ y, cellE C d.a d.n y = cellE C' d.a d.n y) : stepV S C v d = stepV S' C' v' d := by
  unfold stepV
  rcases hk with k | k | k | k
  · rw [if_pos k, if_pos k]
  · simp [k, hs k]
  · have := h d.y (by simp [Nd.parts, k])
    simp [k, this, hc k]
  · have h1 := h d.x (by simp [Nd.parts, k])
    have h2 := h d.y (by simp [Nd.parts, k])
    simp [k, h1, h2]
theorem stepV_congr {S : List Int} {C : List Cl} {v v' : Int → Int} {d : Nd} (hk : d.kind = 1 ∨ d.kind = 2 ∨ d.kind = 3 ∨ d.kind = 4) (h : ∀ p ∈ d.parts, v p = v' p) : stepV S C v d = stepV S C v' d :=
  stepV_same hk h (fun _ => rfl) (fun _ _ => rfl)
def valsF (S : List Int) (C : List Cl) (out : List Int) (d : Nd) : List Int := out ++ [stepV S C (fun p => out.getD p.toNat 0) d]
def vals (S : List Int) (C : List Cl) (L : List Nd) : List Int := L.foldl (valsF S C) []
def val (S : List Int) (C : List Cl) (L : List Nd) (x : Int) : Int := (vals S C L).getD x.toNat 0
theorem vals_snoc {S : List Int} {C : List Cl} {L : List Nd} {d : Nd} : vals S C (L ++ [d]) = vals S C L ++ [stepV S C (fun p => (vals S C L).getD p.toNat 0) d] := by simp [vals, valsF]
theorem valsF_len (S : List Int) (C : List Cl) : ∀ (L : List Nd) (o : List Int), (L.foldl (valsF S C) o).length = o.length + L.length
  | [], o => by simp
  | d :: L, o => by rw [List.foldl_cons, valsF_len S C L]; simp [valsF]; omega
theorem vals_len {S : List Int} {C : List Cl} {L : List Nd} : (vals S C L).length = L.length := by simpa [vals] using valsF_len S C L []
theorem valsF_app (S : List Int) (C : List Cl) : ∀ (L : List Nd) (o : List Int), ∃ r, L.foldl (valsF S C) o = o ++ r
  | [], o => ⟨[], by simp⟩
  | d :: L, o => by
    obtain ⟨r, hr⟩ := valsF_app S C L (valsF S C o d)
    exact ⟨_, by rw [List.foldl_cons, hr, valsF, List.append_assoc]⟩
theorem getD_app_l {l r : List Int} {i : Nat} (h : i < l.length) : (l ++ r).getD i 0 = l.getD i 0 := by
  rw [List.getD_eq_getElem?_getD, List.getD_eq_getElem?_getD, List.getElem?_append_left h]
theorem getD_app_r {l : List Int} {x : Int} {i : Nat} (h : l.length = i) : (l ++ [x]).getD i 0 = x := by
  rw [List.getD_eq_getElem?_getD, List.getElem?_append_right (by omega), h, Nat.sub_self]; rfl
theorem vals_pre {S : List Int} {C : List Cl} {L : List Nd} {n i : Nat} (hi : i < n) (hn : n ≤ L.length) : (vals S C (L.take n)).getD i 0 = (vals S C L).getD i 0 := by
  obtain ⟨r, hr⟩ := valsF_app S C (L.drop n) (vals S C (L.take n))
  have e : vals S C L = vals S C (L.take n) ++ r := by
    rw [← hr]
    conv => lhs; rw [← List.take_append_drop n L]
    rw [vals, vals, List.foldl_append]
  rw [e, getD_app_l]
  rw [vals_len, List.length_take]
  omega
theorem nd_get {L : List Nd} {x : Int} (h0 : 0 ≤ x) (h1 : x < L.length) : L[x.toNat]? = some (nd L x) := by
  unfold nd
  rw [List.getD_eq_getElem?_getD, List.getElem?_eq_getElem (by omega)]
  rfl
theorem val_eq {S : List Int} {C : List Cl} {L : List Nd} (hwf : gwf L) (hfit : fit L) {x : Int} (h0 : 0 ≤ x) (h1 : x < L.length) : val S C L x = stepV S C (val S C L) (nd L x) := by
  have hg := nd_get h0 h1
  have ht := take_snoc2 hg
  have hl : (vals S C (L.take x.toNat)).length = x.toNat := by rw [vals_len, List.length_take]; omega
  have e : val S C L x = (vals S C (L.take (x.toNat + 1))).getD x.toNat 0 := by rw [vals_pre (by omega) (by omega)]; rfl
  rw [e, ht, vals_snoc, getD_app_r hl]
  refine stepV_congr (hfit x h0 h1).1 fun p hp => ?_
  have := hwf _ _ hg p hp
  exact vals_pre (by omega) (by omega)
theorem stepV_i64 {S : List Int} {C : List Cl} {v : Int → Int} {d : Nd} (hS : ∀ x ∈ S, i64 x) (hC : ∀ c ∈ C, i64 c.n) (hv : ∀ p, i64 (v p)) (hd : i64 d.n) : i64 (stepV S C v d) := by
  refine ite_i64 hd (ite_i64 ?_ (ite_i64 ?_ (doW_i64 (hv _) (hv _))))
  · unfold symE
    refine ite_i64 (by unfold i64; omega) ?_
    rw [List.getD_eq_getElem?_getD]
    cases h : S[d.n.toNat]? with
    | none => simp [i64]
    | some x => exact hS x (List.mem_of_getElem? h)
  · unfold cellE
    refine ite_i64 (by unfold i64; omega) ?_
    cases h : C[(fstC (isC d.a d.n (v d.y)) C 0).toNat]? with
    | none => simp [i64]
    | some c => exact hC c (List.mem_of_getElem? h)
theorem getD_i64 {l : List Int} (h : ∀ x ∈ l, i64 x) (n : Nat) : i64 (l.getD n 0) := by
  rw [List.getD_eq_getElem?_getD]
  cases e : l[n]? with
  | none => simp [i64]
  | some x => exact h x (List.mem_of_getElem? e)
theorem valsF_i64 {S : List Int} {C : List Cl} (hS : ∀ x ∈ S, i64 x) (hC : ∀ c ∈ C, i64 c.n) : ∀ (L : List Nd), (∀ d ∈ L, i64 d.n) → ∀ (o : List Int), (∀ x ∈ o, i64 x) → ∀ x ∈ L.foldl (valsF S C) o, i64 x
  | [], _, o, ho => ho
  | d :: L, hL, o, ho => by
    rw [List.foldl_cons]
    refine valsF_i64 hS hC L (fun d hd => hL d (by simp [hd])) _ fun x hx => ?_
    rcases List.mem_append.1 hx with h | h
    · exact ho x h
    · rw [List.mem_singleton.1 h]
      exact stepV_i64 hS hC (fun p => getD_i64 ho _) (hL d (by simp))
theorem val_i64 {S : List Int} {C : List Cl} {L : List Nd} (hS : ∀ x ∈ S, i64 x) (hC : ∀ c ∈ C, i64 c.n) (hL : ∀ d ∈ L, i64 d.n) (x : Int) : i64 (val S C L x) :=
  getD_i64 (valsF_i64 hS hC L hL [] (by simp)) _
theorem okN_i64 {L : List Nd} (hok : okN L) : ∀ d ∈ L, i64 d.n := fun d hd => by
  obtain ⟨i, hi⟩ := List.mem_iff_getElem?.1 hd
  exact (hok i d hi).1
theorem kAt_snoc {K : List (Int × Int)} {u v x : Int} : kAt (K ++ [(u, v)]) x = (kAt K x).or (if x = u then some v else none) := by
  simp only [kAt, List.find?_append]
  cases h : K.find? fun p => decide (x = p.1) with
  | some p => simp
  | none => by_cases hx : x = u <;> simp [hx]
theorem mem_take_of_lt {U : List Int} (hs : U.Pairwise (· < ·)) {n : Nat} {u p : Int} (hu : U[n]? = some u) (hp : p ∈ U) (hlt : p < u) : p ∈ U.take n := by
  obtain ⟨j, hj⟩ := List.mem_iff_getElem?.1 hp
  rcases Nat.lt_or_ge j n with h | h
  · exact List.mem_iff_getElem?.2 ⟨j, by rw [List.getElem?_take, if_pos h, hj]⟩
  · exfalso
    rcases Nat.lt_or_eq_of_le h with h | h
    · have h1 := (List.getElem?_eq_some_iff.1 hu)
      have h2 := (List.getElem?_eq_some_iff.1 hj)
      have := List.pairwise_iff_getElem.1 hs n j h1.1 h2.1 h
      rw [h1.2, h2.2] at this
      omega
    · subst h
      rw [hu] at hj
      cases hj
      omega
theorem knows_val {S : List Int} {C : List Cl} {L : List Nd} (hwf : gwf L) (hfit : fit L) {U : List Int} (hr : ∀ x ∈ U, 0 ≤ x ∧ x < L.length) (hs : U.Pairwise (· < ·)) (hc : ∀ x ∈ U, ∀ p ∈ pts L x, p ∈ U) :
    ∀ n, n ≤ U.length → ∀ x, kAt (knows S C L (U.take n)) x = if x ∈ U.take n then some (val S C L x) else none
  | 0, _, x => by simp [knows, kAt]
  | n + 1, hn, x => by
    obtain ⟨u, hu⟩ : ∃ u, U[n]? = some u := ⟨_, List.getElem?_eq_getElem (by omega)⟩
    have ih := knows_val (S := S) (C := C) hwf hfit hr hs hc n (by omega)
    have hum := List.mem_of_getElem? hu
    obtain ⟨h0, h1⟩ := hr u hum
    have hv : oneV S C (knows S C L (U.take n)) (nd L u) = val S C L u := by
      rw [val_eq hwf hfit h0 h1]
      refine stepV_congr (v := fun p => (kAt (knows S C L (U.take n)) p).getD 0) (hfit u h0 h1).1 fun p hp => ?_
      have hpl := pts_lt hwf h0 h1 p hp
      have hpm : p ∈ U.take n := mem_take_of_lt hs hu (hc u hum p hp) hpl.2
      show (kAt (knows S C L (U.take n)) p).getD 0 = _
      rw [ih p, if_pos hpm]
      rfl
    rw [take_snoc2 hu, knows_snoc, kAt_snoc, ih, hv]
    by_cases hx : x ∈ U.take n
    · simp [hx]
    · by_cases hxu : x = u
      · subst hxu; simp [hx]
      · simp [hx, hxu]
theorem uses_mem {L : List Nd} (hwf : gwf L) {ids : List Int} {x : Int} : x ∈ usesL L ids ↔ ∃ r ∈ ids, (0 ≤ r ∧ r < L.length) ∧ x ∈ usesL L [r] := by
  rw [mem_uses, mem_walks hwf ids [] (by simp)]
  simp
theorem uses_closedL {L : List Nd} (hwf : gwf L) {ids : List Int} {x p : Int} (hx : x ∈ usesL L ids) (hp : p ∈ pts L x) : p ∈ usesL L ids := by
  rw [uses_mem hwf] at hx ⊢
  obtain ⟨r, h1, h2, h3⟩ := hx
  exact ⟨r, h1, h2, uses_closed hwf h3 hp⟩
theorem knows_uses {S : List Int} {C : List Cl} {L : List Nd} (hwf : gwf L) (hfit : fit L) (ids : List Int) {x : Int} (hx : x ∈ ids) :
    kAt (knows S C L (usesL L ids)) x = if 0 ≤ x ∧ x < L.length then some (val S C L x) else none := by
  have h := knows_val (S := S) (C := C) hwf hfit (U := usesL L ids) uses_ok uses_sorted (fun x hx p hp => uses_closedL hwf hx hp) _ (Nat.le_refl _) x
  rw [List.take_length] at h
  rw [h]
  by_cases hr : 0 ≤ x ∧ x < L.length
  · rw [if_pos hr, if_pos ((uses_mem hwf).2 ⟨x, hx, hr, uses_self hwf hr.1 hr.2⟩)]
  · rw [if_neg hr, if_neg fun hm => hr (uses_ok x hm)]
end Go.Proofs.YtpdeoalocejodaaGreatDoor
