/- The values of terms: the program's All and Of. -/
import Derived.Test.YtfligilbnpcnaaaGreatDoorWo14
namespace Go.Proofs.YtfligilbnpcnaaaGreatDoor
open Go Go.Am
set_option maxRecDepth 100000
set_option maxHeartbeats 1000000
variable {P : Program} {G : Nat → Option V}

def inL (L : List Nd) (ids : List Int) : Prop := ∀ x ∈ ids, 0 ≤ x ∧ x < L.length
instance {L : List Nd} {ids : List Int} : Decidable (inL L ids) := by unfold inL; infer_instance
def allV (S : List Int) (C : List Cl) (L : List Nd) (ids : List Int) : V := if inL L ids then .tup [.lst 1 (nints (ids.map (val S C L))) false, .bool true] else .tup [.lst 0 [] true, .bool false]
theorem map_congr' {α β : Type} {f g : α → β} : ∀ {l : List α}, (∀ x ∈ l, f x = g x) → l.map f = l.map g := fun h => List.map_congr_left h
theorem c_All (hT : TabOk P tab) (SO : SortOk P) {fmt : Int → List UInt8} {v0 v1 v2 v3 v4 t : Nat} {L : List Nd} (hL : L.length ≤ 1000000) (hok : okN L) (S : List Int) (hS : ∀ x ∈ S, i64 x) (tS : Bool) (C' : List Cl) (hC : C'.length ≤ 1000000) (hCn : ∀ c ∈ C', i64 c.n) (tC : Bool) (ids : List Int) (tr : Bool) (hil : ids.length ≤ 1000000) :
    C P G 5 n_value_All [.ptr 1 v0 0, envV S tS 4 C' tC, .lst 1 (nints ids) tr] ⟨t, kG fmt v0 v1 v2 v3 v4 L⟩ fun v σ => v = allV S C' L ids ∧ ∃ t', t ≤ t' ∧ σ = ⟨t', kG fmt v0 v1 v2 v3 v4 L⟩ := by
  have hku := fun x hx => knows_uses (S := S) (C := C') hok.wf (fit_ok hok) ids (x := x) hx
  refine C_keep 5 (Nat.le_refl _) (C_freezeO (c_All0 hT SO hL hok S hS tS C' hC hCn tC ids tr hil) fun v σ hv => ?_)
  rcases hv with ⟨rfl, ⟨x, hx, hn⟩, t', ex, ht, rfl⟩ | ⟨vo, t', ve, vm, vk, ht, rfl, hall, rfl⟩
  · refine .inl ⟨by rw [kG_len]; omega, ?_, t', ht, by simp [kG]⟩
    rw [allV, if_neg]
    intro hin
    rw [hku x hx, if_pos (hin x hx)] at hn
    cases hn
  · have hin : inL L ids := fun x hx => by
      have h1 := hall x hx
      rw [hku x hx] at h1
      by_cases hr : 0 ≤ x ∧ x < L.length
      · exact hr
      · rw [if_neg hr] at h1; cases h1
    have ho : outs (knows S C' L (usesL L ids)) ids ids.length ids.length = nints (ids.map (val S C' L)) := by
      rw [outs, List.take_length, Nat.sub_self, List.replicate_zero, List.append_nil]
      congr 1
      refine map_congr' fun x hx => ?_
      rw [hku x hx, if_pos (hin x hx)]
      rfl
    rw [ho]
    refine .inr ⟨8, vo, 2, nints (ids.map (val S C' L)), by omega, rfl, nints_nameless _, ?_, ?_, t', ht, ?_⟩
    · simp [mapFrom_length, kG, allH]
    · have := frz_n (k := 8) (w := vo) (ids.map (val S C' L))
      simp only [frzV, frzL, List.length_map] at this ⊢
      rw [this, allV, if_pos hin]
    · simp [kG, mapFrom]
theorem under_ents {j : Nat} : ∀ (i : Nat) (L : List Nd) (a b : V), (a, b) ∈ ents i L → V.under j b = true
  | _, [], _, _, h => by cases h
  | i, d :: l, a, b, h => by
    simp only [ents, List.mem_cons, Prod.mk.injEq] at h
    rcases h with ⟨_, rfl⟩ | h
    · rfl
    · exact under_ents (i + 1) l a b h
theorem kG_und {fmt : Int → List UInt8} {v0 v1 v2 v3 v4 : Nat} {L : List Nd} : undO 5 (kG fmt v0 v1 v2 v3 v4 L) = true := by
  have h := under_ents (j := 5) 0 L
  simp [kG, undO, Ob.under, underL, V.under, underL_nameless _ (ndC_nameless L), underL_nameless _ (ints_nameless _)]
  exact h
theorem kk_read {f : Nat} {args : List V} {r : V} {fmt : Int → List UInt8} {v0 v1 v2 v3 v4 t base : Nat} {L : List Nd} {ex : List (Option Ob)} (h : C P G 5 f (.ptr 1 v0 0 :: args) ⟨t, kG fmt v0 v1 v2 v3 v4 L⟩ fun v σ => v = r ∧ ∃ t', t ≤ t' ∧ σ = ⟨t', kG fmt v0 v1 v2 v3 v4 L⟩) (ha : namelessL args = true) (hr : nameless r = true) :
    C P G base f (.ptr 1 v0 0 :: args) ⟨t, kG fmt v0 v1 v2 v3 v4 L ++ ex⟩ fun v σ => v = r ∧ ∃ t', t ≤ t' ∧ σ = ⟨t', kG fmt v0 v1 v2 v3 v4 L ++ ex⟩ :=
  C_read (oS := kG fmt v0 v1 v2 v3 v4 L) h kG_und (by rw [kG_len0]; simp [underL, V.under, underL_nameless _ ha]) (under_nameless _ hr)
theorem allV_nl (S : List Int) (C : List Cl) (L : List Nd) (ids : List Int) : nameless (allV S C L ids) = true := by unfold allV; split <;> rfl
theorem k_All (hT : TabOk P tab) (SO : SortOk P) {base : Nat} {fmt : Int → List UInt8} {v0 v1 v2 v3 v4 t : Nat} {L : List Nd} {ex : List (Option Ob)} (hL : L.length ≤ 1000000) (hok : okN L) (S : List Int) (hS : ∀ x ∈ S, i64 x) (tS : Bool) (C' : List Cl) (hC : C'.length ≤ 1000000) (hCn : ∀ c ∈ C', i64 c.n) (tC : Bool) (ids : List Int) (tr : Bool) (hil : ids.length ≤ 1000000) :
    C P G base n_value_All [.ptr 1 v0 0, envV S tS 4 C' tC, .lst 1 (nints ids) tr] ⟨t, kG fmt v0 v1 v2 v3 v4 L ++ ex⟩ fun v σ => v = allV S C' L ids ∧ ∃ t', t ≤ t' ∧ σ = ⟨t', kG fmt v0 v1 v2 v3 v4 L ++ ex⟩ :=
  kk_read (c_All hT SO hL hok S hS tS C' hC hCn tC ids tr hil) rfl (allV_nl ..)
def ofV (S : List Int) (C : List Cl) (L : List Nd) (x : Int) : V := if 0 ≤ x ∧ x < L.length then .tup [.int .i64 (val S C L x), .bool true] else .tup [.int .i64 0, .bool false]
theorem c_Of (hT : TabOk P tab) (SO : SortOk P) {fmt : Int → List UInt8} {v0 v1 v2 v3 v4 t : Nat} {L : List Nd} (hL : L.length ≤ 1000000) (hok : okN L) (S : List Int) (hS : ∀ x ∈ S, i64 x) (tS : Bool) (C' : List Cl) (hC : C'.length ≤ 1000000) (hCn : ∀ c ∈ C', i64 c.n) (tC : Bool) (x : Int) :
    C P G 5 n_value_Of [.ptr 1 v0 0, envV S tS 4 C' tC, .int .i64 x] ⟨t, kG fmt v0 v1 v2 v3 v4 L⟩ fun v σ => v = ofV S C' L x ∧ ∃ t', t ≤ t' ∧ σ = ⟨t', kG fmt v0 v1 v2 v3 v4 L⟩ := by
  have hA := fun t tr ex => k_All (P := P) (G := G) hT SO (base := 5) (fmt := fmt) (v0 := v0) (v1 := v1) (v2 := v2) (v3 := v3) (v4 := v4) (t := t) (ex := ex) hL hok S hS tS C' hC hCn tC [x] tr (by simp)
  refine C_keep 5 (Nat.le_refl _) (C_tab hT t_value_Of (by simp [value_Of]) (W_run 1000 ?_))
  simp -implicitDefEqProofs (disch := omega) only [go_sem, ↓reduceIte, reduceCtorEq, Nat.reduceAdd, Nat.reduceEqDiff, Nat.zero_add, Nat.le_refl, value_Of, zqc_0, zqc_1, zqc_2, zqc_3, zqc_4, envV, kG_len0, kG_5, List.length_cons, List.length_nil, List.cons_append, List.nil_append, and_true]
  refine call hT t_value_All (hA _ _ _) 1000 fun v σ hv => ?_
  obtain ⟨rfl, t2, ht2, rfl⟩ := hv
  by_cases hr : 0 ≤ x ∧ x < L.length
  · have e : allV S C' L [x] = .tup [.lst 1 [.int .i64 (val S C' L x)] false, .bool true] := by rw [allV, if_pos (by simpa [inL] using hr)]; rfl
    have e2 : ofV S C' L x = .tup [.int .i64 (val S C' L x), .bool true] := by rw [ofV, if_pos hr]
    rw [e, e2]
    simp -implicitDefEqProofs (disch := omega) only [go_sem, ↓reduceIte, reduceCtorEq, Nat.reduceAdd, Nat.reduceEqDiff, Nat.reduceLeDiff, Nat.reduceLT, Int.reduceToNat, Int.reduceLE, Nat.zero_add, Bool.not_true, Nat.le_refl, kG_len, List.length_cons, List.length_nil, true_and, and_true]
    exact ⟨t2, by omega, rfl, by simp [kG]⟩
  · have e : allV S C' L [x] = .tup [.lst 0 [] true, .bool false] := by rw [allV, if_neg (by simpa [inL] using hr)]
    have e2 : ofV S C' L x = .tup [.int .i64 0, .bool false] := by rw [ofV, if_neg hr]
    rw [e, e2]
    simp -implicitDefEqProofs (disch := omega) only [go_sem, ↓reduceIte, reduceCtorEq, Nat.reduceAdd, Nat.reduceEqDiff, Nat.reduceLeDiff, Nat.reduceLT, Nat.zero_add, Bool.not_false, kG_len, List.length_cons, List.length_nil, true_and]
    exact ⟨t2, by omega, rfl, by simp [kG]⟩
theorem ofV_nl (S : List Int) (C : List Cl) (L : List Nd) (x : Int) : nameless (ofV S C L x) = true := by unfold ofV; split <;> rfl
theorem k_Of (hT : TabOk P tab) (SO : SortOk P) {base : Nat} {fmt : Int → List UInt8} {v0 v1 v2 v3 v4 t : Nat} {L : List Nd} {ex : List (Option Ob)} (hL : L.length ≤ 1000000) (hok : okN L) (S : List Int) (hS : ∀ x ∈ S, i64 x) (tS : Bool) (C' : List Cl) (hC : C'.length ≤ 1000000) (hCn : ∀ c ∈ C', i64 c.n) (tC : Bool) (x : Int) :
    C P G base n_value_Of [.ptr 1 v0 0, envV S tS 4 C' tC, .int .i64 x] ⟨t, kG fmt v0 v1 v2 v3 v4 L ++ ex⟩ fun v σ => v = ofV S C' L x ∧ ∃ t', t ≤ t' ∧ σ = ⟨t', kG fmt v0 v1 v2 v3 v4 L ++ ex⟩ :=
  kk_read (c_Of hT SO hL hok S hS tS C' hC hCn tC x) rfl (ofV_nl ..)
theorem k_Needs (hT : TabOk P tab) (SO : SortOk P) (SI : SortF P n_slices_Sort_int64_int64) {base : Nat} {fmt : Int → List UInt8} {v0 v1 v2 v3 v4 t : Nat} {L : List Nd} {ex : List (Option Ob)} (hL : L.length ≤ 1000000) (hwf : gwf L) (ids : List Int) (z : Nat) (tight : Bool) (hz : z = 1 ∨ ids = []) (hrl : ids.length ≤ 1000000) :
    C P G base n_value_Needs [.ptr 1 v0 0, .lst z (ids.map (V.int .i64)) tight] ⟨t, kG fmt v0 v1 v2 v3 v4 L ++ ex⟩ fun v σ => v = .tup [.lst 1 (nints (symS L (usesL L ids))) false, .lst 1 (nints (cellS L (usesL L ids))) false] ∧ ∃ t', t ≤ t' ∧ σ = ⟨t', kG fmt v0 v1 v2 v3 v4 L ++ ex⟩ :=
  kk_read (c_Needs hT SO SI hL hwf ids z tight hz hrl) rfl rfl
end Go.Proofs.YtfligilbnpcnaaaGreatDoor

