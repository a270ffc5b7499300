/- What terms are made of: Uses. -/
import Derived.Test.YtfligilbnpcnaaaGreatDoorTerm6
namespace Go.Proofs.YtfligilbnpcnaaaGreatDoor
open Go Go.Am
set_option maxRecDepth 100000
variable {P : Program} {G : Nat → Option V}

/-- What is asked of the library's sort. -/
structure SortOk (P : Program) : Prop where
  some : ∀ (blk off cap : Nat) (zs : List Int) (w : World), Go.Sort.Holds (Value.int .i64) w blk off zs.toArray → blk < w.heap.size → zs.length < 4611686018427387904 →
    Calls P n_slices_Sort_term_ID_term_ID #[.slice (some ⟨blk, off, none⟩) zs.length cap] w fun e w' => e = .returned (.tuple #[]) ∧ ∃ n os, w' = Go.Sort.grow (Go.Sort.putRow (Value.int .i64) (Go.Sort.ahead w n) blk off (zs.mergeSort fun x y => decide (x ≤ y)).toArray) os
  none : ∀ (p : Option Addr) (cap : Nat) (w : World), Calls P n_slices_Sort_term_ID_term_ID #[.slice p 0 cap] w fun e w' => e = .returned (.tuple #[]) ∧ w' = w

theorem c_Sort (S : SortOk P) {base k v T t : Nat} {o : List (Option Ob)} {zs : List Int} {n : Nat} {lim : Option Nat} (hk : base ≤ k) (ho : o[k]? = some (some (.arr v T (zs.map (V.int .i64))))) (hn : n = zs.length) (hl : zs.length < 4611686018427387904) :
    C P G base n_slices_Sort_term_ID_term_ID [.sl k v 0 1 n lim] ⟨t, o⟩ fun r σ' => r = .tup [] ∧ σ' = ⟨t, o.set k (some (.arr v T ((zs.mergeSort fun x y => decide (x ≤ y)).map (V.int .i64))))⟩ := by
  subst hn
  cases zs with
  | nil =>
    refine (C_sort0 (fun p cap w => S.none p cap w)).conseq fun r σ' ⟨h1, h2⟩ => ⟨h1, ?_⟩
    rw [h2]
    congr 1
    have hk' := (List.getElem?_eq_some_iff.1 ho).1
    have := (List.getElem?_eq_some_iff.1 ho).2
    apply List.ext_getElem? 
    intro m
    by_cases hm : m = k
    · subst hm; rw [ho]; simp [hk']
    · simp [List.getElem?_set_ne (Ne.symm hm)]
  | cons z zs => exact C_sort hk ho (by simp) (by simp) fun blk off cap w hH hb => S.some blk off cap _ w hH hb hl

/-- What terms are made of, by the walk. -/
def walks (L : List Nd) (roots : List Int) (S : List Int) : List Int := roots.foldl (fun S r => walkN L (r.toNat + 1) r S) S
def usesL (L : List Nd) (roots : List Int) : List Int := (walks L roots []).mergeSort fun x y => decide (x ≤ y)
theorem okS_walks (L : List Nd) : ∀ (roots S : List Int), okS L S → okS L (walks L roots S)
  | [], S, h => h
  | r :: roots, S, h => okS_walks L roots _ (okS_walk L _ r S h)

theorem c_Uses (hT : TabOk P tab) (SO : SortOk P) {base : Nat} (hb : base ≤ 5) {v0 v1 v2 v3 v4 t : Nat} {L : List Nd} {D N : List Int} (hL : L.length ≤ 1000000) (hwf : gwf L) (roots : List Int) (z : Nat) (tight : Bool) (hz : z = 1 ∨ roots = []) (hrl : roots.length ≤ 9223372036854775806) :
   C P G base n_term_Graph_Uses [.ptr 0 v0 0, .lst z (roots.map (V.int .i64)) tight] ⟨t, gH v0 v1 v2 v3 v4 L D N⟩ fun v σ => v = .lst 1 ((usesL L roots).map (V.int .i64)) false ∧ ∃ t', t ≤ t' ∧ σ = ⟨t', gH v0 v1 v2 v3 v4 L D N⟩ := by
  refine C.wk hb (Nat.le_refl _) (C_keep 5 (Nat.le_refl _) (C_freeze (Q := fun v σ => ∃ (r n t' : Nat) (x5 x6 x7 x8 x9 : Option Ob), n = (usesL L roots).length ∧ t ≤ t' ∧ v = .sl 10 r 0 1 n none ∧ σ = ⟨t', gH v0 v1 v2 v3 v4 L D N ++ [x5, x6, x7, x8, x9, some (.arr r 44 ((usesL L roots).map (V.int .i64)))]⟩) ?_ fun v σ hv => ?_))
  · refine C_tab hT t_term_Graph_Uses (by simp [term_Graph_Uses]) (W_run 1000 ?_)
    simp -implicitDefEqProofs (disch := omega) only [go_sem, ↓reduceIte, reduceCtorEq, Nat.reduceAdd, Nat.reduceEqDiff, Nat.reduceLeDiff, Nat.zero_add, Bool.not_false, Nat.le_refl, term_Graph_Uses, zqr_0, zqr_1, zqr_2, zqr_3, zqr_4, zqr_5, zqr_6, zqr_7, zqr_8, zqr_9, zqr_10, zqr_11, gH, gS, List.length_map, List.length_nil, List.nil_append, List.length_cons, List.cons_append, show (Value.map none).oneCell' = true from rfl, show Value.nilFunc.oneCell' = true from rfl]
    refine sem_shift (HShift.shift (HShift.ownAt 1 44 (k := 8) (p := 0) (by omega) rfl rfl)) (run_sem 1000 ?_)
    simp -implicitDefEqProofs (disch := omega) only [go_sem, Nat.reduceAdd, Nat.zero_add, List.length_nil, List.nil_append, List.length_cons, List.cons_append]
    refine sem_invE (fun m fr σ => ∃ (i t' r' : Nat) (S : List Int), i ≤ roots.length ∧ m = roots.length - i ∧ okS L S ∧ S = walks L (roots.take i) [] ∧ t ≤ t' ∧ fget fr 2 = .ptr 5 t 0 ∧ fget fr 5 = .ptr 7 (t + 1 + 1) 0 ∧ fget fr 6 = .ptr 8 (t + 1 + 1 + 1) 0 ∧ fget fr 7 = .ptr 9 (t + 1 + 1 + 1 + 1) 0 ∧
         fget fr 12 = .lst z (roots.map (V.int .i64)) tight ∧ fget fr 13 = .int .i64 roots.length ∧ fget fr 14 = .int .i64 i ∧ σ = ⟨t', uH v0 v1 v2 v3 v4 t (t + 1) (t + 1 + 1) (t + 1 + 1 + 1) (t + 1 + 1 + 1 + 1) r' L D N S⟩)
      (fun e fr σ => e = .ex 0 ∧ fget fr 6 = .ptr 8 (t + 1 + 1 + 1) 0 ∧ ∃ t' r', t ≤ t' ∧ σ = ⟨t', uH v0 v1 v2 v3 v4 t (t + 1) (t + 1 + 1) (t + 1 + 1 + 1) (t + 1 + 1 + 1 + 1) r' L D N (walks L roots [])⟩)
      (m0 := roots.length) ⟨0, t + 1 + 1 + 1 + 1 + 1 + 1, t + 1 + 1 + 1 + 1 + 1, [], Nat.zero_le _, rfl, ⟨List.nodup_nil, by simp⟩, rfl, by omega, ?_⟩ (fun m fr σ hJ => ?_) (fun e fr σ hE => ?_)
    · simp -implicitDefEqProofs (disch := omega) only [go_sem, ↓reduceIte, reduceCtorEq, Nat.reduceEqDiff]
      simp [uH, gS, wFn, im]
    · obtain ⟨i, t', r', S, hi, rfl, hS, hSe, ht', f2, f5, f6, f7, f12, f13, f14, rfl⟩ := hJ
      refine W_run 1000 ?_
      rcases Nat.lt_or_ge i roots.length with hlt | hge
      · have hz1 : z = 1 := by rcases hz with h | h; exact h; rw [h] at hlt; simp at hlt
        subst hz1
        obtain ⟨p, hp⟩ : ∃ p, roots[i]? = some p := ⟨_, List.getElem?_eq_getElem hlt⟩
        have hg : (roots.map (V.int .i64)).getD i .any = V.int .i64 p := by simp [List.getD_eq_getElem?_getD, hp]
        simp -implicitDefEqProofs (disch := omega) only [go_sem, need_of, ↓reduceIte, Nat.reduceEqDiff, Nat.zero_add, decide_true, Nat.le_refl, uH, gS, List.length_map, f7, f12, f13, f14, hlt, hg, wFn]
        refine callK hT t_term_Graph_Uses_S1 (c_walk hT (Nat.le_refl 5) hL hwf (p.toNat + 1) p S t' r' (by omega) hS) 1000 fun v σ hv => ?_
        obtain ⟨t2, r2, ht2, rfl⟩ := hv
        simp -implicitDefEqProofs (disch := omega) only [go_sem, ↓reduceIte, Nat.reduceEqDiff, f14]
        refine ⟨roots.length - (i + 1), _, _, by omega, Shift.refl _ _ _ _, i + 1, t2, r2, walkN L (p.toNat + 1) p S, hlt, rfl, okS_walk L _ p S hS, ?_, by omega, ?_⟩
        · rw [List.take_add_one, hp, Option.toList_some, walks, List.foldl_append, hSe]; rfl
        · have hw : IntKind.i64.wrap ((i : Int) + 1) = ((i + 1 : Nat) : Int) := by
            rw [wrap_i64 (by omega) (by omega)]; rfl
          simp -implicitDefEqProofs (disch := omega) only [go_sem, ↓reduceIte, Nat.reduceEqDiff, f2, f5, f6, f7, f12, f13, hw]
          rfl
      · simp -implicitDefEqProofs (disch := omega) only [go_sem, ↓reduceIte, Nat.reduceEqDiff, decide_false, f6, f13, f14, show ¬ i < roots.length from by omega]
        rw [List.take_of_length_le (by omega)] at hSe
        exact ⟨t', r', ht', rfl, by rw [hSe]⟩
    · obtain ⟨rfl, f6, t', r', ht', rfl⟩ := hE
      have hSw := okS_len (okS_walks L roots [] ⟨List.nodup_nil, by simp⟩)
      refine run_sem 1000 ?_
      simp -implicitDefEqProofs (disch := omega) only [go_sem, ↓reduceIte, Nat.zero_add, Nat.le_refl, uH, gS, f6]
      refine call hT t_slices_Sort_term_ID_term_ID (c_Sort SO (k := 10) (T := 44) (zs := walks L roots []) (by omega) rfl rfl (by omega)) 1000 fun v σ hv => ?_
      obtain ⟨rfl, rfl⟩ := hv
      simp -implicitDefEqProofs (disch := omega) only [go_sem, ↓reduceIte, Nat.reduceEqDiff, Nat.zero_add, Nat.le_refl, f6]
      exact ⟨r', _, t', _, _, _, _, _, rfl, ht', by simp [usesL], rfl, rfl⟩
  · obtain ⟨r, n, t', x5, x6, x7, x8, x9, rfl, ht', rfl, rfl⟩ := hv
    refine ⟨10, r, 44, (usesL L roots).map (V.int .i64), by omega, rfl, ints_nameless _, ?_⟩
    refine ⟨by simp [mapFrom_length, gH], ?_, t', ht', ?_⟩
    · simp only [frzV, rowsV]
      simp [List.take_of_length_le]
    · simp [gH, mapFrom]
end Go.Proofs.YtfligilbnpcnaaaGreatDoor

