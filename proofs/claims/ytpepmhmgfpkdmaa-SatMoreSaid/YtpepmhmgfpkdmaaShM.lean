/- The comparisons that are handed to the library's sort: walked by the kit's tactics. -/
import Derived.Test.YtpepmhmgfpkdmaaProg
import Derived.Shelf.SlSortCmp.NoneTotal
import Derived.Shelf.SlSortCmp.Whole1
import Derived.WalkKit
import Derived.KernelRfl
import Derived.Test.YtpepmhmgfpkdmaaClC
import Derived.Shelf.SlLaysF
import Derived.Test.YtpepmhmgfpkdmaaCw4
import Derived.Test.YtpepmhmgfpkdmaaAmD
import Derived.Shelf.Slices.CompactI
import Derived.Shelf.Lays2
import Derived.Lib.SlicesCompact
/- The comparisons that are handed to the library's sort: walked by the kit's tactics. -/
namespace Go.Proofs.Ytpepmhmgfpkdmaa
open Go Go.Sort Go.Cl
set_option maxRecDepth 100000

theorem w_isNaN (x : Int) (w : World) : Calls Try.prog 40 #[.int .i64 x] w fun e w' => e = .returned (.bool false) ∧ w' = w := by
  go_enter Try.func40, Try.ntmps40
  go_wp2
  go_ret
  simp
def mk (x : Int) : Int := max x (RowKit.wrap64 (-x))
theorem w_abs (x : Int) (w : World) : Calls Try.prog 31 #[.int .i64 x] w fun e w' => e = .returned (.int .i64 (mk x)) ∧ w' = w := by
  unfold mk
  go_enter Try.func31, Try.ntmps31
  go_wp2
  go_ret
  exact ⟨rfl, rfl⟩
def cmpI (x y : Int) : Int := if x < y then -1 else if y < x then 1 else 0
theorem w_cmp (x y : Int) (w : World) : Calls Try.prog 30 #[.int .i64 x, .int .i64 y] w fun e w' => e = .returned (.int .i64 (cmpI x y)) ∧ w' = w := by
  unfold cmpI
  go_enter Try.func30, Try.ntmps30
  go_wp2_with (go_at_call 40; refine (w_isNaN _ _).mono ?_; rintro e w' ⟨rfl, rfl⟩)
  all_goals (go_ret)
  all_goals (try simp_all)
def cfU (x y : Int) : Int := cmpI (mk x) (mk y)
def orI (x y : Int) : Int := if x ≠ 0 then x else y
theorem w_Or (x y : Int) (b o c : Nat) (w : World) (h0 : w.cell? ⟨b, o, none⟩ = some (.int .i64 x)) (h1 : w.cell? ⟨b, o + 1, none⟩ = some (.int .i64 y)) : Calls Try.prog 29 #[.slice (some ⟨b, o, none⟩) 2 c] w fun e w' => e = .returned (.int .i64 (orI x y)) ∧ w' = w := by
  by_cases hx : x = 0
  · have e : orI x y = y := by simp [orI, hx]
    rw [e]
    by_cases hy : y = 0
    · subst hx hy
      go_enter Try.func29, Try.ntmps29
      go_wp2
      refine wp_loop_rounds 3 ?_
      rw [rounds_succ]
      go_wp2
      rw [rounds_succ]
      go_wp2
      rw [rounds_succ]
      go_wp2
      go_ret
      exact ⟨rfl, rfl⟩
    · subst hx
      go_enter Try.func29, Try.ntmps29
      go_wp2
      refine wp_loop_rounds 3 ?_
      rw [rounds_succ]
      go_wp2
      rw [rounds_succ]
      go_wp2
      go_ret
      exact ⟨rfl, rfl⟩
  · have e : orI x y = x := by simp [orI, hx]
    rw [e]
    go_enter Try.func29, Try.ntmps29
    go_wp2
    refine wp_loop_rounds 3 ?_
    rw [rounds_succ]
    go_wp2
    go_ret
    exact ⟨rfl, rfl⟩
theorem al0 (w : World) (a b : Value) (T : Nat) : (w.alloc (.cells #[a, b] T)).cell? ⟨w.heap.size, 0, none⟩ = some a := by
  show (match (w.heap.push (.cells #[a, b] T))[w.heap.size]? with | some (.cells c _ _) => (if (none : Option Nat).isSome then none else c[0]?) | _ => none) = some a
  rw [Array.getElem?_push_size]; rfl
theorem al1 (w : World) (a b : Value) (T : Nat) : (w.alloc (.cells #[a, b] T)).cell? ⟨w.heap.size, 0 + 1, none⟩ = some b := by
  show (match (w.heap.push (.cells #[a, b] T))[w.heap.size]? with | some (.cells c _ _) => (if (none : Option Nat).isSome then none else c[1]?) | _ => none) = some b
  rw [Array.getElem?_push_size]; rfl
theorem alG (w : World) (a b : Value) (T : Nat) : w.alloc (.cells #[a, b] T) = grow (w.drewN 0) #[.cells #[a, b] T] := by
  unfold World.alloc grow World.drewN
  rw [Array.push_eq_append]
  rfl
def cfC (x y : Int) : Int := orI (cmpI (mk x) (mk y)) (cmpI x y)
theorem w_CS1' (A : Int → Int) (K O : Int → Int → Int) (hA : ∀ x w, Calls Try.prog 31 #[.int .i64 x] w fun e w' => e = .returned (.int .i64 (A x)) ∧ w' = w) (hK : ∀ x y w, Calls Try.prog 30 #[.int .i64 x, .int .i64 y] w fun e w' => e = .returned (.int .i64 (K x y)) ∧ w' = w)
    (hO : ∀ x y b o c w, w.cell? ⟨b, o, none⟩ = some (.int .i64 x) → w.cell? ⟨b, o + 1, none⟩ = some (.int .i64 y) → Calls Try.prog 29 #[.slice (some ⟨b, o, none⟩) 2 c] w fun e w' => e = .returned (.int .i64 (O x y)) ∧ w' = w)
    (x y : Int) (w : World) : Calls Try.prog 28 #[.int .i64 x, .int .i64 y] w fun e w' => e = .returned (.int .i64 (O (K (A x) (A y)) (K x y))) ∧ ∃ q os', w' = grow (w.drewN q) os' := by
  go_enter Try.func28, Try.ntmps28
  go_wp2_with (first | (go_at_call 31; refine (hA _ _).mono ?_; rintro e w' ⟨rfl, rfl⟩) | (go_at_call 30; refine (hK _ _ _).mono ?_; rintro e w' ⟨rfl, rfl⟩))
  refine (hO _ _ _ _ _ _ (al0 _ _ _ _) (al1 _ _ _ _)).mono ?_
  rintro e w'' ⟨rfl, rfl⟩
  go_wp2
  go_ret
  exact ⟨rfl, 0, _, alG _ _ _ _⟩
theorem w_CS1 (x y : Int) (w : World) : Calls Try.prog 28 #[.int .i64 x, .int .i64 y] w fun e w' => e = .returned (.int .i64 (cfC x y)) ∧ ∃ q os', w' = grow (w.drewN q) os' := w_CS1' mk cmpI orI w_abs w_cmp w_Or x y w

theorem ltU (x y : Int) : ltOf cfU x y = decide (mk x < mk y) := by
  unfold ltOf cfU cmpI
  by_cases h1 : mk x < mk y
  · simp [h1]
  · by_cases h2 : mk y < mk x <;> simp [h1, h2]
theorem ltC (x y : Int) : ltOf cfC x y = decide (mk x < mk y ∨ mk x = mk y ∧ x < y) := by
  unfold ltOf cfC orI cmpI
  by_cases h1 : mk x < mk y
  · simp [h1]
  · by_cases h2 : mk y < mk x
    · have : mk x ≠ mk y := by omega
      simp [h1, h2, this]
    · have : mk x = mk y := by omega
      by_cases h3 : x < y
      · simp [this, h3]
      · by_cases h4 : y < x <;> simp [this, h3, h4]
theorem swoU : SWO (ltOf cfU) where
  irrefl x := by rw [ltU]; simp
  trans x y z h1 h2 := by rw [ltU] at *; simp at *; omega
  ntrans x y z h1 h2 := by rw [ltU] at *; simp at *; omega
theorem swoC : SWO (ltOf cfC) where
  irrefl x := by rw [ltC]; simp
  trans x y z h1 h2 := by rw [ltC] at *; simp only [decide_eq_true_eq] at *; omega
  ntrans x y z h1 h2 := by rw [ltC] at *; simp only [decide_eq_false_iff_not] at *; omega
end Go.Proofs.Ytpepmhmgfpkdmaa

/- The laying of slices.SortFunc at this dump, printed by the kit's own tool. -/
namespace Go.Proofs
open Go.Shelf
def Try.laysSortF_ren : Go.Shelf.Ren := ⟨fun | 6 => 27 | 15 => 39 | 14 => 38 | 28 => 50 | 29 => 51 | 20 => 42 | 21 => 43 | 22 => 44 | 23 => 45 | 24 => 46 | 25 => 47 | 26 => 48 | 27 => 49 | 46 => 52 | 47 => 53 | 48 => 54 | 49 => 55 | 50 => 56 | 57 => 57 | n => n, fun | 22 => 37 | 24 => 3 | 25 => 65 | 3 => 3 | 39 => 75 | 0 => 0 | 53 => 85 | 55 => 87 | 4 => 4 | 46 => 79 | 45 => 78 | 50 => 56 | 5 => 5 | 9 => 9 | 66 => 88 | 70 => 92 | 76 => 94 | 77 => 95 | n => n, fun | n => n⟩
theorem Try.laysSortF : Go.Proofs.SlLaysF.n6 Try.prog Try.laysSortF_ren := {
  mixed := by kernel_rfl
  f6 := ⟨Try.f27.name, by decide, Try.func27.trans (congrArg some (by kernel_rfl))⟩
  f14 := ⟨Try.f38.name, by decide, Try.func38.trans (congrArg some (by kernel_rfl))⟩
  f15 := Try.func39.trans (congrArg some (by kernel_rfl))
  f20 := ⟨Try.f42.name, by decide, Try.func42.trans (congrArg some (by kernel_rfl))⟩
  f21 := ⟨Try.f43.name, by decide, Try.func43.trans (congrArg some (by kernel_rfl))⟩
  f22 := ⟨Try.f44.name, by decide, Try.func44.trans (congrArg some (by kernel_rfl))⟩
  f23 := ⟨Try.f45.name, by decide, Try.func45.trans (congrArg some (by kernel_rfl))⟩
  f24 := ⟨Try.f46.name, by decide, Try.func46.trans (congrArg some (by kernel_rfl))⟩
  f25 := ⟨Try.f47.name, by decide, Try.func47.trans (congrArg some (by kernel_rfl))⟩
  f26 := ⟨Try.f48.name, by decide, Try.func48.trans (congrArg some (by kernel_rfl))⟩
  f27 := ⟨Try.f49.name, by decide, Try.func49.trans (congrArg some (by kernel_rfl))⟩
  f28 := Try.func50.trans (congrArg some (by kernel_rfl))
  f29 := Try.func51.trans (congrArg some (by kernel_rfl))
  f46 := ⟨Try.f52.name, by decide, Try.func52.trans (congrArg some (by kernel_rfl))⟩
  f47 := Try.func53.trans (congrArg some (by kernel_rfl))
  f48 := Try.func54.trans (congrArg some (by kernel_rfl))
  f49 := ⟨Try.f55.name, by decide, Try.func55.trans (congrArg some (by kernel_rfl))⟩
  f50 := ⟨Try.f56.name, by decide, Try.func56.trans (congrArg some (by kernel_rfl))⟩
  f57 := ⟨Try.f57.name, by decide, Try.func57.trans (congrArg some (by kernel_rfl))⟩
  t0 := Try.underlying0
  a0 := Try.isAgg0
  z0 := Try.sizeOf0
  v0 := Try.zeroValue0
  t3 := Try.underlying3
  a3 := Try.isAgg3
  z3 := Try.sizeOf3
  v3 := Try.zeroValue3
  t4 := Try.underlying4
  a4 := Try.isAgg4
  z4 := Try.sizeOf4
  v4 := Try.zeroValue4
  t5 := Try.underlying5
  a5 := Try.isAgg5
  z5 := Try.sizeOf5
  v5 := Try.zeroValue5
  t9 := Try.underlying9
  a9 := Try.isAgg9
  z9 := Try.sizeOf9
  v9 := Try.zeroValue9
  t22 := Try.underlying37
  a22 := Try.isAgg37
  z22 := Try.sizeOf37
  v22 := Try.zeroValue37
  a24 := Try.isAgg3
  z24 := Try.sizeOf3
  t25 := Try.underlying65
  a25 := Try.isAgg65
  z25 := Try.sizeOf65
  v25 := Try.zeroValue65
  t39 := Try.underlying75
  a39 := Try.isAgg75
  z39 := Try.sizeOf75
  v39 := Try.zeroValue75
  t45 := Try.underlying78
  a45 := Try.isAgg78
  z45 := Try.sizeOf78
  v45 := Try.zeroValue78
  t46 := Try.underlying79
  a46 := Try.isAgg79
  z46 := Try.sizeOf79
  v46 := Try.zeroValue79
  t50 := Try.underlying56
  a50 := Try.isAgg56
  z50 := Try.sizeOf56
  v50 := Try.zeroValue56
  t53 := Try.underlying85
  a53 := Try.isAgg85
  z53 := Try.sizeOf85
  v53 := Try.zeroValue85
  t55 := Try.underlying87
  a55 := Try.isAgg87
  z55 := Try.sizeOf87
  v55 := Try.zeroValue87
  t66 := Try.underlying88
  a66 := Try.isAgg88
  z66 := Try.sizeOf88
  v66 := Try.zeroValue88
  t70 := Try.underlying92
  a70 := Try.isAgg92
  z70 := Try.sizeOf92
  v70 := Try.zeroValue92
  t76 := Try.underlying94
  a76 := Try.isAgg94
  z76 := Try.sizeOf94
  v76 := Try.zeroValue94
  t77 := Try.underlying95
  a77 := Try.isAgg95
  z77 := Try.sizeOf95
  v77 := Try.zeroValue95 }
end Go.Proofs

/- The library's sort, as the walks ask of it. -/
namespace Go.Proofs.Ytpepmhmgfpkdmaa
open Go Go.Am Go.Cl Go.Sort
set_option maxRecDepth 100000

theorem perm_of {zs : List Int} {d' : Array Int} (h : PermIn 0 zs.toArray.size zs.toArray d') : d'.toList.Perm zs := by
  obtain ⟨h1, _, h3⟩ := h
  have e1 : d'.extract 0 zs.toArray.size = d' := by rw [← h1]; simp
  have e2 : zs.toArray.extract 0 zs.toArray.size = zs.toArray := by simp
  rw [e1, e2] at h3
  exact h3
theorem sorted_of {lt : Int → Int → Bool} {zs : List Int} {d' : Array Int} (h : PermIn 0 zs.toArray.size zs.toArray d') (hs : SortedIn lt 0 zs.toArray.size d') : d'.toList.Pairwise fun a b => lt b a = false := by
  rw [List.pairwise_iff_getElem]
  intro i j hi hj hij
  have hj' : j < d'.size := by simpa using hj
  have hi' : i < d'.size := by simpa using hi
  have := hs i j (Nat.zero_le _) hij (by rw [← h.1]; exact hj')
  rw [getElem!_pos d' j hj', getElem!_pos d' i hi'] at this
  simpa using this

theorem mk_av {n : Int} (h : -16777216 ≤ n ∧ n ≤ 16777216) : mk n = av n := by
  have e : RowKit.wrap64 (-n) = -n := by
    unfold RowKit.wrap64; omega
  unfold mk av
  rw [e]
  split <;> omega

theorem _root_.List.set_getElem?_self {α : Type} {l : List α} {k : Nat} {x : α} (h : l[k]? = some x) : l.set k x = l := by
  obtain ⟨h1, h2⟩ := List.getElem?_eq_some_iff.1 h
  rw [← h2, List.set_getElem_self]
end Go.Proofs.Ytpepmhmgfpkdmaa

/- The library's contracts at this dump, laid by the kit's own tool. -/
namespace Go.Proofs
open Go.Shelf Go.Sort Go.Lib Go.RowKit
def Try.laysCompact_ren : Go.Shelf.Ren := ⟨fun | 20 => 32 | n => n, fun | 22 => 37 | 3 => 3 | 4 => 4 | 0 => 0 | n => n, fun | n => n⟩
theorem Try.laysCompact : Go.Proofs.Lays2.n20 Try.prog Try.laysCompact_ren := {
  mixed := by kernel_rfl
  f20 := Try.func32.trans (congrArg some (by kernel_rfl))
  t0 := Try.underlying0
  a0 := Try.isAgg0
  z0 := Try.sizeOf0
  v0 := Try.zeroValue0
  t3 := Try.underlying3
  a3 := Try.isAgg3
  z3 := Try.sizeOf3
  v3 := Try.zeroValue3
  t4 := Try.underlying4
  a4 := Try.isAgg4
  z4 := Try.sizeOf4
  v4 := Try.zeroValue4
  t22 := Try.underlying37
  a22 := Try.isAgg37
  z22 := Try.sizeOf37
  v22 := Try.zeroValue37
  i3 := by kernel_rfl }
/-- slices.Compact at []int, over an array: the library's two loops are walked. (LAID: no walk: one application.) -/
theorem Try.slices_Compact_int_arr (blk off cap : Nat) (d : Array Int) (w : World) (hH : Holds encI w blk off d) (hsz : d.size ≤ 9223372036854775807) (hcap : d.size ≤ cap) :
    Calls Try.prog 32 #[.slice (some ⟨blk, off, none⟩) d.size cap] w fun e w' => e = .returned (.slice (some ⟨blk, off, none⟩) (compactUpTo d d.size).length cap) ∧ ∃ q, w' = putRow encI (Sort.ahead w q) blk off (compactUpTo d d.size ++ List.replicate (d.size - (compactUpTo d d.size).length) 0).toArray := Any.slices_Compact_int_arr Try.laysCompact blk off cap d w hH hsz hcap
/-- slices.Compact at []int: "Compact replaces consecutive runs of equal elements with a single copy. This is like the uniq command found on Unix. Compact modifies the contents of the slice s and returns the modified slice, which may have a smaller length. Compact zeroes the elements between the new length and the original length. The result preserves the nilness of s.": IT RETURNS THE SLICE CUT TO 'Lib.compact zs'; ITS CELLS HOLD 'Lib.compact zs', THEN ZERO VALUES up to the old length; all else is as it was, but for the count of draws. IN THE WORDS OF slices.Sort's CONTRACT ('Holds', 'putRow'): so the everyday 'slices.Sort(xs); xs = slices.Compact(xs)' goes from the one contract to the other. It asks 'zs.length ≤ cap' (every slice's: the reslicing 's[:k]' looks at it). Length 0, nil: '.._empty'. (LAID: no walk: one application.) -/
theorem Try.slices_Compact_int (blk off cap : Nat) (zs : List Int) (w : World) (hH : Holds (Value.int .i64) w blk off zs.toArray) (hsz : zs.length ≤ 9223372036854775807) (hcap : zs.length ≤ cap) :
    Calls Try.prog 32 #[.slice (some ⟨blk, off, none⟩) zs.length cap] w fun e w' => e = .returned (.slice (some ⟨blk, off, none⟩) (Lib.compact zs).length cap) ∧ ∃ q, w' = putRow (Value.int .i64) (Sort.ahead w q) blk off (Lib.compact zs ++ List.replicate (zs.length - (Lib.compact zs).length) 0).toArray := Any.slices_Compact_int Try.laysCompact blk off cap zs w hH hsz hcap
/-- The same at a slice of length 0, a nil one too: it comes back as it is. (LAID: no walk: one application.) -/
theorem Try.slices_Compact_int_empty (a : Option Addr) (cap : Nat) (w : World) :
    Calls Try.prog 32 #[.slice a 0 cap] w fun e w' => e = .returned (.slice a 0 cap) ∧ w' = w := Any.slices_Compact_int_empty Try.laysCompact a cap w
end Go.Proofs

/- The library's Compact, and its sort, as Clean asks of them. -/
namespace Go.Proofs.Ytpepmhmgfpkdmaa
open Go Go.Am Go.Cl Go.Sort Go.Lib
set_option maxRecDepth 100000

theorem compactUpTo_succ (d : Array Int) (m : Nat) : compactUpTo d (m + 1) = compactUpTo d m ++ if keeps d m then [d[m]!] else [] := by
  unfold compactUpTo
  rw [List.range_succ, List.filter_append, List.map_append]
  congr 1
  simp only [List.filter_cons, List.filter_nil]
  split <;> rfl
theorem cmpct_snoc (x : Int) : ∀ (l : List Int), cmpct (l ++ [x]) = cmpct l ++ if l.getLast? = some x then [] else [x]
  | [] => rfl
  | [a] => by
    simp only [List.cons_append, List.nil_append, cmpct, List.getLast?_singleton, Option.some.injEq]
    split
    · rename_i h; simp [h]
    · rename_i h; simp []
  | a :: b :: l => by
    have ih := cmpct_snoc x (b :: l)
    simp only [List.cons_append] at ih ⊢
    have hlast : (a :: b :: l).getLast? = (b :: l).getLast? := by simp
    rw [hlast]
    conv => lhs; unfold cmpct
    conv => rhs; unfold cmpct
    split
    · exact ih
    · rw [ih]; rfl
theorem compact_take (zs : List Int) : ∀ m, m ≤ zs.length → compactUpTo zs.toArray m = cmpct (zs.take m)
  | 0, _ => rfl
  | m + 1, h => by
    have hm : m < zs.length := h
    rw [compactUpTo_succ, compact_take zs m (by omega), take_snoc (List.getElem?_eq_getElem hm), cmpct_snoc]
    congr 1
    have e : zs.toArray[m]! = zs[m] := by rw [getElem!_pos _ _ (by simpa using hm)]; simp
    unfold keeps
    by_cases h0 : m = 0
    · subst h0; simp [e]
    · have hp : m - 1 < zs.length := by omega
      have e2 : zs.toArray[m - 1]! = zs[m - 1] := by rw [getElem!_pos _ _ (by simpa using hp)]; simp
      have e3 : (zs.take m).getLast? = some zs[m - 1] := by
        rw [List.getLast?_eq_getElem?, List.length_take, Nat.min_eq_left (by omega), List.getElem?_take, if_pos (by omega), List.getElem?_eq_getElem hp]
      rw [e3, e, e2]
      simp only [h0, false_or, ne_eq, Option.some.injEq]
      by_cases hh : zs[m] = zs[m - 1]
      · simp [hh]
      · have hh' : ¬ zs[m - 1] = zs[m] := fun x => hh x.symm
        simp [hh, hh']
theorem compact_is (zs : List Int) : compact zs = cmpct zs := by
  unfold compact
  rw [compact_take zs _ (Nat.le_refl _), List.take_length]
theorem cmpct_le : ∀ zs : List Int, (cmpct zs).length ≤ zs.length
  | [] => Nat.le_refl _
  | [a] => Nat.le_refl _
  | a :: b :: l => by
    have := cmpct_le (b :: l)
    unfold cmpct
    split
    · simp at this ⊢; omega
    · simp at this ⊢; omega

theorem c_Compact {G : Nat → Option V} {base k v T t : Nat} {o : List (Option Ob)} {zs : List Int} (hk : base ≤ k) (ho : o[k]? = some (some (.arr v T (ints zs)))) (hl : zs.length ≤ 1000000) :
    C Try.prog G base n_slices_Compact_int_int [.sl k v 0 1 zs.length none] ⟨t, o⟩ fun r σ' => r = .sl k v 0 1 (cmpct zs).length none ∧ ∃ cells, namelessL cells = true ∧ σ' = ⟨t, o.set k (some (.arr v T (ints (cmpct zs) ++ cells)))⟩ := by
  by_cases hz : zs = []
  · subst hz
    refine (C_cut0 (fun p cap w => Any.slices_Compact_int_empty Try.laysCompact p cap w)).conseq fun r σ' ⟨h1, h2⟩ => ⟨h1, [], rfl, ?_⟩
    rw [h2, show ints (cmpct []) ++ [] = ints [] from rfl, List.set_getElem?_self ho]
  · refine (C_cut (zs' := cmpct zs ++ List.replicate (zs.length - (cmpct zs).length) 0) (m := (cmpct zs).length) hk ho hz (by have := cmpct_le zs; simp; omega) (cmpct_le zs) fun blk off cap w hH hcap => ?_).conseq fun r σ' ⟨h1, h2⟩ => ⟨h1, ints (List.replicate (zs.length - (cmpct zs).length) 0), ints_nameless _, ?_⟩
    · have h := Any.slices_Compact_int Try.laysCompact blk off cap zs w hH (by omega) hcap
      rw [compact_is] at h
      exact h
    · rw [h2]; simp [ints]

/-- The library's sort, as Clean calls it. -/
theorem c_SortC {G : Nat → Option V} {base k v t : Nat} {o : List (Option Ob)} {zs : List Int} (hb : base ≤ k) (ho : o[k]? = some (some (.arr v 3 (ints zs)))) (hbd : ∀ n ∈ zs, -9223372036854775808 ≤ n ∧ n ≤ 9223372036854775807) (hl : zs.length ≤ 1000000) :
    ∃ s : List Int, s.length = zs.length ∧ s.Pairwise ks ∧ (∀ n, n ∈ s ↔ n ∈ zs) ∧ C Try.prog G base n_slices_SortFunc_int_int [.sl k v 0 1 zs.length none, .fn (.func n_clause_Clean_S1) [] []] ⟨t, o⟩ fun r σ' => r = .tup [] ∧ σ' = ⟨t, o.set k (some (.arr v 3 (ints s)))⟩ := by
  have hmk : ∀ n, -9223372036854775808 ≤ n ∧ n ≤ 9223372036854775807 → mk n = mabs n := fun n h => by
    unfold mk mabs neg RowKit.wrap64
    split <;> omega
  have hle : ∀ x y : Int, (!ltOf cfC y x) = decide (mk x < mk y ∨ mk x = mk y ∧ x ≤ y) := fun x y => by
    rw [ltC, Bool.eq_iff_iff, Bool.not_eq_true', decide_eq_false_iff_not, decide_eq_true_eq]
    omega
  have hperm := List.mergeSort_perm zs fun x y => !ltOf cfC y x
  refine ⟨zs.mergeSort fun x y => !ltOf cfC y x, hperm.length_eq, ?_, fun n => hperm.mem_iff, ?_⟩
  · have h := List.pairwise_mergeSort (le := fun x y : Int => !ltOf cfC y x) (fun a b c h1 h2 => by
      simp only [hle, decide_eq_true_eq] at *; omega) (fun a b => by
      simp only [hle, Bool.or_eq_true, decide_eq_true_eq]; omega) zs
    refine h.imp_of_mem fun {a b} ha hb hh => ?_
    have ba := hmk a (hbd a (hperm.mem_iff.1 ha))
    have bb := hmk b (hbd b (hperm.mem_iff.1 hb))
    rw [hle, decide_eq_true_eq, ba, bb] at hh
    exact hh
  · by_cases hz : zs = []
    · subst hz
      refine (C_sortF0 (fun p cap w => AnyF.slices_SortFunc_none { Try.laysSortF with } p cap _ w)).conseq fun r σ' hr => ?_
      obtain ⟨rfl, rfl⟩ := hr
      refine ⟨rfl, ?_⟩
      rw [show ints (List.mergeSort [] fun x y => !ltOf cfC y x) = ints [] from by simp, List.set_getElem?_self ho]
    · refine C_sortF (zs' := zs.mergeSort fun x y => !ltOf cfC y x) hb ho hz hperm.length_eq fun blk off cap w hH hblk => ?_
      exact Any.slices_SortFunc_total Try.laysSortF (Value.int .i64) (fun _ => rfl) cfC swoC n_clause_Clean_S1 #[] blk off cap zs.toArray w (enters_of Try.func28 (by kernel_rfl) rfl)
        (fun _ _ _ _ x y => w_CS1 x y _) hH hblk (by simp; omega) (fun x y h1 h2 => by
          rw [ltC, decide_eq_false_iff_not] at h1 h2; omega)
end Go.Proofs.Ytpepmhmgfpkdmaa
