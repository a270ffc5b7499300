/- One term's value: the closure of the program's All. -/
import Derived.Test.YtfligilbnpcnaaaGreatDoorWo5
namespace Go.Proofs.YtfligilbnpcnaaaGreatDoor
open Go Go.Am
set_option maxRecDepth 100000
set_option maxHeartbeats 1000000
variable {P : Program} {G : Nat → Option V}

/-- What is known of terms, as the program's map has it. -/
def kEs (K : List (Int × Int)) : List (V × V) := K.map fun p => (.int .i64 p.1, .int .i64 p.2)
def kAt (K : List (Int × Int)) (x : Int) : Option Int := (K.find? fun p => decide (x = p.1)).map (·.2)
theorem keyEq_int (x y : Int) : keyEq [.i] (.int .i64 x) (.int .i64 y) = decide (x = y) := by
  by_cases h : x = y
  · subst h
    simp [keyEq, beqL, V.cells, beqV]
  · simp [keyEq, beqL, V.cells, beqV, h]
theorem mget_kEs (K : List (Int × Int)) (x : Int) : mget [.i] (.int .i64 x) (kEs K) = (kAt K x).map (V.int .i64) := by
  induction K with
  | nil => rfl
  | cons p K ih =>
    simp only [mget, kEs, kAt, List.map_cons, List.find?_cons, keyEq_int] at ih ⊢
    by_cases h : x = p.1
    · simp [h]
    · simp only [h, decide_false]
      exact ih
theorem keyOk_int (x : Int) : keyOk false [.i] (.int .i64 x) := ⟨rfl, by simp [beqL, V.cells, beqV]⟩
theorem keysOk_kEs (K : List (Int × Int)) (x : Int) : keysOk false [.i] (.int .i64 x) (kEs K) := by
  refine ⟨keyOk_int x, fun p hp => ?_⟩
  obtain ⟨q, _, rfl⟩ := List.mem_map.1 hp
  exact ⟨rfl, by simp [beqL, V.cells, beqV]⟩
theorem ite_i64 {c : Prop} [Decidable c] {x y : Int} (h1 : i64 x) (h2 : i64 y) : i64 (if c then x else y) := by split <;> assumption
theorem doW_i64 {op a b : Int} (ha : i64 a) (hb : i64 b) : i64 (doW op a b) := by
  have one (c : Prop) [Decidable c] : i64 (if c then 1 else 0) := by unfold i64; split <;> omega
  have hr : i64 (remS a b) := by
    unfold remS
    split
    · exact ha
    · split
      · unfold i64; omega
      · have h1 := Int.natAbs_tmod a b
        have h2 : (a.tmod b).natAbs ≤ a.natAbs := by rw [h1]; exact Nat.mod_le _ _
        unfold i64 at *
        by_cases h : 0 ≤ a
        · have := Int.tmod_nonneg b h
          omega
        · have := Int.tmod_nonneg b (a := -a) (by omega)
          rw [Int.neg_tmod] at this
          omega
  have hs : i64 (a.fdiv (2 ^ min (andI .i64 b 63).toNat 64)) := by
    have hp : (0 : Int) < 2 ^ min (andI .i64 b 63).toNat 64 := Int.pow_pos (by omega)
    generalize (2 : Int) ^ min (andI .i64 b 63).toNat 64 = m at hp
    rw [Int.fdiv_eq_ediv_of_nonneg _ (by omega)]
    unfold i64 at *
    have h1 := Int.ediv_le_ediv hp (a := a) (b := 9223372036854775807) (by omega)
    have h2 := Int.ediv_le_ediv hp (a := -9223372036854775808) (b := a) (by omega)
    have h3 : (9223372036854775807 : Int) / m ≤ 9223372036854775807 := Int.ediv_le_self _ (by omega)
    have h4 : -9223372036854775808 ≤ (-9223372036854775808 : Int) / m := by
      rw [Int.le_ediv_iff_mul_le hp]
      omega
    omega
  have hdiv : i64 (divS a b) := ite_i64 (by unfold i64; omega) (ite_i64 (wrap_rg _) (wrap_rg _))
  have hdn : i64 (divN a b) := ite_i64 (by unfold i64; omega) (wrap_rg _)
  have hrn : i64 (remN a b) := ite_i64 ha (wrap_rg _)
  have hand : i64 (andI .i64 a b) := wrap_rg _
  have hor : i64 (orI .i64 a b) := wrap_rg _
  have hxor : i64 (xorI .i64 a b) := wrap_rg _
  exact ite_i64 (wrap_rg _) (ite_i64 (wrap_rg _) (ite_i64 (wrap_rg _) (ite_i64 hdiv (ite_i64 hr (ite_i64 hdn (ite_i64 hrn (ite_i64 hand (ite_i64 hor (ite_i64 hxor (ite_i64 (wrap_rg _) (ite_i64 (wrap_rg _) (ite_i64 hs (ite_i64 (one _) (ite_i64 (one _) (ite_i64 (one _) (by unfold i64; omega))))))))))))))))
end Go.Proofs.YtfligilbnpcnaaaGreatDoor

