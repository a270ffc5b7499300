/- Contracts: rows gone through by functions handed over. -/
import Derived.Test.YtpepmhmgfpkdmaaCw1
namespace Go.Proofs.Ytpepmhmgfpkdmaa
open Go Go.Am Go.Cl
set_option maxRecDepth 100000
variable {P : Program} {G : Nat → Option V}

/-- A function handed over tells a truth of numbers, and only reads. -/
def Tells (P : Program) (G : Nat → Option V) (base : Nat) (f : V) (o : List (Option Ob)) (p : Int → Bool) (c : List Int) : Prop :=
  ∀ t n, n ∈ c → CV P G base f [.int .i64 n] ⟨t, o⟩ fun v σ => v = .bool (p n) ∧ ∃ t', t ≤ t' ∧ σ = ⟨t', o⟩

/-- The first place of which it is true; -1: none. -/
def fstIdx (p : Int → Bool) : List Int → Nat → Int
  | [], _ => -1
  | n :: c, i => if p n then i else fstIdx p c (i + 1)
theorem fstIdx_neg {p : Int → Bool} : ∀ {c : List Int} {i : Nat}, (∀ n ∈ c, p n = false) → fstIdx p c i = -1
  | [], _, _ => rfl
  | n :: c, i, h => by rw [fstIdx, h n (by simp), if_neg (by simp), fstIdx_neg fun m hm => h m (by simp [hm])]
theorem fstIdx_at {p : Int → Bool} : ∀ {c : List Int} {i k : Nat} {n : Int}, (∀ m ∈ c.take k, p m = false) → c[k]? = some n → p n = true → fstIdx p c i = ((i + k : Nat) : Int)
  | [], _, _, _, _, h, _ => by simp at h
  | m :: c, i, 0, n, _, h, hp => by simp at h; subst h; simp [fstIdx, hp]
  | m :: c, i, k + 1, n, h, hk, hp => by
    rw [fstIdx, h m (by simp), if_neg (by simp), fstIdx_at (k := k) (fun m hm => h m (by simp [hm])) (by simpa using hk) hp]
    congr 1; omega
theorem take_snoc {α : Type} {l : List α} {k : Nat} {x : α} (h : l[k]? = some x) : l.take (k + 1) = l.take k ++ [x] := by rw [List.take_add_one, h]; rfl

end Go.Proofs.Ytpepmhmgfpkdmaa

