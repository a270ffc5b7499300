/- What terms need: the program's. -/
import Derived.Test.YtfligilbnpcnaaaGreatDoorTerm21
import Derived.Test.YtfligilbnpcnaaaGreatDoorAmD
namespace Go.Proofs.YtfligilbnpcnaaaGreatDoor
open Go Go.Am
set_option maxRecDepth 100000
variable {P : Program} {G : Nat → Option V}

/-- What is asked of the library's sort, at a function. -/
structure SortF (P : Program) (f : FuncId) : Prop where
  some : ∀ (blk off cap : Nat) (zs : List Int) (w : World), Go.Sort.Holds (Value.int .i64) w blk off zs.toArray → blk < w.heap.size → zs.length < 4611686018427387904 →
    Calls P f #[.slice (some ⟨blk, off, none⟩) zs.length cap] w fun e w' => e = .returned (.tuple #[]) ∧ ∃ n os, w' = Go.Sort.grow (Go.Sort.putRow (Value.int .i64) (Go.Sort.ahead w n) blk off (zs.mergeSort fun x y => decide (x ≤ y)).toArray) os
  none : ∀ (p : Option Addr) (cap : Nat) (w : World), Calls P f #[.slice p 0 cap] w fun e w' => e = .returned (.tuple #[]) ∧ w' = w
def nd (L : List Nd) (x : Int) : Nd := L.getD x.toNat zeroNd
def nints (l : List Int) : List V := l.map (V.int .i64)
theorem nints_length (l : List Int) : (nints l).length = l.length := by simp [nints]
theorem w_nx {i n : Nat} (h : i < n) (hn : n ≤ 9223372036854775807) : IntKind.i64.wrap ((i : Int) + 1) = ((i + 1 : Nat) : Int) := by rw [wrap_i64 (by omega) (by omega)]; rfl

theorem nints_nameless (l : List Int) : namelessL (nints l) = true := by
  induction l with
  | nil => rfl
  | cons a l ih =>
    show (nameless (V.int .i64 a) && namelessL (nints l)) = true
    rw [ih]; rfl
theorem frz_n {k w : Nat} (l : List Int) : frzV k w (nints l) (.sl k w 0 1 l.length none) = .lst 1 (nints l) false := by
  have := frz_sl (k := k) (w := w) (sz := 1) (cs := nints l) (fun u hu => by
    obtain ⟨a, _, rfl⟩ := List.mem_map.1 hu
    rfl)
  rwa [nints_length] at this
end Go.Proofs.YtfligilbnpcnaaaGreatDoor

