/- Who is called. -/
import Derived.Test.YtaidbdgndljaeaaGreatDoorJ9
/- Who is called. -/
namespace Go.Proofs.YtaidbdgndljaeaaGreatDoor
open Go Go.Am Go.Rv Go.Rg
set_option maxRecDepth 100000
variable {P : Program} {G : Nat → Option V}
end Go.Proofs.YtaidbdgndljaeaaGreatDoor
/- Who is called: the function, and the law. -/
namespace Go.Proofs.YtaidbdgndljaeaaGreatDoor
open Go Go.Am Go.Rv Go.Rg
set_option maxRecDepth 100000
structure FnB (f : Rg.Fn) : Prop where
  len : f.code.length ≤ 1000
  pl : 0 ≤ f.pl ∧ f.pl ≤ 4000
  imm : ∀ x ∈ f.code, -8589934592 ≤ x.imm ∧ x.imm ≤ 8589934592
theorem fnB_of {m : Im} {r : List Rg.Fn} (h : ofS m = .inl r) (hw : ∀ w ∈ m.code, 0 ≤ w ∧ w < 4294967296) (hl : m.code.length ≤ 1000) {n : Nat} {f : Rg.Fn} (hn : r[n]? = some f) : FnB f := by
  obtain ⟨hr, hlen, hg⟩ := ofS_good h
  obtain ⟨s, hs, rfl, hgd⟩ := hg n f hn
  obtain ⟨a, b, _, _, hab, hbl, es, ew⟩ := (right_rt hr).bounds hs
  have hwl : (words m n).length = b - a := by rw [ew]; simp; omega
  have hcl : (codeOf (words m n)).length = b - a := by simp [codeOf, hwl]
  have hwb : ∀ w ∈ words m n, 0 ≤ w ∧ w < 4294967296 := fun w h => by
    rw [ew] at h
    exact hw w (List.mem_of_mem_drop (List.mem_of_mem_take h))
  refine ⟨by show (codeOf (words m n)).length ≤ _; omega, by show 0 ≤ s.2 ∧ s.2 ≤ 4000; omega, fun x hx => ?_⟩
  obtain ⟨w, hw, rfl⟩ := List.mem_map.1 hx
  cases hd : dec w with
  | none => simp [zeroI]
  | some y => exact (dec_le (hwb w hw).1 hd).2
end Go.Proofs.YtaidbdgndljaeaaGreatDoor
/- The law RegionsCalls. -/
namespace Go.Proofs.YtaidbdgndljaeaaGreatDoor
open Go Go.Am Go.Rv Go.Rg
set_option maxRecDepth 100000
set_option maxHeartbeats 2000000
end Go.Proofs.YtaidbdgndljaeaaGreatDoor
