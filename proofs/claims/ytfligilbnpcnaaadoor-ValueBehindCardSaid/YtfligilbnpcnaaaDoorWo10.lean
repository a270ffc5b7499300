/- The values of terms: what is asked of the terms. -/
import Derived.Test.YtfligilbnpcnaaaDoorWo9
namespace Go.Proofs.YtfligilbnpcnaaaDoor
open Go Go.Am
set_option maxRecDepth 100000
set_option maxHeartbeats 1000000
variable {P : Program} {G : Nat → Option V}
theorem fit_ok {L : List Nd} (hok : okN L) : fit L := by
  intro x h0 h1
  obtain ⟨d, hd⟩ : ∃ d, L[x.toNat]? = some d := ⟨_, List.getElem?_eq_getElem (by omega)⟩
  have e : nd L x = d := by simp [nd, List.getD_eq_getElem?_getD, hd]
  rw [e]
  obtain ⟨hp, h2, hk⟩ := may_parts (hok _ d hd).2.2
  exact ⟨hk, by omega, by omega⟩
theorem nd_i64 {L : List Nd} (hok : okN L) (x : Int) : i64 (nd L x).n := by
  unfold nd
  rw [List.getD_eq_getElem?_getD]
  cases h : L[x.toNat]? with
  | none => simp [i64, zeroNd]
  | some d => exact (hok _ d h).1
end Go.Proofs.YtfligilbnpcnaaaDoor

