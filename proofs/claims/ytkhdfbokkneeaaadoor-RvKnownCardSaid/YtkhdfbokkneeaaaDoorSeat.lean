/- What the seat's laws share: the library as text. -/
import Derived.Test.YtkhdfbokkneeaaaDoorCards
import Derived.Test.YtkhdfbokkneeaaaDoorTie
import Derived.WalkKit
import Derived.ProofKit
import Derived.OpenShut
import Derived.Deep.DeepHandedRow
import Derived.Lib.LaidTab
import Derived.Stop.LaidErr
import Derived.Test.YtkhdfbokkneeaaaDoorShelf
import Derived.Test.YtkhdfbokkneeaaaDoorRw15
import Derived.Test.YtkhdfbokkneeaaaDoorAmD
namespace Go.Proofs.YtkhdfbokkneeaaaDoor
open Go Go.Am Go.Rv Go.ChangeShapes Go.WideShapes Go.ChangeAt Go.RowKit
set_option maxRecDepth 100000

theorem gPow : Tryd.prog.globalNamed "internal/strconv.uint64pow10" = some 5 := by kernel_rfl
theorem cells_str2 {I : Imm} {a b : List UInt8} {xs : Array Value} (h : Cells I noNames [.str a, .str b] xs) : xs = #[.string ⟨a.toArray⟩, .string ⟨b.toArray⟩] := by
  obtain ⟨h1, h2⟩ := h
  have h1 : xs.size = 2 := h1.symm
  apply Array.ext
  · simp [h1]
  · intro j hj hj'
    have : j = 0 ∨ j = 1 := by omega
    rcases this with rfl | rfl
    · have := h2 0 _ xs[0] rfl (Array.getElem?_eq_getElem hj)
      generalize xs[0] = y at this
      cases this
      rfl
    · have := h2 1 _ xs[1] rfl (Array.getElem?_eq_getElem hj)
      generalize xs[1] = y at this
      cases this
      rfl
theorem join_map (ps : List (List UInt8)) : (ps.map fun l => (⟨l.toArray⟩ : ByteArray)).map (fun x => x.data.toList) = ps := by
  rw [List.map_map]
  exact (List.map_congr_left fun l _ => by simp).trans (List.map_id ps)
theorem last_fmt (i : Int) (h : i64 i) : lastOk (fmt10 i) := by
  have g : ∀ u, lastOk (Lib.decDigits u) := fun u => by
    have hne : Lib.decDigits u ≠ [] := by
      rw [Lib.decDigits]
      split <;> simp
    refine ⟨(Lib.decDigits u).dropLast, (Lib.decDigits u).getLast hne, (List.dropLast_concat_getLast hne).symm, fun e => ?_⟩
    have := dec_isD u _ (List.getLast_mem hne)
    rw [e] at this
    exact absurd this (by decide)
  have e : fmt10 i = Lib.itoa i := by unfold fmt10; exact if_pos h
  rw [e]; unfold Lib.itoa
  split
  · exact last_cons (g _)
  · exact g _
theorem join_ok (base k v t : Nat) (o : List (Option Ob)) (ps : List (List UInt8)) (n : Nat) (ho : o[k]? = some (some (.arr v 9 (ps.map V.str)))) (hn : n = ps.length) (hp : ∀ p ∈ ps, p.length ≤ 1000) (h100 : n ≤ 100) :
    C Tryd.prog G0 base n_strings_Join [.sl k v 0 1 n none, .str [44, 32]] ⟨t, o⟩ fun u σ' => u = .str (Lib.join ps [44, 32]) ∧ σ' = ⟨t, o⟩ := by
  cases ps with
  | nil =>
    subst hn
    exact C_join0 fun p cap w => Tryd.strings_Join_none p cap _ w
  | cons p l =>
    have hl := join_len (p :: l) hp
    refine C_join ho (by simp) hn fun blk off cap w hc hb hcap => ?_
    have := Tryd.strings_Join blk off cap ((p :: l).map fun l => (⟨l.toArray⟩ : ByteArray)) ⟨[44, 32].toArray⟩ w hc hb (by rw [List.length_map]; omega) (by rw [List.length_map]; exact hcap) (by rw [join_map]; show (Lib.join (p :: l) [44, 32]).length ≤ _; omega)
    rw [join_map, List.length_map] at this
    exact this
def F0 : Lb Tryd.prog where
  fmt := fmt10
  ok := numOk10
  le := fmt10_le
  last := last_fmt
  int := fun i h => by
    have e : fmt10 i = Lib.itoa i := by unfold fmt10; exact if_pos h
    rw [e]
    exact pure_fmt (restX := [.int .i64 10]) gPow (by unfold G0; rfl) (Lib.itoa i) (fun I xs hc => cells_int2 hc) rfl fun w hw => Tryd.strconv_FormatInt_10 i h.1 h.2 w hw
  itoa := fun i h => by
    have e : fmt10 i = Lib.itoa i := by unfold fmt10; exact if_pos h
    rw [e]
    exact pure_fmt (restX := []) gPow (by unfold G0; rfl) (Lib.itoa i) (fun I xs hc => cells_int1 hc) rfl fun w hw => Tryd.strconv_Itoa i h.1 h.2 w hw
  join := join_ok
  trim := fun s hs => by
    refine pure_of_calls (fun I w xs hV hI hc => ?_) rfl
    obtain rfl : xs = #[.string ⟨s.toArray⟩, .string ⟨[32].toArray⟩] := cells_str2 hc
    refine (Tryd.strings_TrimSuffix ⟨s.toArray⟩ ⟨[32].toArray⟩ w (by show s.length ≤ _; omega)).mono fun e w' ⟨he, hw⟩ => ?_
    subst hw
    exact ⟨.str (Lib.trimSuffix s [32]), _, he, .str _ _, rfl, rfl, Ex.refl _⟩
end Go.Proofs.YtkhdfbokkneeaaaDoor
