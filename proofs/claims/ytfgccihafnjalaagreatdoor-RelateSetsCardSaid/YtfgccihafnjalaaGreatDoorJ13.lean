/- The library's sort at pairs. -/
import Derived.Test.YtfgccihafnjalaaGreatDoorSq1
import Derived.Test.YtfgccihafnjalaaGreatDoorJ5
import Derived.Shelf.SlSortCmp.WholeK
import Derived.Test.YtfgccihafnjalaaGreatDoorShP
import Derived.Test.YtfgccihafnjalaaGreatDoorJ7
import Derived.Test.YtfgccihafnjalaaGreatDoorJ12
import Derived.Test.YtfgccihafnjalaaGreatDoorSeat
namespace Go.Proofs.YtfgccihafnjalaaGreatDoor
open Go Go.Am Go.Sort Go.Re
set_option maxRecDepth 100000
variable {G : Nat → Option V}
theorem flat_get {α : Type} [Inhabited α] (enc : α → List Value) (k : Nat) (hk : ∀ x, (enc x).length = k) : ∀ (l : List α) (t : Nat), t < l.length * k → (l.flatMap enc)[t]? = some ((enc l[t / k]!)[t % k]!)
 | [], t, h => by simp at h
 | x :: l, t, h => by
   have k0 : 0 < k := by rcases Nat.eq_zero_or_pos k with e | e; · subst e; simp at h
                         ·exact e
   rw [List.flatMap_cons]
   rcases Nat.lt_or_ge t k with h1 | h1
   ·rw [List.getElem?_append_left (by rw [hk]; exact h1), Nat.div_eq_of_lt h1, Nat.mod_eq_of_lt h1]
    have : t < (enc x).length := by rw [hk]; exact h1
    simp [this]
   ·rw [List.getElem?_append_right (by rw [hk]; exact h1), hk]
    have ih := flat_get enc k hk l (t - k) (by rw [List.length_cons, Nat.succ_mul] at h; omega)
    rw [ih]
    have e1 : t / k = (t - k) / k + 1 := by rw [← Nat.sub_add_cancel h1]; simp [k0]
    have e2 : t % k = (t - k) % k := by conv => lhs; rw [← Nat.sub_add_cancel h1]; 
                                        simp
    rw [e1, e2]
    simp
theorem QDh {α : Type} [Inhabited α] (enc : α → List Value) (k : Nat) (hk : ∀ x, (enc x).length = k) (l : List α) : (l.flatMap enc).toArray = flatK enc k l.toArray := by
 have hlen : (l.flatMap enc).length = l.length * k := by
  induction l with
  | nil => simp
  | cons x l ih => rw [List.flatMap_cons, List.length_append, hk, ih, List.length_cons, Nat.succ_mul]; omega
 refine ext_get! (by simp [hlen]) fun t ht => ?_
 have ht' : t < l.length * k := by simpa [hlen] using ht
 rw [get_flatK enc k _ t (by simpa using ht')]
 have := flat_get enc k hk l t ht'
 simp [this]
def prK (p : Pr) : List (IntKind × Int) := [(.i64, p.v), (.u8, p.k), (.i64, p.n)]
def prE (p : Pr) : List Value := [.int .i64 p.v, .int .u8 p.k, .int .i64 p.n]
theorem prK_C (l : List Pr) : (l.flatMap prK).map cI = fl prC l := by
 induction l with
 | nil => rfl
 | cons x l ih => rw [List.flatMap_cons, List.map_append, ih]; rfl
theorem prK_E (l : List Pr) : (l.flatMap prK).map vI = l.flatMap prE := by
 induction l with
 | nil => rfl
 | cons x l ih => rw [List.flatMap_cons, List.map_append, ih]; rfl
theorem QpZ (l : List Pr) : (l.flatMap prK).length = l.length * 3 := by
 induction l with
 | nil => rfl
 | cons x l ih => rw [List.flatMap_cons, List.length_append, ih, List.length_cons, Nat.succ_mul, Nat.add_comm]; rfl
theorem ltP (x y : Pr) : ltOf cfP x y = decide (lt x y) := by
 have key : cfP x y < 0 ↔ lt x y := by
  unfold cfP orI Qs6 lt
  repeat' split
  all_goals omega
 unfold ltOf
 exact decide_eq_decide.2 key
theorem swoP : SWO (ltOf cfP) where
 irrefl x := by rw [ltP]; simpa using QiM x
 trans x y z h1 h2 := by rw [ltP, decide_eq_true_eq] at *; exact lt_trans h1 h2
 ntrans x y z h1 h2 := by
  rw [ltP, decide_eq_false_iff_not] at *
  unfold lt at *; omega
theorem QzJ : QhD Tryz.prog G := fun {base k v t} {o} {l} {n} hn hb ho hl => by
 subst hn
 by_cases hz : l = []
 ·subst hz
  refine (Qxv (fun p cap w => AnyF.slices_SortFunc_none Tryz.laysSortP p cap _ w)).conseq fun r σ' hr => ?_
  obtain ⟨rfl, rfl⟩ := hr
  refine ⟨rfl, ?_⟩
  have e : fl prC (QlM []) = fl prC [] := by simp [QlM]
  obtain ⟨h1, h2⟩ := List.getElem?_eq_some_iff.1 ho
  rw [e, ← h2, List.set_getElem_self]
 ·rw [← prK_C] at ho ⊢
  refine QD6 (zs' := (QlM l).flatMap prK) hb ho (QpZ l) (List.length_pos_iff.2 hz) (by rw [QpZ, QpZ, Qkp]) fun blk off cap w hH hblk => ?_
  rw [prK_E, QDh prE 3 (fun _ => rfl)] at hH ⊢
  have h := AnyQ.slices_SortFunc_total Tryz.laysSortP 3 (Tryz.isAgg64) (Tryz.sizeOf64) prE (fun _ => rfl) (fun x v hv => by simp [prE] at hv; rcases hv with rfl | rfl | rfl <;> rfl) cfP swoP 31 #[] blk off cap l.toArray w (enters_of Tryz.func31 (by kernel_rfl) rfl)
   (fun _ _ _ _ x y => QCA x y _) hH hblk (by simp; omega) (fun x y h1 h2 => by
    rw [ltP, decide_eq_false_iff_not] at h1 h2
    rcases QkK x y with k | k | k
    ·exact absurd k h1
    ·exact k
    ·exact absurd k h2)
  refine h.mono fun e w' ⟨he, n, os, hw⟩ => ⟨he, n, os, ?_⟩
  rw [hw]
  have e : (l.mergeSort fun x y => !ltOf cfP y x) = QlM l := by
   unfold QlM; congr 1; funext x y; rw [ltP]
  rw [show l.toArray.toList = l from rfl, e]
  rfl
end Go.Proofs.YtfgccihafnjalaaGreatDoor
namespace Go.Proofs.YtfgccihafnjalaaGreatDoor
open Go Go.Am
set_option maxRecDepth 100000
def kF : Fmt Tryz.prog G0 := { fmt := Qnu, le := QwV, int := fun i h1 h2 => Qqz i ⟨h1, h2⟩, itoa := fun i h1 h2 => c_Itoa i ⟨h1, h2⟩ }
theorem QDD : Works Tryz.prog G0 := Qw7 QqV kF QzJ c_fn2
end Go.Proofs.YtfgccihafnjalaaGreatDoor
