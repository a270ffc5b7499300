/- Text: the joined parts. -/
import Derived.Test.YtkhdfbokkneeaaaDoorRvE
import Derived.Lib.Join
import Derived.Lib.Strings
namespace Go.Rv
open Go Go.Am
set_option maxRecDepth 100000

theorem glue_tail : ∀ l : List (List UInt8), l ≠ [] → (glue l).tail = 32 :: Lib.join l [44, 32]
  | [], h => absurd rfl h
  | [p], _ => by simp [glue, Lib.join_one]
  | p :: q :: l, _ => by
    have ih := glue_tail (q :: l) (by simp)
    simp only [glue, List.tail_cons] at ih ⊢
    rw [Lib.join_cons, Lib.joinTail, List.map_cons, List.flatten_cons]
    rw [List.cons.injEq] at ih
    rw [Lib.join_cons, Lib.joinTail] at ih
    simp [ih.2]

def lastOk (l : List UInt8) : Prop := ∃ s c, l = s ++ [c] ∧ c ≠ 32
theorem join_last : ∀ l : List (List UInt8), l ≠ [] → (∀ p ∈ l, lastOk p) → lastOk (Lib.join l [44, 32])
  | [], h, _ => absurd rfl h
  | [p], _, hp => by rw [Lib.join_one]; exact hp p (by simp)
  | p :: q :: l, _, hp => by
    obtain ⟨s, c, h, hc⟩ := join_last (q :: l) (by simp) (fun r hr => hp r (by simp at hr ⊢; right; exact hr))
    rw [Lib.join_cons, Lib.joinTail, List.map_cons, List.flatten_cons]
    rw [Lib.join_cons, Lib.joinTail] at h
    exact ⟨p ++ ([44, 32] ++ s), c, by rw [List.append_assoc, h]; simp, hc⟩

theorem trim_no {s : List UInt8} (h : lastOk s) : Lib.trimSuffix s [32] = s := by
  obtain ⟨u, c, rfl, hc⟩ := h
  unfold Lib.trimSuffix
  rw [if_neg]
  intro h
  obtain ⟨t, ht⟩ := List.isSuffixOf_iff_suffix.1 h
  have := (List.append_inj' ht rfl).2
  simp at this
  exact hc this.symm
theorem trim_yes (s : List UInt8) : Lib.trimSuffix (s ++ [32]) [32] = s := by
  unfold Lib.trimSuffix
  rw [if_pos (by simp [Lib.hasSuffix])]
  simp

theorem text_is (name : List UInt8) (l : List (List UInt8)) (h : ∀ p ∈ l, lastOk p) : Lib.trimSuffix (name ++ [32] ++ Lib.join l [44, 32]) [32] = name ++ (glue l).tail := by
  cases l with
  | nil => rw [Lib.join_nil, List.append_nil, trim_yes]; simp [glue]
  | cons p l =>
    rw [trim_no, glue_tail _ (by simp)]
    · simp
    · obtain ⟨s, c, h, hc⟩ := join_last (p :: l) (by simp) h
      exact ⟨name ++ [32] ++ s, c, by rw [h]; simp, hc⟩
end Go.Rv
