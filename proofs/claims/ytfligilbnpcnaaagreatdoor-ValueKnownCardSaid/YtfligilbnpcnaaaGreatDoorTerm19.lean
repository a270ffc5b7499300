/- What only looks at a small heap, anywhere in a great one; all that roots reach. -/
import Derived.Test.YtfligilbnpcnaaaGreatDoorTerm17
namespace Go.Am
open Go
variable {P : Program} {G : Nat → Option V}
theorem setAll_same {r : Nat → Nat} : ∀ (l : List (Option Ob)) (i : Nat) (oB : List (Option Ob)), (∀ j x, l[j]? = some x → oB[r (i + j)]? = some (x.map (Ob.ren r))) → setAll r i l oB = oB
  | [], _, _, _ => rfl
  | x :: l, i, oB, h => by
    have h0 := h 0 x rfl
    have he : oB.set (r i) (x.map (Ob.ren r)) = oB := by
      refine List.ext_getElem? fun m => ?_
      rw [List.getElem?_set]
      split
      · rename_i e
        have h0' : oB[r i]? = some (x.map (Ob.ren r)) := h0
        subst e
        rw [h0']
        simp [(List.getElem?_eq_some_iff.1 h0').1]
      · rfl
    rw [setAll, he]
    exact setAll_same l (i + 1) oB fun j y hy => by
      rw [show i + 1 + j = i + (j + 1) from by omega]
      exact h (j + 1) y hy

theorem C_readS {oS oB : List (Option Ob)} (rl : List Nat) {t f base : Nat} {args argsS : List V} {r r' : V}
    (h : C P G oS.length f argsS ⟨t, oS⟩ fun v σ => v = r ∧ ∃ t', t ≤ t' ∧ σ = ⟨t', oS⟩) (hrl : rl.length = oS.length) (hnd : rl.Nodup) (hlt : ltAll oB.length rl)
    (hold : ∀ j x, oS[j]? = some x → ∃ ob, x = some ob ∧ ob.under oS.length = true ∧ oB[rOf rl oB.length j]? = some (some (ob.ren (rOf rl oB.length))))
    (hargs : underL oS.length argsS = true) (ha : args = renL (rOf rl oB.length) argsS) (hr : r' = V.ren (rOf rl oB.length) r) :
    C P G base f args ⟨t, oB⟩ fun v σ => v = r' ∧ ∃ t', t ≤ t' ∧ σ = ⟨t', oB⟩ := by
  rw [ha]
  refine C_frame (σB := ⟨t, oB⟩) (bB := base) h hrl hnd (ltAll_ok hlt) (fun i ob ho => ?_) (fun i h1 h2 => by omega) (Nat.le_refl _) hargs (fun vS σS hq => ?_)
  · obtain ⟨ob', h1, h2, h3⟩ := hold i _ ho
    cases h1
    exact ⟨h2, h3⟩
  · obtain ⟨rfl, t', ht', rfl⟩ := hq
    refine ⟨Nat.le_refl _, hr.symm, t', ht', ?_⟩
    have : merged (rOf rl oB.length) oS.length oB oS = oB := by
      unfold merged
      rw [List.take_of_length_le (Nat.le_refl _), List.drop_eq_nil_of_le (Nat.le_refl _), List.map_nil, List.append_nil]
      refine setAll_same oS 0 oB fun j x hx => ?_
      obtain ⟨ob, rfl, _, h3⟩ := hold j x hx
      rw [Nat.zero_add]
      exact h3
    show H.mk t' _ = _
    rw [this]
end Go.Am

namespace Go.Proofs.YtfligilbnpcnaaaGreatDoor
open Go Go.Am
set_option maxRecDepth 100000
set_option maxHeartbeats 1000000
variable {P : Program} {G : Nat → Option V}

theorem take_snoc2 {α : Type} {L : List α} {i : Nat} {d : α} (h : L[i]? = some d) : L.take (i + 1) = L.take i ++ [d] := by rw [List.take_add_one, h]; rfl
theorem mem_walks {L : List Nd} (hwf : gwf L) : ∀ (roots S : List Int), (∀ x ∈ S, ∀ p ∈ pts L x, p ∈ S) → ∀ x, x ∈ walks L roots S ↔ x ∈ S ∨ ∃ r ∈ roots, (0 ≤ r ∧ r < L.length) ∧ x ∈ usesL L [r]
  | [], S, _, x => by simp [walks]
  | r :: roots, S, hS, x => by
    have hw : walks L (r :: roots) S = walks L roots (walkN L (r.toNat + 1) r S) := rfl
    obtain ⟨w1, w2, w3⟩ := walk_closed hwf (r.toNat + 1) r S (by omega)
    have hc : ∀ x ∈ walkN L (r.toNat + 1) r S, ∀ p ∈ pts L x, p ∈ walkN L (r.toNat + 1) r S := fun x hx p hp => by
      by_cases h : x ∈ S
      · exact w1 p (hS x h p hp)
      · exact w3 x hx h p hp
    have hm : ∀ x, x ∈ walkN L (r.toNat + 1) r S ↔ x ∈ S ∨ ((0 ≤ r ∧ r < L.length) ∧ x ∈ usesL L [r]) := fun x => by
      constructor
      · intro hx
        exact walk_pred (Q := fun x => x ∈ S ∨ ((0 ≤ r ∧ r < L.length) ∧ x ∈ usesL L [r])) (fun z _ _ hz p hp => by
          rcases hz with hz | ⟨hr, hz⟩
          · exact .inl (hS z hz p hp)
          · exact .inr ⟨hr, uses_closed hwf hz hp⟩) (r.toNat + 1) r S (fun h0 h1 => .inr ⟨⟨h0, h1⟩, uses_self hwf h0 h1⟩) (fun z hz => .inl hz) x hx
      · rintro (hx | ⟨hr, hx⟩)
        · exact w1 x hx
        · exact uses_pred (Q := fun x => x ∈ walkN L (r.toNat + 1) r S) (fun z _ _ hz p hp => hc z hz p hp) (w2 hr.1 hr.2) x hx
    rw [hw, mem_walks hwf roots _ hc x, hm x]
    simp only [List.mem_cons, exists_eq_or_imp, or_assoc]

/-- Whether one of the roots reaches it. -/
def inR (L : List Nd) (roots : List Int) (x : Int) : Bool := roots.any fun r => decide (0 ≤ r ∧ r < L.length) && decide (x ∈ usesL L [r])
def usesR (L : List Nd) (roots : List Int) (n : Nat) : List Int := ((List.range n).filter fun (k : Nat) => inR L roots (k : Int)).map fun (k : Nat) => (k : Int)
theorem usesR_succ (L : List Nd) (roots : List Int) (n : Nat) : usesR L roots (n + 1) = usesR L roots n ++ (if inR L roots n then [(n : Int)] else []) := by
  simp only [usesR, List.range_succ, List.filter_append, List.map_append]
  congr 1
  by_cases h : inR L roots n <;> simp [h]
theorem usesR_len (L : List Nd) (roots : List Int) (n : Nat) : (usesR L roots n).length ≤ n := by
  rw [usesR, List.length_map]
  exact Nat.le_trans (List.length_filter_le _ _) (by simp)

theorem sorted_ext : ∀ (l m : List Int), l.Pairwise (· < ·) → m.Pairwise (· < ·) → (∀ x, x ∈ l ↔ x ∈ m) → l = m
  | [], [], _, _, _ => rfl
  | [], y :: m, _, _, h => by have := (h y).2 (List.mem_cons_self ..); simp at this
  | x :: l, [], _, _, h => by have := (h x).1 (List.mem_cons_self ..); simp at this
  | x :: l, y :: m, hl, hm, h => by
    rw [List.pairwise_cons] at hl hm
    have hxy : x = y := by
      have h1 := (h x).1 (List.mem_cons_self ..)
      have h2 := (h y).2 (List.mem_cons_self ..)
      rcases List.mem_cons.1 h1 with e | e
      · exact e
      · rcases List.mem_cons.1 h2 with e2 | e2
        · exact e2.symm
        · have := hl.1 y e2
          have := hm.1 x e
          omega
    subst hxy
    rw [sorted_ext l m hl.2 hm.2 fun z => ?_]
    constructor
    · intro hz
      rcases List.mem_cons.1 ((h z).1 (List.mem_cons_of_mem _ hz)) with e | e
      · have := hl.1 z hz; omega
      · exact e
    · intro hz
      rcases List.mem_cons.1 ((h z).2 (List.mem_cons_of_mem _ hz)) with e | e
      · have := hm.1 z hz; omega
      · exact e

theorem usesR_eq {L : List Nd} (hwf : gwf L) (roots : List Int) : usesR L roots L.length = usesL L roots := by
  refine sorted_ext _ _ ?_ uses_sorted fun x => ?_
  · rw [usesR, List.pairwise_map]
    refine List.Pairwise.imp (R := fun a b => a < b) (fun h => by omega) ?_
    exact List.Pairwise.filter _ List.pairwise_lt_range
  · rw [mem_uses, mem_walks hwf roots [] (by simp) x]
    simp only [usesR, List.mem_map, List.mem_filter, List.mem_range, inR, List.any_eq_true, Bool.and_eq_true, decide_eq_true_eq, List.not_mem_nil, false_or]
    constructor
    · rintro ⟨k, ⟨_, r, h1, h2, h3⟩, rfl⟩
      exact ⟨r, h1, h2, h3⟩
    · rintro ⟨r, h1, h2, h3⟩
      have := uses_ok x h3
      exact ⟨x.toNat, ⟨by omega, r, h1, h2, by rw [Int.toNat_of_nonneg this.1]; exact h3⟩, by omega⟩

theorem mH_3 {w0 w1 : Nat} {L : List Nd} {x y : Option Ob} {ex : List (Option Ob)} : (mH w0 w1 L ++ x :: y :: ex)[3]? = some y := rfl
theorem mHs_3 {w0 w1 : Nat} {L : List Nd} {x y z : Option Ob} {ex : List (Option Ob)} : (mH w0 w1 L ++ x :: y :: ex).set 3 z = mH w0 w1 L ++ x :: z :: ex := rfl

end Go.Proofs.YtfligilbnpcnaaaGreatDoor

