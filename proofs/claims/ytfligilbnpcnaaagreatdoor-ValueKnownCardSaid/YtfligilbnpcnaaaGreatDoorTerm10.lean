/- The plain law of terms: what is reached, how deep, how long, which texts. -/
import Derived.Test.YtfligilbnpcnaaaGreatDoorTerm9
namespace Go.Proofs.YtfligilbnpcnaaaGreatDoor
open Go Go.Am
set_option maxRecDepth 100000

/-- Nodes that may be, each over those ahead of it. -/
def okN (L : List Nd) : Prop := ∀ (i : Nat) (d : Nd), L[i]? = some d → i64 d.n ∧ i64 d.a ∧ d.may i = true

theorem may_parts {d : Nd} {i : Nat} (h : d.may i = true) : (∀ p ∈ d.parts, 0 ≤ p ∧ p < i) ∧ (0 ≤ d.op ∧ d.op ≤ 16) ∧ (d.kind = 1 ∨ d.kind = 2 ∨ d.kind = 3 ∨ d.kind = 4) := by
  simp only [Nd.may] at h
  refine ⟨?_, ?_, ?_⟩
  · simp only [Nd.parts]; grind
  · grind
  · grind

theorem okN.wf {L : List Nd} (h : okN L) : gwf L := fun i d hd p hp => (may_parts (h i d hd).2.2).1 p hp
theorem okN_nil : okN [] := fun i d h => by simp at h
theorem okN_addN {L : List Nd} (h : okN L) {d : Nd} (hn : i64 d.n) (ha : i64 d.a) : okN (addN L d).2 := by
  unfold addN
  split
  · rename_i hm
    split
    · exact h
    · intro i e he
      by_cases hi : i < L.length
      · rw [List.getElem?_append_left hi] at he; exact h i e he
      · have : i = L.length := by
          have := (List.getElem?_eq_some_iff.1 he).1
          simp at this; omega
        subst this
        simp at he; subst he
        exact ⟨hn, ha, hm⟩
  · exact h
theorem okN_fold : ∀ (l : List Nd) (L : List Nd), okN L → (∀ d ∈ l, i64 d.n ∧ i64 d.a) → okN (l.foldl (fun L d => (addN L d).2) L)
  | [], _, h, _ => h
  | d :: l, L, h, hl => okN_fold l _ (okN_addN h (hl d (by simp)).1 (hl d (by simp)).2) fun e he => hl e (by simp [he])
theorem okN_made (l : List Nd) (hl : ∀ d ∈ l, i64 d.n ∧ i64 d.a) : okN (madeL l) := okN_fold l [] okN_nil hl
/-- The parts of a term, by its number. -/
def pts (L : List Nd) (x : Int) : List Int := (L.getD x.toNat zeroNd).parts
theorem pts_lt {L : List Nd} (h : gwf L) {x : Int} (h0 : 0 ≤ x) (h1 : x < L.length) : ∀ p ∈ pts L x, 0 ≤ p ∧ p < x := by
  intro p hp
  obtain ⟨d, hd⟩ : ∃ d, L[x.toNat]? = some d := ⟨_, List.getElem?_eq_getElem (by omega)⟩
  have : pts L x = d.parts := by simp [pts, List.getD_eq_getElem?_getD, hd]
  rw [this] at hp
  have := h _ d hd p hp
  omega

theorem walkN_succ (L : List Nd) (f : Nat) (id : Int) (S : List Int) : walkN L (f + 1) id S = if 0 ≤ id ∧ id < L.length ∧ id ∉ S then (pts L id).foldl (fun S p => walkN L f p S) (S ++ [id]) else S := rfl

/-- What holds of a term and of its parts' parts holds of all that is reached. -/
theorem walk_pred {L : List Nd} {Q : Int → Prop} (hq : ∀ x : Int, 0 ≤ x → x < L.length → Q x → ∀ p ∈ pts L x, Q p) : ∀ (f : Nat) (id : Int) (S : List Int), (0 ≤ id → id < L.length → Q id) → (∀ x ∈ S, Q x) → ∀ x ∈ walkN L f id S, Q x
  | 0, _, _, _, hS => hS
  | f + 1, id, S, hid, hS => by
    rw [walkN_succ]
    split
    · rename_i hc
      have hfold : ∀ (ps : List Int) (S : List Int), (∀ p ∈ ps, Q p) → (∀ x ∈ S, Q x) → ∀ x ∈ ps.foldl (fun S p => walkN L f p S) S, Q x := fun ps => by
        induction ps with
        | nil => intro S _ hS; exact hS
        | cons p ps ih => intro S hp hS; exact ih _ (fun q hq' => hp q (by simp [hq'])) (walk_pred hq f p S (fun _ _ => hp p (by simp)) hS)
      refine hfold _ _ (hq id hc.1 hc.2.1 (hid hc.1 hc.2.1)) fun x hx => ?_
      simp only [List.mem_append, List.mem_singleton] at hx
      rcases hx with hx | rfl
      · exact hS x hx
      · exact hid hc.1 hc.2.1
    · exact hS

/-- What is reached is closed. -/
theorem walk_closed {L : List Nd} (hwf : gwf L) : ∀ (f : Nat) (id : Int) (S : List Int), id.toNat < f → (∀ x ∈ S, x ∈ walkN L f id S) ∧ (0 ≤ id → id < L.length → id ∈ walkN L f id S) ∧ ∀ x ∈ walkN L f id S, x ∉ S → ∀ p ∈ pts L x, p ∈ walkN L f id S
  | 0, _, _, h => by omega
  | f + 1, id, S, hf => by
    have hfold : ∀ (ps : List Int) (S : List Int), (∀ p ∈ ps, p.toNat < f) → (∀ x ∈ S, x ∈ ps.foldl (fun S p => walkN L f p S) S) ∧ (∀ p ∈ ps, 0 ≤ p → p < L.length → p ∈ ps.foldl (fun S p => walkN L f p S) S) ∧ ∀ x ∈ ps.foldl (fun S p => walkN L f p S) S, x ∉ S → ∀ p ∈ pts L x, p ∈ ps.foldl (fun S p => walkN L f p S) S := fun ps => by
      induction ps with
      | nil => intro S _; exact ⟨fun x h => h, fun p h => by simp at h, fun x h h' => absurd h h'⟩
      | cons q ps ih =>
        intro S hps
        obtain ⟨a1, a2, a3⟩ := walk_closed hwf f q S (hps q (by simp))
        obtain ⟨b1, b2, b3⟩ := ih (walkN L f q S) fun p hp => hps p (by simp [hp])
        refine ⟨fun x hx => b1 x (a1 x hx), fun p hp h0 h1 => ?_, fun x hx hxS p hp => ?_⟩
        · simp only [List.mem_cons] at hp
          rcases hp with rfl | hp
          · exact b1 _ (a2 h0 h1)
          · exact b2 p hp h0 h1
        · by_cases hxw : x ∈ walkN L f q S
          · exact b1 _ (a3 x hxw hxS p hp)
          · exact b3 x hx hxw p hp
    rw [walkN_succ]
    split
    · rename_i hc
      have hp := pts_lt hwf hc.1 hc.2.1
      obtain ⟨a1, a2, a3⟩ := hfold (pts L id) (S ++ [id]) fun p hp' => by have := hp p hp'; omega
      refine ⟨fun x hx => a1 x (by simp [hx]), fun _ _ => a1 id (by simp), fun x hx hxS p hpx => ?_⟩
      by_cases hxi : x = id
      · subst hxi
        have := hp p hpx
        exact a2 p hpx this.1 (by omega)
      · exact a3 x hx (by simp [hxS, hxi]) p hpx
    · rename_i hc
      refine ⟨fun x h => h, fun h0 h1 => ?_, fun x h h' => absurd h h'⟩
      by_cases hm : id ∈ S
      · exact hm
      · exact absurd ⟨h0, h1, hm⟩ hc

theorem mem_uses {L : List Nd} {roots : List Int} {x : Int} : x ∈ usesL L roots ↔ x ∈ walks L roots [] := by
  unfold usesL; exact List.mem_mergeSort
theorem mem_uses1 {L : List Nd} {id x : Int} : x ∈ usesL L [id] ↔ x ∈ walkN L (id.toNat + 1) id [] := by
  rw [mem_uses]; simp [walks]
theorem uses_ok {L : List Nd} {roots : List Int} : ∀ x ∈ usesL L roots, 0 ≤ x ∧ x < L.length := fun x hx =>
  (okS_walks L roots [] ⟨List.nodup_nil, by simp⟩).2 x (mem_uses.1 hx)
theorem uses_nodup {L : List Nd} {roots : List Int} : (usesL L roots).Nodup :=
  (List.mergeSort_perm _ _).nodup_iff.2 (okS_walks L roots [] ⟨List.nodup_nil, by simp⟩).1
theorem uses_sorted {L : List Nd} {roots : List Int} : (usesL L roots).Pairwise (· < ·) := by
  have h1 : (usesL L roots).Pairwise (fun a b => decide (a ≤ b) = true) := List.pairwise_mergeSort (fun a b c h1 h2 => by simp at h1 h2 ⊢; omega) (fun a b => by simp; omega) _
  have h2 : (usesL L roots).Pairwise (· ≠ ·) := uses_nodup
  refine (h1.and h2).imp fun {a b} h => ?_
  have := h.1
  simp at this
  have := h.2
  omega
theorem uses_self {L : List Nd} (hwf : gwf L) {id : Int} (h0 : 0 ≤ id) (h1 : id < L.length) : id ∈ usesL L [id] := mem_uses1.2 ((walk_closed hwf (id.toNat + 1) id [] (by omega)).2.1 h0 h1)
theorem uses_closed {L : List Nd} (hwf : gwf L) {id x p : Int} (hx : x ∈ usesL L [id]) (hp : p ∈ pts L x) : p ∈ usesL L [id] :=
  mem_uses1.2 ((walk_closed hwf (id.toNat + 1) id [] (by omega)).2.2 x (mem_uses1.1 hx) (by simp) p hp)
theorem uses_pred {L : List Nd} {Q : Int → Prop} {id : Int} (hq : ∀ x : Int, 0 ≤ x → x < L.length → Q x → ∀ p ∈ pts L x, Q p) (hid : Q id) : ∀ x ∈ usesL L [id], Q x := fun x hx =>
  walk_pred hq _ id [] (fun _ _ => hid) (by simp) x (mem_uses1.1 hx)
theorem uses_trans {L : List Nd} (hwf : gwf L) {id x y : Int} (hx : x ∈ usesL L [id]) (hy : y ∈ usesL L [x]) : y ∈ usesL L [id] :=
  uses_pred (Q := fun y => y ∈ usesL L [id]) (fun z _ _ hz p hp => uses_closed hwf hz hp) hx y hy

end Go.Proofs.YtfligilbnpcnaaaGreatDoor

