/- Clauses: the document's side. -/
import Derived.Test.YtingdebioipemaaClD
namespace Go.Cl
open Go Go.Am
set_option maxRecDepth 100000

/-- A literal goes down a row by its variable. -/
theorem srt_put {P S : List Int} {n : Int} (h : Srt (P ++ S)) (hS : ∀ s ∈ S, av n < av s) (hP : ∀ p, P.getLast? = some p → av p < av n) : Srt (P ++ n :: S) := by
  simp only [Srt, List.pairwise_append, List.pairwise_cons] at h ⊢
  refine ⟨h.1, ⟨hS, h.2.1⟩, fun a ha b hb => ?_⟩
  rcases List.mem_cons.1 hb with rfl | hb
  · cases hl : P.getLast? with
    | none => rw [List.getLast?_eq_none_iff] at hl; subst hl; cases ha
    | some p =>
      have h1 := hP p hl
      obtain ⟨Q, rfl⟩ := List.getLast?_eq_some_iff.1 hl
      rcases List.mem_append.1 ha with ha | ha
      · have := (List.pairwise_append.1 h.1).2.2 a ha p (by simp); omega
      · simp at ha; subst ha; exact h1
  · exact h.2.2 a ha b hb
theorem mem_put {P S : List Int} {n m : Int} : m ∈ P ++ n :: S ↔ m ∈ P ++ S ∨ m = n := by
  simp only [List.mem_append, List.mem_cons]
  exact ⟨fun h => h.elim (fun h => .inl (.inl h)) fun h => h.elim .inr fun h => .inl (.inr h), fun h => h.elim (fun h => h.elim .inl fun h => .inr (.inr h)) fun h => .inr (.inl h)⟩

/-- A pass, clause by clause. -/
theorem passU_snoc {S : List Int} : ∀ {F : List (List Int)} {c : List Int}, passU S (F ++ [c]) = (passU S F).bind fun S => stepU S c
  | [], c => by simp [passU]
  | d :: F, c => by
    simp only [List.cons_append, passU, Option.bind_assoc]
    congr 1
    funext S'
    exact passU_snoc

/-- What a clause has left, each once, as it comes. -/
def leftR (S : List Int) (c : List Int) : List Int := c.foldl (fun l n => if -n ∉ S ∧ n ∉ S ∧ n ∉ l then l ++ [n] else l) []
theorem leftR_snoc {S c : List Int} {n : Int} : leftR S (c ++ [n]) = if -n ∉ S ∧ n ∉ S ∧ n ∉ leftR S c then leftR S c ++ [n] else leftR S c := by
  rw [leftR, List.foldl_append]; rfl
theorem rev_ind {α : Type} {p : List α → Prop} (h0 : p []) (h1 : ∀ l a, p l → p (l ++ [a])) (l : List α) : p l := by
  rw [← List.reverse_reverse l]
  induction l.reverse with
  | nil => exact h0
  | cons a l ih => rw [List.reverse_cons]; exact h1 _ _ ih
theorem leftR_mem {S : List Int} (c : List Int) : ∀ x, x ∈ leftR S c ↔ x ∈ c ∧ -x ∉ S ∧ x ∉ S := by
  refine rev_ind (p := fun c => ∀ x, x ∈ leftR S c ↔ x ∈ c ∧ -x ∉ S ∧ x ∉ S) (by simp [leftR]) (fun c n ih x => ?_) c
  rw [leftR_snoc]
  split
  · rename_i h
    simp only [List.mem_append, List.mem_singleton, ih]
    constructor
    · rintro (⟨h1, h2⟩ | rfl)
      · exact ⟨.inl h1, h2⟩
      · exact ⟨.inr rfl, h.1, h.2.1⟩
    · rintro ⟨h1 | rfl, h2⟩
      · exact .inl ⟨h1, h2⟩
      · exact .inr rfl
  · rename_i h
    rw [ih, List.mem_append, List.mem_singleton]
    refine ⟨fun ⟨a, b⟩ => ⟨.inl a, b⟩, fun ⟨a, b⟩ => ⟨a.elim id fun e => ?_, b⟩⟩
    subst e
    by_cases hx : x ∈ leftR S c
    · exact ((ih x).1 hx).1
    · exact absurd ⟨b.1, b.2, hx⟩ h
theorem leftR_nodup {S : List Int} (c : List Int) : (leftR S c).Nodup := by
  refine rev_ind (p := fun c => (leftR S c).Nodup) (by simp [leftR]) (fun c n ih => ?_) c
  rw [leftR_snoc]
  split
  · rename_i h
    refine List.nodup_append.2 ⟨ih, by simp, fun a ha b hb e => ?_⟩
    simp at hb; subst hb; subst e; exact h.2.2 ha
  · exact ih
theorem leftR_len {S : List Int} (c : List Int) : (leftR S c).length ≤ c.length := nodup_sub (leftR_nodup c) fun x hx => ((leftR_mem c x).1 hx).1
/-- A clause, by what is left. -/
theorem stepU_left {S c : List Int} : stepU S c = if c.any (fun n => decide (n ∈ S)) then some S else if (leftR S c).length = 0 then none else if (leftR S c).length = 1 then some (S ++ [(leftR S c).getD 0 0]) else some S := by
  cases hany : c.any fun n => decide (n ∈ S) with
  | true => rw [stepU, if_pos hany, if_pos rfl]
  | false =>
    have hS : ∀ n ∈ c, n ∉ S := fun n hn h => by
      have := List.any_eq_false.1 hany n hn
      simp [h] at this
    have hst : stepU S c = match c.filter (fun n => !decide (-n ∈ S)) with
        | [] => none
        | a :: l => if l.all fun n => decide (n = a) then some (S ++ [a]) else some S := if_neg (by simp [hany])
    have hmf : ∀ x, x ∈ c.filter (fun n => !decide (-n ∈ S)) ↔ x ∈ leftR S c := fun x => by
      rw [leftR_mem, List.mem_filter]
      simp only [Bool.not_eq_true', decide_eq_false_iff_not]
      exact ⟨fun ⟨a, b⟩ => ⟨a, b, hS x a⟩, fun ⟨a, b, _⟩ => ⟨a, b⟩⟩
    rw [hst, if_neg (by simp)]
    have hnd := leftR_nodup (S := S) c
    cases hf : c.filter (fun n => !decide (-n ∈ S)) with
    | nil =>
      have : leftR S c = [] := List.eq_nil_iff_forall_not_mem.2 fun x hx => by rw [← hmf, hf] at hx; cases hx
      rw [this]; rfl
    | cons a l =>
      rw [hf] at hmf
      have ha : a ∈ leftR S c := (hmf a).1 (by simp)
      have h0 : (leftR S c).length ≠ 0 := fun e => by rw [List.length_eq_zero_iff.1 e] at ha; cases ha
      rw [if_neg h0]
      cases hall : l.all fun n => decide (n = a) with
      | true =>
        have h1 : leftR S c = [a] := by
          have hx : ∀ x ∈ leftR S c, x = a := fun x hx => by
            rcases List.mem_cons.1 ((hmf x).2 hx) with e | e
            · exact e
            · simpa using List.all_eq_true.1 hall x e
          cases hL : leftR S c with
          | nil => rw [hL] at ha; cases ha
          | cons b m =>
            rw [hL] at hx hnd
            have hb := hx b (by simp)
            subst hb
            cases m with
            | nil => rfl
            | cons d m =>
              have := hx d (by simp)
              subst this
              simp at hnd
        rw [h1]
        show (if (l.all fun n => decide (n = a)) = true then some (S ++ [a]) else some S) = _
        rw [if_pos hall]; rfl
      | false =>
        obtain ⟨b, hb, hne⟩ := List.all_eq_false.1 hall
        have hne : b ≠ a := by simpa using hne
        have hbm : b ∈ leftR S c := (hmf b).1 (by simp [hb])
        have h1 : (leftR S c).length ≠ 1 := fun e => by
          obtain ⟨x, hx⟩ := List.length_eq_one_iff.1 e
          rw [hx] at ha hbm
          simp at ha hbm
          exact hne (hbm.trans ha.symm)
        rw [if_neg h1]
        show (if (l.all fun n => decide (n = a)) = true then some (S ++ [a]) else some S) = _
        rw [if_neg (by simp [hall])]
end Go.Cl
