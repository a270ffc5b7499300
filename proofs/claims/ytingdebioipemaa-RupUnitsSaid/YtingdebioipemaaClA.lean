/- Clauses: what follows by clauses of one literal. -/
import Derived.Test.YtingdebioipemaaAmD
namespace Go.Cl
open Go Go.Am
set_option maxRecDepth 100000

/-- A literal turned about, as the machine does. -/
def neg (n : Int) : Int := if n = -9223372036854775808 then n else -n

/-- What follows by clauses of one literal. -/
inductive UP (F : List (List Int)) : Int → Prop
  | mk (c : List Int) (n : Int) : c ∈ F → n ∈ c → (∀ m ∈ c, m ≠ n → UP F (-m)) → UP F n

/-- A clause none of whose literals can hold. -/
def Confl (F : List (List Int)) : Prop := ∃ c ∈ F, ∀ m ∈ c, UP F (-m)

theorem UP.mono {F G : List (List Int)} (h : ∀ c ∈ F, c ∈ G) {n : Int} (u : UP F n) : UP G n := by
  induction u with
  | mk c n hc hn _ ih => exact .mk c n (h c hc) hn ih
theorem Confl.mono {F G : List (List Int)} (h : ∀ c ∈ F, c ∈ G) : Confl F → Confl G := fun ⟨c, hc, hm⟩ => ⟨c, h c hc, fun m x => (hm m x).mono h⟩
/-- Clauses with the same literals serve alike. -/
theorem UP.same {F G : List (List Int)} (h : ∀ c ∈ F, ∃ d ∈ G, ∀ m, m ∈ d ↔ m ∈ c) {n : Int} (u : UP F n) : UP G n := by
  induction u with
  | mk c n hc hn _ ih =>
    obtain ⟨d, hd, e⟩ := h c hc
    exact .mk d n hd ((e n).2 hn) fun m hm hne => ih m ((e m).1 hm) hne
theorem Confl.same {F G : List (List Int)} (h : ∀ c ∈ F, ∃ d ∈ G, ∀ m, m ∈ d ↔ m ∈ c) : Confl F → Confl G := fun ⟨c, hc, hm⟩ => by
  obtain ⟨d, hd, e⟩ := h c hc
  exact ⟨d, hd, fun m x => (hm m ((e m).1 x)).same h⟩

theorem UP.in {F : List (List Int)} {n : Int} (u : UP F n) : ∃ c ∈ F, n ∈ c := by
  cases u with
  | mk c _ hc hn _ => exact ⟨c, hc, hn⟩

/-- A set that holds no literal and its contrary, and to which no clause adds, holds all that follows. -/
structure Closed (F : List (List Int)) (S : Int → Prop) : Prop where
  cons : ∀ n, S n → ¬ S (-n)
  clause : ∀ c ∈ F, (∃ n ∈ c, S n) ∨ ∃ n ∈ c, ∃ m ∈ c, n ≠ m ∧ ¬ S (-n) ∧ ¬ S (-m)

theorem Closed.up {F : List (List Int)} {S : Int → Prop} (h : Closed F S) {n : Int} (u : UP F n) : S n := by
  induction u with
  | mk c n hc hn _ ih =>
    rcases h.clause c hc with ⟨m, hm, hs⟩ | ⟨a, ha, b, hb, hne, sa, sb⟩
    · by_cases e : m = n
      · exact e ▸ hs
      · exact absurd (ih m hm e) (h.cons m hs)
    · by_cases e : a = n
      · exact absurd (ih b hb fun x => hne (e.trans x.symm)) sb
      · exact absurd (ih a ha e) sa
theorem Closed.no {F : List (List Int)} {S : Int → Prop} (h : Closed F S) : ¬ Confl F := fun ⟨c, hc, hm⟩ => by
  rcases h.clause c hc with ⟨m, hm', hs⟩ | ⟨a, ha, b, hb, hne, sa, sb⟩
  · exact h.cons m hs (h.up (hm m hm'))
  · exact sa (h.up (hm a ha))

/-- Literals let hold: what is left. -/
def assignC (L : List Int) (c : List Int) : List Int := c.filter fun n => !decide (-n ∈ L)
def assign (F : List (List Int)) (L : List Int) : List (List Int) := (F.filter fun c => !c.any fun n => decide (n ∈ L)).map (assignC L)
def unitsOf (L : List Int) : List (List Int) := L.map fun n => [n]

theorem up_assign {F : List (List Int)} {L : List Int} {n : Int} (u : UP (assign F L) n) : UP (F ++ unitsOf L) n := by
  induction u with
  | mk c n hc hn _ ih =>
    obtain ⟨d, hd, rfl⟩ := List.mem_map.1 hc
    obtain ⟨hd, _⟩ := List.mem_filter.1 hd
    refine .mk d n (List.mem_append_left _ hd) (List.mem_filter.1 hn).1 fun m hm hne => ?_
    by_cases hl : -m ∈ L
    · exact .mk [-m] (-m) (List.mem_append_right _ (List.mem_map.2 ⟨-m, hl, rfl⟩)) (by simp) fun x hx hne' => absurd (by simpa using hx) hne'
    · exact ih m (List.mem_filter.2 ⟨hm, by simpa using hl⟩) hne
theorem confl_assign {F : List (List Int)} {L : List Int} : Confl (assign F L) → Confl (F ++ unitsOf L) := fun ⟨c, hc, hm⟩ => by
  obtain ⟨d, hd, rfl⟩ := List.mem_map.1 hc
  obtain ⟨hd, _⟩ := List.mem_filter.1 hd
  refine ⟨d, List.mem_append_left _ hd, fun m hm' => ?_⟩
  by_cases hl : -m ∈ L
  · exact .mk [-m] (-m) (List.mem_append_right _ (List.mem_map.2 ⟨-m, hl, rfl⟩)) (by simp) fun x hx hne' => absurd (by simpa using hx) hne'
  · exact up_assign (hm m (List.mem_filter.2 ⟨hm', by simpa using hl⟩))

theorem not_up_assign {F : List (List Int)} {L : List Int} {l : Int} (hl : l ∈ L) : ¬ UP (assign F L) (-l) := fun u => by
  obtain ⟨c, hc, hn⟩ := u.in
  obtain ⟨d, _, rfl⟩ := List.mem_map.1 hc
  have := (List.mem_filter.1 hn).2
  simp [hl] at this
theorem up_units {F : List (List Int)} {L : List Int} (hL : ∀ l ∈ L, -l ∉ L) {n : Int} (u : UP (F ++ unitsOf L) n) : Confl (assign F L) ∨ n ∈ L ∨ UP (assign F L) n := by
  induction u with
  | mk c n hc hn _ ih =>
    by_cases hC : Confl (assign F L)
    · exact .inl hC
    refine .inr ?_
    have ih : ∀ m ∈ c, m ≠ n → -m ∈ L ∨ UP (assign F L) (-m) := fun m hm hne => (ih m hm hne).resolve_left hC
    rcases List.mem_append.1 hc with hc | hc
    · by_cases hh : ∃ l ∈ c, l ∈ L
      · obtain ⟨l, hlc, hl⟩ := hh
        by_cases e : l = n
        · exact .inl (e ▸ hl)
        · rcases ih l hlc e with h | h
          · exact absurd h (hL l hl)
          · exact absurd h (not_up_assign hl)
      · have hmem : assignC L c ∈ assign F L := List.mem_map.2 ⟨c, List.mem_filter.2 ⟨hc, by
          simp only [Bool.not_eq_true', List.any_eq_false, decide_eq_true_eq]
          exact fun x hx hxl => hh ⟨x, hx, hxl⟩⟩, rfl⟩
        have rest : ∀ m ∈ assignC L c, m ≠ n → UP (assign F L) (-m) := fun m hm hne => by
          obtain ⟨hm1, hm2⟩ := List.mem_filter.1 hm
          rcases ih m hm1 hne with h | h
          · simp [h] at hm2
          · exact h
        by_cases hnl : -n ∈ L
        · exact absurd ⟨_, hmem, fun m hm => rest m hm fun e => by
            have := (List.mem_filter.1 hm).2
            simp [e, hnl] at this⟩ hC
        · exact .inr (.mk _ n hmem (List.mem_filter.2 ⟨hn, by simpa using hnl⟩) rest)
    · obtain ⟨l, hl, rfl⟩ := List.mem_map.1 hc
      simp at hn
      exact .inl (hn ▸ hl)
theorem confl_units {F : List (List Int)} {L : List Int} (hL : ∀ l ∈ L, -l ∉ L) (h : Confl (F ++ unitsOf L)) : Confl (assign F L) := by
  by_cases hC : Confl (assign F L)
  · exact hC
  obtain ⟨c, hc, hm⟩ := h
  have hm : ∀ m ∈ c, -m ∈ L ∨ UP (assign F L) (-m) := fun m h => (up_units hL (hm m h)).resolve_left hC
  rcases List.mem_append.1 hc with hc | hc
  · by_cases hh : ∃ l ∈ c, l ∈ L
    · obtain ⟨l, hlc, hl⟩ := hh
      rcases hm l hlc with h | h
      · exact absurd h (hL l hl)
      · exact absurd h (not_up_assign hl)
    · refine ⟨assignC L c, List.mem_map.2 ⟨c, List.mem_filter.2 ⟨hc, by
          simp only [Bool.not_eq_true', List.any_eq_false, decide_eq_true_eq]
          exact fun x hx hxl => hh ⟨x, hx, hxl⟩⟩, rfl⟩, fun m h => ?_⟩
      obtain ⟨hm1, hm2⟩ := List.mem_filter.1 h
      rcases hm m hm1 with h | h
      · simp [h] at hm2
      · exact h
  · obtain ⟨l, hl, rfl⟩ := List.mem_map.1 hc
    rcases hm l (by simp) with h | h
    · exact absurd h (hL l hl)
    · exact absurd h (not_up_assign hl)
theorem confl_iff {F : List (List Int)} {L : List Int} (hL : ∀ l ∈ L, -l ∉ L) : Confl (assign F L) ↔ Confl (F ++ unitsOf L) := ⟨confl_assign, confl_units hL⟩

/-- A model: which literals hold. -/
def Sat (S : Int → Prop) (c : List Int) : Prop := ∃ n ∈ c, S n
theorem UP.true {F : List (List Int)} {S : Int → Prop} (hS : ∀ n, S n → ¬ S (-n)) (hF : ∀ c ∈ F, Sat S c) {n : Int} (u : UP F n) : S n := by
  induction u with
  | mk c n hc hn _ ih =>
    obtain ⟨m, hm, h⟩ := hF c hc
    by_cases e : m = n
    · exact e ▸ h
    · exact absurd (ih m hm e) (hS m h)
theorem Confl.none {F : List (List Int)} {S : Int → Prop} (hS : ∀ n, S n → ¬ S (-n)) (hF : ∀ c ∈ F, Sat S c) : ¬ Confl F := fun ⟨c, hc, hm⟩ => by
  obtain ⟨m, hm', h⟩ := hF c hc
  exact hS m h ((hm m hm').true hS hF)
theorem unit_confl {F : List (List Int)} {n : Int} (u : UP F n) : Confl (F ++ unitsOf [-n]) := by
  have hu : UP (F ++ unitsOf [-n]) (-n) := .mk [-n] (-n) (by simp [unitsOf]) (by simp) fun m hm hne => absurd (by simpa using hm) hne
  have hF : ∀ c ∈ F, c ∈ F ++ unitsOf [-n] := fun c hc => List.mem_append_left _ hc
  cases u with
  | mk c _ hc hn hm =>
    refine ⟨c, hF c hc, fun m h => ?_⟩
    by_cases e : m = n
    · exact e ▸ hu
    · exact (hm m h e).mono hF
/-- A clause of a formula follows. -/
theorem clause_confl {F : List (List Int)} {c : List Int} (hc : c ∈ F) {L : List Int} (h : ∀ n ∈ c, -n ∈ L) : Confl (F ++ unitsOf L) :=
  ⟨c, List.mem_append_left _ hc, fun m hm => .mk [-m] (-m) (List.mem_append_right _ (List.mem_map.2 ⟨-m, h m hm, rfl⟩)) (by simp) fun x hx hne => absurd (by simpa using hx) hne⟩
end Go.Cl
