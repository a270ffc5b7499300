/- Clauses: what follows by clauses of one literal. -/
import Derived.Test.YtpepmhmgfpkdmaaAmD
namespace Go.Cl
open Go Go.Am
set_option maxRecDepth 100000

/-- A literal turned about, as the machine does. -/
def neg (n : Int) : Int := if n = -9223372036854775808 then n else -n

/-- What follows by clauses of one literal. -/
inductive UP (F : List (List Int)) : Int → Prop
  | mk (c : List Int) (n : Int) : c ∈ F → n ∈ c → (∀ m ∈ c, m ≠ n → UP F (-m)) → UP F n

/-- A clause none of whose literals can hold. -/
def Confl (F : List (List Int)) : Prop := ∃ c ∈ F, ∀ m ∈ c, UP F (-m)

theorem UP.mono {F G : List (List Int)} (h : ∀ c ∈ F, c ∈ G) {n : Int} (u : UP F n) : UP G n := by
  induction u with
  | mk c n hc hn _ ih => exact .mk c n (h c hc) hn ih
theorem Confl.mono {F G : List (List Int)} (h : ∀ c ∈ F, c ∈ G) : Confl F → Confl G := fun ⟨c, hc, hm⟩ => ⟨c, h c hc, fun m x => (hm m x).mono h⟩
/-- Clauses with the same literals serve alike. -/
theorem UP.same {F G : List (List Int)} (h : ∀ c ∈ F, ∃ d ∈ G, ∀ m, m ∈ d ↔ m ∈ c) {n : Int} (u : UP F n) : UP G n := by
  induction u with
  | mk c n hc hn _ ih =>
    obtain ⟨d, hd, e⟩ := h c hc
    exact .mk d n hd ((e n).2 hn) fun m hm hne => ih m ((e m).1 hm) hne
theorem Confl.same {F G : List (List Int)} (h : ∀ c ∈ F, ∃ d ∈ G, ∀ m, m ∈ d ↔ m ∈ c) : Confl F → Confl G := fun ⟨c, hc, hm⟩ => by
  obtain ⟨d, hd, e⟩ := h c hc
  exact ⟨d, hd, fun m x => (hm m ((e m).1 x)).same h⟩

theorem UP.in {F : List (List Int)} {n : Int} (u : UP F n) : ∃ c ∈ F, n ∈ c := by
  cases u with
  | mk c _ hc hn _ => exact ⟨c, hc, hn⟩

/-- A set that holds no literal and its contrary, and to which no clause adds, holds all that follows. -/
structure Closed (F : List (List Int)) (S : Int → Prop) : Prop where
  cons : ∀ n, S n → ¬ S (-n)
  clause : ∀ c ∈ F, (∃ n ∈ c, S n) ∨ ∃ n ∈ c, ∃ m ∈ c, n ≠ m ∧ ¬ S (-n) ∧ ¬ S (-m)

theorem Closed.up {F : List (List Int)} {S : Int → Prop} (h : Closed F S) {n : Int} (u : UP F n) : S n := by
  induction u with
  | mk c n hc hn _ ih =>
    rcases h.clause c hc with ⟨m, hm, hs⟩ | ⟨a, ha, b, hb, hne, sa, sb⟩
    · by_cases e : m = n
      · exact e ▸ hs
      · exact absurd (ih m hm e) (h.cons m hs)
    · by_cases e : a = n
      · exact absurd (ih b hb fun x => hne (e.trans x.symm)) sb
      · exact absurd (ih a ha e) sa
theorem Closed.no {F : List (List Int)} {S : Int → Prop} (h : Closed F S) : ¬ Confl F := fun ⟨c, hc, hm⟩ => by
  rcases h.clause c hc with ⟨m, hm', hs⟩ | ⟨a, ha, b, hb, hne, sa, sb⟩
  · exact h.cons m hs (h.up (hm m hm'))
  · exact sa (h.up (hm a ha))

/-- Literals let hold: what is left. -/
def assignC (L : List Int) (c : List Int) : List Int := c.filter fun n => !decide (-n ∈ L)
def assign (F : List (List Int)) (L : List Int) : List (List Int) := (F.filter fun c => !c.any fun n => decide (n ∈ L)).map (assignC L)
def unitsOf (L : List Int) : List (List Int) := L.map fun n => [n]

/-- A model: which literals hold. -/
def Sat (S : Int → Prop) (c : List Int) : Prop := ∃ n ∈ c, S n
theorem UP.true {F : List (List Int)} {S : Int → Prop} (hS : ∀ n, S n → ¬ S (-n)) (hF : ∀ c ∈ F, Sat S c) {n : Int} (u : UP F n) : S n := by
  induction u with
  | mk c n hc hn _ ih =>
    obtain ⟨m, hm, h⟩ := hF c hc
    by_cases e : m = n
    · exact e ▸ h
    · exact absurd (ih m hm e) (hS m h)
theorem Confl.none {F : List (List Int)} {S : Int → Prop} (hS : ∀ n, S n → ¬ S (-n)) (hF : ∀ c ∈ F, Sat S c) : ¬ Confl F := fun ⟨c, hc, hm⟩ => by
  obtain ⟨m, hm', h⟩ := hF c hc
  exact hS m h ((hm m hm').true hS hF)
end Go.Cl

