/- The solver's rows: who watches; a clause is added. -/
import Derived.Test.YtpepmhmgfpkdmaaSw1
namespace Go.Proofs.Ytpepmhmgfpkdmaa
open Go Go.Am Go.Cl Go.Sat
set_option maxRecDepth 100000
variable {P : Program} {G : Nat → Option V}

/-- Whose a row is. -/
inductive Own where
  | no
  | cl (m : Nat)
  | wt (l : Int)

/-- The rows: of clauses, and of those who watch a literal; each lies in a cell of its own. -/
structure RW (s : S) (es : List (Int × V)) (cs : List V) (rest : List (Option Ob)) (ow : Nat → Own) : Prop where
  len : cs.length = s.cl.length
  cl : ∀ (m : Nat) (c : List Int), s.cl[m]? = some c → ∃ j w, cs[m]? = some (.sl (j + 10) w 0 1 c.length none) ∧ rest[j]? = some (some (.arr w 3 (ints c))) ∧ ow j = .cl m
  wt : ∀ l, (s.wt l = [] ∧ vAt es l = .lst 0 [] true) ∨ ∃ j w, vAt es l = .sl (j + 10) w 0 1 (s.wt l).length none ∧ rest[j]? = some (some (.arr w 3 (nts (s.wt l)))) ∧ ow j = .wt l

/-- Rows more behind. -/
theorem RW.app {s : S} {es : List (Int × V)} {cs : List V} {rest ex : List (Option Ob)} {ow : Nat → Own} (h : RW s es cs rest ow) : RW s es cs (rest ++ ex) ow := by
  have hg : ∀ {j : Nat} {x : Option Ob}, rest[j]? = some x → (rest ++ ex)[j]? = some x := fun {j x} hj => by
    rw [List.getElem?_append_left (List.getElem?_eq_some_iff.1 hj).1]; exact hj
  refine ⟨h.len, fun m c hc => ?_, fun l => (h.wt l).imp id fun ⟨j, w, h1, h2, h3⟩ => ⟨j, w, h1, hg h2, h3⟩⟩
  obtain ⟨j, w, h1, h2, h3⟩ := h.cl m c hc
  exact ⟨j, w, h1, hg h2, h3⟩

/-- A row of those who watch is set. -/
theorem RW.setw {s : S} {es : List (Int × V)} {cs : List V} {rest : List (Option Ob)} {ow : Nat → Own} (h : RW s es cs rest ow) {l : Int} {j w : Nat} {x : List Nat} (hj : j < rest.length) (ho : ow j = .wt l ∨ ow j = .no) :
    RW (s.sub l x) (vPut l (.sl (j + 10) w 0 1 x.length none) es) cs (rest.set j (some (.arr w 3 (nts x)))) fun i => if i = j then .wt l else ow i := by
  refine ⟨h.len, fun m c hc => ?_, fun y => ?_⟩
  · obtain ⟨i, u, h1, h2, h3⟩ := h.cl m c hc
    have hij : i ≠ j := fun e => by subst e; rw [h3] at ho; rcases ho with ho | ho <;> cases ho
    exact ⟨i, u, h1, by rw [List.getElem?_set_ne (Ne.symm hij)]; exact h2, by show (if i = j then _ else _) = _; rw [if_neg hij]; exact h3⟩
  · rw [vAt_put, sub_wt]
    by_cases e : y = l
    · subst e
      rw [if_pos rfl, if_pos rfl]
      exact .inr ⟨j, w, rfl, by rw [List.getElem?_set_self hj], by show (if j = j then _ else _) = _; rw [if_pos rfl]⟩
    · rw [if_neg e, if_neg e]
      refine (h.wt y).imp id fun ⟨i, u, h1, h2, h3⟩ => ?_
      have hij : i ≠ j := fun q => by
        subst q; rw [h3] at ho
        rcases ho with ho | ho
        · cases ho; exact e rfl
        · cases ho
      exact ⟨i, u, h1, by rw [List.getElem?_set_ne (Ne.symm hij)]; exact h2, by show (if i = j then _ else _) = _; rw [if_neg hij]; exact h3⟩

theorem RW.neww {s : S} {es : List (Int × V)} {cs : List V} {rest : List (Option Ob)} {ow : Nat → Own} (h : RW s es cs rest ow) {l : Int} {w : Nat} {x : List Nat} :
    RW (s.sub l x) (vPut l (.sl (rest.length + 10) w 0 1 x.length none) es) cs (rest ++ [some (.arr w 3 (nts x))]) fun i => if i = rest.length then .wt l else ow i := by
  have hlt : ∀ {j : Nat} {x : Option Ob}, rest[j]? = some x → j < rest.length := fun {j x} hj => (List.getElem?_eq_some_iff.1 hj).1
  have hg : ∀ {j : Nat} {x y : Option Ob}, rest[j]? = some x → (rest ++ [y])[j]? = some x := fun {j x y} hj => by
    rw [List.getElem?_append_left (hlt hj)]; exact hj
  refine ⟨h.len, fun m c hc => ?_, fun y => ?_⟩
  · obtain ⟨i, u, h1, h2, h3⟩ := h.cl m c hc
    exact ⟨i, u, h1, hg h2, by show (if i = _ then _ else _) = _; rw [if_neg (by have := hlt h2; omega)]; exact h3⟩
  · rw [vAt_put, sub_wt]
    by_cases e : y = l
    · subst e
      rw [if_pos rfl, if_pos rfl]
      exact .inr ⟨rest.length, w, rfl, by simp, by show (if _ = _ then _ else _) = _; rw [if_pos rfl]⟩
    · rw [if_neg e, if_neg e]
      refine (h.wt y).imp id fun ⟨i, u, h1, h2, h3⟩ => ?_
      exact ⟨i, u, h1, hg h2, by show (if i = _ then _ else _) = _; rw [if_neg (by have := hlt h2; omega)]; exact h3⟩

theorem RW.nil {s : S} {es : List (Int × V)} {cs : List V} {rest : List (Option Ob)} {ow : Nat → Own} (h : RW s es cs rest ow) (l : Int) : RW (s.sub l []) (vPut l (.lst 0 [] true) es) cs rest ow := by
  refine ⟨h.len, h.cl, fun y => ?_⟩
  rw [vAt_put, sub_wt]
  by_cases e : y = l
  · subst e
    rw [if_pos rfl, if_pos rfl]; exact .inl ⟨rfl, rfl⟩
  · rw [if_neg e, if_neg e]; exact h.wt y

/-- A clause more. -/
theorem RW.addc {s : S} {es : List (Int × V)} {cs : List V} {rest : List (Option Ob)} {ow : Nat → Own} (h : RW s es cs rest ow) {j w : Nat} {c : List Int} (hj : rest[j]? = some (some (.arr w 3 (ints c)))) (ho : ow j = .no) :
    RW { s with cl := s.cl ++ [c] } es (cs ++ [.sl (j + 10) w 0 1 c.length none]) rest fun i => if i = j then .cl s.cl.length else ow i := by
  have hne : ∀ {i : Nat}, ow i ≠ .no → i ≠ j := fun {i} hi e => hi (e ▸ ho)
  refine ⟨by simp [h.len], fun m d hd => ?_, fun l => (h.wt l).imp id fun ⟨i, u, h1, h2, h3⟩ => ⟨i, u, h1, h2, by show (if i = _ then _ else _) = _; rw [if_neg (hne (by rw [h3]; exact fun e => by cases e))]; exact h3⟩⟩
  replace hd : (s.cl ++ [c])[m]? = some d := hd
  rw [List.getElem?_append] at hd
  split at hd
  · rename_i hm
    obtain ⟨i, u, h1, h2, h3⟩ := h.cl m d hd
    exact ⟨i, u, by rw [List.getElem?_append_left (by rw [h.len]; exact hm)]; exact h1, h2, by show (if i = _ then _ else _) = _; rw [if_neg (hne (by rw [h3]; exact fun e => by cases e))]; exact h3⟩
  · have hm0 : m - s.cl.length = 0 := by
      rcases Nat.eq_zero_or_pos (m - s.cl.length) with q | q
      · exact q
      · rw [List.getElem?_eq_none (by simp; omega)] at hd; cases hd
    rw [hm0] at hd
    simp at hd
    subst hd
    have hm : m = s.cl.length := by omega
    subst hm
    exact ⟨j, w, by rw [← h.len]; simp, hj, by show (if j = j then _ else _) = _; rw [if_pos rfl]⟩

/-- A clause's places are turned about. -/
theorem RW.putc {s : S} {es : List (Int × V)} {cs : List V} {rest : List (Option Ob)} {ow : Nat → Own} (h : RW s es cs rest ow) {n j w : Nat} {c d : List Int} (hc : s.cl[n]? = some c) (hd : d.length = c.length) (h1 : cs[n]? = some (.sl (j + 10) w 0 1 c.length none)) (h2 : rest[j]? = some (some (.arr w 3 (ints c)))) (h3 : ow j = .cl n) :
    RW (s.put n d) es cs (rest.set j (some (.arr w 3 (ints d)))) ow := by
  have hjl := (List.getElem?_eq_some_iff.1 h2).1
  refine ⟨by simp [S.put, h.len], fun m x hx => ?_, fun l => (h.wt l).imp id fun ⟨i, u, k1, k2, k3⟩ => ⟨i, u, k1, by rw [List.getElem?_set_ne (fun e => by rw [← e, h3] at k3; cases k3)]; exact k2, k3⟩⟩
  replace hx : (s.cl.set n d)[m]? = some x := hx
  rw [List.getElem?_set] at hx
  by_cases e : n = m
  · subst e
    rw [if_pos rfl, if_pos (List.getElem?_eq_some_iff.1 hc).1] at hx
    cases hx
    exact ⟨j, w, by rw [hd]; exact h1, by rw [List.getElem?_set_self hjl], h3⟩
  · rw [if_neg e] at hx
    obtain ⟨i, u, k1, k2, k3⟩ := h.cl m x hx
    exact ⟨i, u, k1, by rw [List.getElem?_set_ne (fun q => e (by rw [← q, h3] at k3; cases k3; rfl))]; exact k2, k3⟩
end Go.Proofs.Ytpepmhmgfpkdmaa

