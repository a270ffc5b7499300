/- Clauses: clean ones; what follows from a formula; rows that are a proof. -/
import Derived.Test.YtpepmhmgfpkdmaaClB
namespace Go.Cl
open Go Go.Am
set_option maxRecDepth 100000

def mn : Int := -9223372036854775808
theorem neg_ne {n : Int} (h : n ≠ mn) : neg n = -n := if_neg h
def bad (c : List Int) : Bool := c.any fun n => decide (n = 0) || decide (neg n ∈ c)
def dd : List Int → List Int
  | [] => []
  | a :: l => if a ∈ l then dd l else a :: dd l
def canon (c : List Int) : List Int := sortV (dd c)
def cleanS (c : List Int) : List Int × Bool := if bad c then ([], false) else (canon c, true)

theorem mem_dd {n : Int} : ∀ {c : List Int}, n ∈ dd c ↔ n ∈ c
  | [] => by simp [dd]
  | a :: l => by
    unfold dd
    split
    · rename_i h
      rw [mem_dd (c := l)]
      exact ⟨fun x => by simp [x], fun x => by simp at x; rcases x with rfl | x <;> assumption⟩
    · simp [mem_dd (c := l)]
theorem bad_iff {c : List Int} : bad c = true ↔ ∃ n ∈ c, n = 0 ∨ neg n ∈ c := by simp [bad]
theorem bad_not {c : List Int} (h : bad c = false) : ∀ n ∈ c, n ≠ 0 ∧ n ≠ mn ∧ -n ∉ c := fun n hn => by
  have : ¬ ∃ n ∈ c, n = 0 ∨ neg n ∈ c := fun x => by rw [bad_iff.2 x] at h; cases h
  refine ⟨fun e => this ⟨n, hn, .inl e⟩, fun e => this ⟨n, hn, .inr ?_⟩, fun hm => this ⟨n, hn, .inr ?_⟩⟩
  · have : neg n = n := by rw [e]; decide
    rw [this]; exact hn
  · by_cases e : n = mn
    · have : neg n = n := by rw [e]; decide
      rw [this]; exact hn
    · rw [neg_ne e]; exact hm
theorem once_of {l : List Int} (hd : l.Nodup) (h : ∀ n ∈ l, -n ∉ l) : Once l := by
  refine List.Pairwise.imp_of_mem (R := fun a b : Int => a ≠ b) (fun {a b} ha hb hne e => ?_) hd
  have : a = b ∨ b = -a := by revert e; unfold av; split <;> split <;> omega
  rcases this with e | e
  · exact hne e
  · exact h a ha (e ▸ hb)
theorem nodup_dd : ∀ c : List Int, (dd c).Nodup
  | [] => .nil
  | a :: l => by
    unfold dd
    split
    · exact nodup_dd l
    · rename_i h
      exact List.nodup_cons.2 ⟨fun x => h (mem_dd.1 x), nodup_dd l⟩
theorem once_dd {c : List Int} (h : bad c = false) : Once (dd c) := once_of (nodup_dd c) fun n hn hm => (bad_not h n (mem_dd.1 hn)).2.2 (mem_dd.1 hm)
theorem mem_canon {n : Int} {c : List Int} : n ∈ canon c ↔ n ∈ c := by rw [canon, mem_sortV, mem_dd]
theorem srt_canon {c : List Int} (h : bad c = false) : Srt (canon c) := srt_sortV (once_dd h)
theorem canon_is {c l : List Int} (h : bad c = false) (hl : Srt l) (hm : ∀ n, n ∈ l ↔ n ∈ c) : l = canon c := srt_ext hl (srt_canon h) fun n => by rw [hm, mem_canon]

/-- As the program sorts: by variables, the lesser first. -/
def mabs (n : Int) : Int := if n < neg n then neg n else n
def ks (a b : Int) : Prop := mabs a < mabs b ∨ mabs a = mabs b ∧ a ≤ b
def cmpct : List Int → List Int
  | [] => []
  | [a] => [a]
  | a :: b :: l => if a = b then cmpct (b :: l) else a :: cmpct (b :: l)
/-- What is wrong with a row. -/
def chk : Option Int → List Int → Bool
  | _, [] => false
  | p, n :: l => (decide (n = 0) || decide (n = mn) || decide (p = some (neg n))) || chk (some n) l

theorem mem_cmpct {n : Int} : ∀ {s : List Int}, n ∈ cmpct s ↔ n ∈ s
  | [] => by simp [cmpct]
  | [a] => by simp [cmpct]
  | a :: b :: l => by
    unfold cmpct
    split
    · rename_i e; subst e
      rw [mem_cmpct (s := a :: l)]; simp
    · rw [List.mem_cons, mem_cmpct (s := b :: l), List.mem_cons (a := n) (b := a)]
theorem cmpct_head (a : Int) (l : List Int) : ∃ m, cmpct (a :: l) = a :: m := by
  induction l generalizing a with
  | nil => exact ⟨[], rfl⟩
  | cons b l ih =>
    unfold cmpct
    split
    · rename_i e; subst e; exact ih a
    · exact ⟨_, rfl⟩
theorem chk_true : ∀ {p : Option Int} {l : List Int}, chk p l = true → ∃ n ∈ l, n = 0 ∨ n = mn ∨ p = some (neg n) ∨ neg n ∈ l
  | _, [], h => by cases h
  | p, n :: l, h => by
    simp only [chk, Bool.or_eq_true, decide_eq_true_eq] at h
    rcases h with ((h | h) | h) | h
    · exact ⟨n, by simp, .inl h⟩
    · exact ⟨n, by simp, .inr (.inl h)⟩
    · exact ⟨n, by simp, .inr (.inr (.inl h))⟩
    · obtain ⟨m, hm, h⟩ := chk_true h
      refine ⟨m, by simp [hm], ?_⟩
      rcases h with h | h | h | h
      · exact .inl h
      · exact .inr (.inl h)
      · injection h with h
        exact .inr (.inr (.inr (by rw [← h]; simp)))
      · exact .inr (.inr (.inr (by simp [h])))
theorem mabs_av {n : Int} (h : n ≠ mn) : mabs n = av n := by
  unfold mabs av; rw [neg_ne h]; split <;> split <;> omega
theorem chk_false : ∀ {p : Option Int} {s : List Int}, s.Pairwise ks → chk p (cmpct s) = false → Srt (cmpct s) ∧ ∀ n ∈ cmpct s, n ≠ 0 ∧ n ≠ mn
  | p, [], _, _ => ⟨.nil, by simp [cmpct]⟩
  | p, [a], _, h => by
    simp only [cmpct, chk, Bool.or_false, Bool.or_eq_false_iff, decide_eq_false_iff_not] at h
    exact ⟨by simp [cmpct, Srt], fun n hn => by simp [cmpct] at hn; subst hn; exact h.1⟩
  | p, a :: b :: l, hs, h => by
    rw [List.pairwise_cons] at hs
    unfold cmpct at h ⊢
    split at h
    · rename_i e; subst e
      rw [if_pos rfl]
      exact chk_false hs.2 h
    · rename_i e
      rw [if_neg e]
      simp only [chk, Bool.or_eq_false_iff, decide_eq_false_iff_not] at h
      obtain ⟨g1, g2⟩ := chk_false hs.2 h.2
      obtain ⟨m, hm⟩ := cmpct_head b l
      have hb := g2 b (by rw [hm]; simp)
      refine ⟨?_, fun n hn => ?_⟩
      · rw [hm] at h g1 ⊢
        have hab : av a < av b := by
          have h1 := hs.1 b (by simp)
          simp only [chk, Bool.or_eq_false_iff, decide_eq_false_iff_not, Option.some.injEq] at h
          have h2 := h.2.1.2
          rw [neg_ne hb.2] at h2
          unfold ks at h1
          rw [mabs_av h.1.1.2, mabs_av hb.2] at h1
          rcases h1 with h1 | ⟨h1, h3⟩
          · exact h1
          · exfalso; revert h1; unfold av; split <;> split <;> omega
        have g1' := g1
        rw [Srt, List.pairwise_cons] at g1'
        rw [Srt, List.pairwise_cons]
        refine ⟨fun c hc => ?_, g1⟩
        simp only [List.mem_cons] at hc
        rcases hc with rfl | hc
        · exact hab
        · have := g1'.1 c hc; omega
      · simp only [List.mem_cons] at hn
        rcases hn with rfl | hn
        · exact h.1.1
        · exact g2 n hn
theorem cleanP {c s : List Int} (hs : s.Pairwise ks) (hm : ∀ n, n ∈ s ↔ n ∈ c) : (if chk none (cmpct s) then ([], false) else (cmpct s, true)) = cleanS c := by
  cases h : chk none (cmpct s) with
  | true =>
    obtain ⟨n, hn, h⟩ := chk_true h
    rw [mem_cmpct, hm] at hn
    have : bad c = true := bad_iff.2 ⟨n, hn, by
      rcases h with h | h | h | h
      · exact .inl h
      · have : neg n = n := by rw [h]; decide
        exact .inr (by rw [this]; exact hn)
      · cases h
      · rw [mem_cmpct, hm] at h; exact .inr h⟩
    simp [cleanS, this]
  | false =>
    obtain ⟨g1, g2⟩ := chk_false hs h
    have hb : bad c = false := by
      cases hb : bad c with
      | false => rfl
      | true =>
        exfalso
        obtain ⟨n, hn, h⟩ := bad_iff.1 hb
        have hn' : n ∈ cmpct s := by rw [mem_cmpct, hm]; exact hn
        obtain ⟨n0, nm⟩ := g2 n hn'
        rcases h with h | h
        · exact n0 h
        · rw [neg_ne nm] at h
          have h' : -n ∈ cmpct s := by rw [mem_cmpct, hm]; exact h
          have ho : Once (cmpct s) := List.Pairwise.imp (fun {a b} (h : av a < av b) => by omega) g1
          exact ho.cons hn' n0 h'
    rw [cleanS, hb, canon_is hb g1 fun n => by rw [mem_cmpct, hm]]
    try rfl

/-- A right formula. -/
def litOk (v n : Int) : Bool := decide (n ≠ 0 ∧ -v ≤ n ∧ n ≤ v)
def right (v : Int) (F : List (List Int)) : Bool := decide (0 ≤ v ∧ v ≤ 16777216 ∧ (F.length : Int) ≤ 1048576) && F.all fun c => c.all (litOk v)

theorem right_iff {v : Int} {F : List (List Int)} : right v F = true ↔ (0 ≤ v ∧ v ≤ 16777216 ∧ (F.length : Int) ≤ 1048576) ∧ ∀ c ∈ F, ∀ n ∈ c, n ≠ 0 ∧ -v ≤ n ∧ n ≤ v := by
  simp [right, litOk]
/-- Does a clause follow? -/
def follows (v : Int) (F : List (List Int)) (c : List Int) : Bool :=
  right v F && (c.all (litOk v) && (bad c || (units (F ++ unitsOf (c.map fun n => -n))).isNone))

end Go.Cl

