/- Clauses and models; proofs. -/
import Derived.Test.YtingdebioipemaaClC
namespace Go.Cl
open Go Go.Am
set_option maxRecDepth 100000

/-- Does a literal hold in a model? -/
def litT (m : List Bool) (n : Int) : Bool := decide (n > 0) && m.getD (n - 1).toNat false || decide (n < 0) && !m.getD (-n - 1).toNat false
def clauseT (m : List Bool) (c : List Int) : Bool := c.any (litT m)
def holdsS (v : Int) (F : List (List Int)) (m : List Bool) : Bool := right v F && (decide ((m.length : Int) = v) && F.all (clauseT m))

theorem litT_cons {m : List Bool} {n : Int} (h : litT m n = true) : litT m (-n) = false := by
  unfold litT at h ⊢
  rcases Int.lt_trichotomy n 0 with h0 | h0 | h0
  · have h1 : ¬ n > 0 := by omega
    have h2 : -n > 0 := by omega
    have h3 : ¬ -n < 0 := by omega
    simpa [h0, h1, h2, h3] using h
  · subst h0; simp at h
  · have h1 : ¬ n < 0 := by omega
    have h2 : ¬ -n > 0 := by omega
    have h3 : -n < 0 := by omega
    simpa [h0, h1, h2, h3] using h
theorem litT_or {m : List Bool} {n : Int} (h : n ≠ 0) : litT m n = true ∨ litT m (-n) = true := by
  unfold litT
  rcases Int.lt_trichotomy n 0 with h0 | h0 | h0
  · have h1 : ¬ n > 0 := by omega
    have h2 : -n > 0 := by omega
    have h3 : ¬ -n < 0 := by omega
    simp [h0, h1]
    try (cases m[(-n - 1).toNat]?.getD false <;> simp)
  · exact absurd h0 h
  · have h1 : ¬ n < 0 := by omega
    have h2 : ¬ -n > 0 := by omega
    have h3 : -n < 0 := by omega
    simp [h0, h1]
    try (cases m[(n - 1).toNat]?.getD false <;> simp)

theorem clauseT_iff {m : List Bool} {c : List Int} : clauseT m c = true ↔ Sat (fun n => litT m n = true) c := by simp [clauseT, Sat]
theorem cons_T (m : List Bool) (n : Int) : litT m n = true → ¬ litT m (-n) = true := fun h h' => by rw [litT_cons h] at h'; cases h'

theorem follows_iff {v : Int} {F : List (List Int)} {c : List Int} : follows v F c = true ↔ right v F = true ∧ (∀ n ∈ c, n ≠ 0 ∧ -v ≤ n ∧ n ≤ v) ∧ (bad c = true ∨ Confl (F ++ unitsOf (c.map fun n => -n))) := by
  unfold follows
  rw [Bool.and_eq_true, Bool.and_eq_true, Bool.or_eq_true, Option.isNone_iff_eq_none]
  have hc : c.all (litOk v) = true ↔ ∀ n ∈ c, n ≠ 0 ∧ -v ≤ n ∧ n ≤ v := by simp [litOk]
  rw [hc]
  constructor
  · rintro ⟨h1, h2, h3⟩
    refine ⟨h1, h2, h3.imp id fun h => ?_⟩
    exact (units_none (nz_append (right_nz h1) (nz_units fun n hn => by
      obtain ⟨k, hk, rfl⟩ := List.mem_map.1 hn
      have := (h2 k hk).1; omega))).1 h
  · rintro ⟨h1, h2, h3⟩
    refine ⟨h1, h2, h3.imp id fun h => ?_⟩
    exact (units_none (nz_append (right_nz h1) (nz_units fun n hn => by
      obtain ⟨k, hk, rfl⟩ := List.mem_map.1 hn
      have := (h2 k hk).1; omega))).2 h

/-- What follows holds in each model. -/
theorem follows_sound {v : Int} {F : List (List Int)} {c : List Int} (h : follows v F c = true) {m : List Bool} (hm : ∀ d ∈ F, clauseT m d = true) : clauseT m c = true := by
  obtain ⟨h1, h2, h3⟩ := follows_iff.1 h
  have hv := (right_iff.1 h1).1
  rcases h3 with h3 | h3
  · obtain ⟨n, hn, hb⟩ := bad_iff.1 h3
    obtain ⟨n0, n1, n2⟩ := h2 n hn
    have hne : n ≠ mn := by unfold mn; omega
    rw [neg_ne hne] at hb
    have hb := hb.resolve_left n0
    rw [clauseT_iff]
    exact (litT_or (m := m) n0).elim (fun x => ⟨n, hn, x⟩) fun x => ⟨-n, hb, x⟩
  · refine Classical.byContradiction fun hc => ?_
    refine Confl.none (S := fun n => litT m n = true) (cons_T m) (fun d hd => ?_) h3
    rcases List.mem_append.1 hd with hd | hd
    · exact clauseT_iff.1 (hm d hd)
    · obtain ⟨l, hl, rfl⟩ := List.mem_map.1 hd
      obtain ⟨n, hn, rfl⟩ := List.mem_map.1 hl
      refine ⟨-n, by simp, ?_⟩
      refine (litT_or (m := m) (h2 n hn).1).resolve_left fun x => hc (clauseT_iff.2 ⟨n, hn, x⟩)

theorem first_sound {v : Int} {m : List Bool} : ∀ {p F : List (List Int)}, firstS v F p = p.length → (∀ d ∈ F, clauseT m d = true) → ∀ c ∈ p, clauseT m c = true
  | [], _, _, _, c, hc => by cases hc
  | c :: p, F, h, hm, d, hd => by
    unfold firstS at h
    split at h
    · rename_i hf
      have hc := follows_sound hf hm
      simp only [List.mem_cons] at hd
      rcases hd with rfl | hd
      · exact hc
      · refine first_sound (p := p) (F := F ++ [c]) (by simpa using h) (fun e he => ?_) d hd
        rcases List.mem_append.1 he with he | he
        · exact hm e he
        · simp at he; subst he; exact hc
    · simp at h
theorem checkS_iff {v : Int} {F p : List (List Int)} : checkS v F p = true ↔ p.getLast? = some [] ∧ firstS v F p = p.length := by
  unfold checkS
  simp only [Bool.and_eq_true, decide_eq_true_eq]
  exact ⟨fun h => h.2, fun h => ⟨fun e => (by rw [e] at h; simp at h), h⟩⟩
theorem check_sound {v : Int} {F p : List (List Int)} (h : checkS v F p = true) (m : List Bool) : F.all (clauseT m) = false := by
  obtain ⟨h1, h2⟩ := checkS_iff.1 h
  cases hf : F.all (clauseT m) with
  | false => rfl
  | true =>
    have := first_sound h2 (List.all_eq_true.1 hf) [] (List.mem_of_getLast? h1)
    cases this

theorem follows_mono {v : Int} {F G : List (List Int)} {c : List Int} (h : follows v F c = true) (hs : ∀ d ∈ F, d ∈ G) (hG : right v G = true) : follows v G c = true := by
  obtain ⟨h1, h2, h3⟩ := follows_iff.1 h
  refine follows_iff.2 ⟨hG, h2, h3.imp id (Confl.mono fun d hd => ?_)⟩
  rcases List.mem_append.1 hd with hd | hd
  · exact List.mem_append_left _ (hs d hd)
  · exact List.mem_append_right _ hd
/-- A clause of a formula follows, and each that has it. -/
theorem follows_wide {v : Int} {F : List (List Int)} {c : List Int} (hF : right v F = true) (hc : c ∈ F) (e : List Int) (he : ∀ n ∈ e, n ≠ 0 ∧ -v ≤ n ∧ n ≤ v) : follows v F (c ++ e) = true := by
  refine follows_iff.2 ⟨hF, fun n hn => ?_, .inr (clause_confl hc fun n hn => by simp [hn])⟩
  rcases List.mem_append.1 hn with hn | hn
  · exact (right_iff.1 hF).2 c hc n hn
  · exact he n hn
theorem follows_own {v : Int} {F : List (List Int)} {c : List Int} (hF : right v F = true) (hc : c ∈ F) : follows v F c = true := by
  have := follows_wide hF hc [] (by simp)
  simpa using this
theorem right_snoc {v : Int} {F : List (List Int)} {c : List Int} (hF : right v F = true) (hc : ∀ n ∈ c, n ≠ 0 ∧ -v ≤ n ∧ n ≤ v) (hl : (F.length : Int) + 1 ≤ 1048576) : right v (F ++ [c]) = true := by
  obtain ⟨⟨a, b, d⟩, e⟩ := right_iff.1 hF
  refine right_iff.2 ⟨⟨a, b, by simp; omega⟩, fun x hx n hn => ?_⟩
  rcases List.mem_append.1 hx with hx | hx
  · exact e x hx n hn
  · simp at hx; subst hx; exact hc n hn
theorem first_more {v : Int} (p : List (List Int)) : ∀ {F G : List (List Int)}, (∀ d ∈ F, d ∈ G) → right v G = true → (G.length : Int) + p.length ≤ 1048576 → firstS v F p = p.length → firstS v G p = p.length := by
  induction p with
  | nil => intro F G _ _ _ _; rfl
  | cons c p ih =>
    intro F G hs hG hl h
    rw [List.length_cons] at hl
    push_cast at hl
    unfold firstS at h ⊢
    split at h
    · rename_i hf
      rw [if_pos (follows_mono hf hs hG)]
      have hc := (follows_iff.1 hf).2.1
      have := ih (F := F ++ [c]) (G := G ++ [c]) (fun d hd => by
        rcases List.mem_append.1 hd with hd | hd
        · exact List.mem_append_left _ (hs d hd)
        · exact List.mem_append_right _ hd) (right_snoc hG hc (by omega)) (by rw [List.length_append]; push_cast; simp only [List.length_singleton]; omega) (by simpa using h)
      simp [this]
    · simp at h
theorem check_cons {v : Int} {F p : List (List Int)} {c : List Int} (h : checkS v F p = true) (hf : follows v F c = true) (hl : (F.length : Int) + 1 + p.length ≤ 1048576) : checkS v F (c :: p) = true := by
  obtain ⟨h1, h2⟩ := checkS_iff.1 h
  obtain ⟨g1, g2, _⟩ := follows_iff.1 hf
  refine checkS_iff.2 ⟨?_, ?_⟩
  · cases p with
    | nil => simp at h1
    | cons d p => simpa using h1
  · rw [firstS, if_pos hf, first_more p (F := F) (fun d hd => List.mem_append_left _ hd) (right_snoc g1 g2 (by omega)) (by rw [List.length_append]; push_cast; simp only [List.length_singleton]; omega) h2]
    simp
theorem follows_unit {v : Int} {F : List (List Int)} (hF : right v F = true) {l : List Int} (h : units F = some l) {n : Int} (hn : n ∈ l) : follows v F [n] = true := by
  have hu := ((units_some (right_nz hF) h).2 n).1 hn
  obtain ⟨c, hc, hnc⟩ := hu.in
  exact follows_iff.2 ⟨hF, fun m hm => by simp at hm; subst hm; exact (right_iff.1 hF).2 c hc _ hnc, .inr (by simpa using unit_confl hu)⟩
theorem follows_nil {v : Int} {F : List (List Int)} (hF : right v F = true) : follows v F [] = (units F).isNone := by
  simp [follows, hF, bad, unitsOf]
theorem check_nil {v : Int} {F : List (List Int)} : checkS v F [[]] = follows v F [] := by
  rw [Bool.eq_iff_iff, checkS_iff]
  simp only [firstS, List.getLast?_singleton, List.length_singleton, true_and]
  split
  · rename_i h; simp [h]
  · rename_i h; simp [h]
end Go.Cl
