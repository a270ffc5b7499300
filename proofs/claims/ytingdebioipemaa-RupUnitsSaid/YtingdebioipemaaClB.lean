/- Clauses: the rounds that look for clauses of one literal; rows by their variables. -/
import Derived.Test.YtingdebioipemaaClA
namespace Go.Cl
open Go Go.Am
set_option maxRecDepth 100000

/-- A literal's variable. -/
def av (n : Int) : Int := if n < 0 then -n else n

/-- Rows with each variable once, by variables. -/
abbrev Srt (l : List Int) : Prop := l.Pairwise fun a b => av a < av b

theorem srt_ext : ∀ {l m : List Int}, Srt l → Srt m → (∀ n, n ∈ l ↔ n ∈ m) → l = m
  | [], [], _, _, _ => rfl
  | [], b :: m, _, _, h => absurd ((h b).2 (by simp)) (by simp)
  | a :: l, [], _, _, h => absurd ((h a).1 (by simp)) (by simp)
  | a :: l, b :: m, hl, hm, h => by
    rw [Srt, List.pairwise_cons] at hl hm
    have e : a = b := by
      have h1 := (h a).1 (by simp)
      have h2 := (h b).2 (by simp)
      simp only [List.mem_cons] at h1 h2
      rcases h1 with h1 | h1
      · exact h1
      · rcases h2 with h2 | h2
        · exact h2.symm
        · have := hl.1 b h2; have := hm.1 a h1; omega
    subst e
    congr 1
    refine srt_ext hl.2 hm.2 fun n => ?_
    have hn := h n
    simp only [List.mem_cons] at hn
    refine ⟨fun x => (hn.1 (.inr x)).resolve_left fun e => ?_, fun x => (hn.2 (.inr x)).resolve_left fun e => ?_⟩
    · subst e; have := hl.1 _ x; omega
    · subst e; have := hm.1 _ x; omega

/-- A literal put where it belongs. -/
def ins (n : Int) : List Int → List Int
  | [] => [n]
  | a :: l => if av n < av a then n :: a :: l else a :: ins n l
def sortV : List Int → List Int
  | [] => []
  | n :: l => ins n (sortV l)
theorem mem_ins {n m : Int} : ∀ {l : List Int}, m ∈ ins n l ↔ m = n ∨ m ∈ l
  | [] => by simp [ins]
  | a :: l => by
    unfold ins
    split
    · simp
    · simp only [List.mem_cons, mem_ins (l := l)]
      exact ⟨fun h => h.elim (fun x => .inr (.inl x)) fun x => x.elim .inl fun x => .inr (.inr x), fun h => h.elim (fun x => .inr (.inl x)) fun x => x.elim .inl fun x => .inr (.inr x)⟩
theorem mem_sortV {m : Int} : ∀ {l : List Int}, m ∈ sortV l ↔ m ∈ l
  | [] => by simp [sortV]
  | a :: l => by simp [sortV, mem_ins, mem_sortV (l := l)]
theorem srt_ins {n : Int} : ∀ {l : List Int}, Srt l → (∀ m ∈ l, av m ≠ av n) → Srt (ins n l)
  | [], _, _ => by simp [ins, Srt]
  | a :: l, h, hn => by
    have h' := h
    rw [Srt, List.pairwise_cons] at h
    unfold ins
    split
    · rename_i hlt
      rw [Srt, List.pairwise_cons]
      refine ⟨fun b hb => ?_, h'⟩
      simp only [List.mem_cons] at hb
      rcases hb with rfl | hb
      · exact hlt
      · have := h.1 b hb; omega
    · rename_i hlt
      have := hn a (by simp)
      rw [Srt, List.pairwise_cons]
      refine ⟨fun b hb => ?_, srt_ins h.2 fun m hm => hn m (by simp [hm])⟩
      rcases mem_ins.1 hb with rfl | hb
      · omega
      · exact h.1 b hb
/-- Each variable once. -/
def Once (l : List Int) : Prop := l.Pairwise fun a b => av a ≠ av b
theorem srt_sortV : ∀ {l : List Int}, Once l → Srt (sortV l)
  | [], _ => .nil
  | a :: l, h => by
    rw [Once, List.pairwise_cons] at h
    exact srt_ins (srt_sortV h.2) fun m hm => (h.1 m (mem_sortV.1 hm)).symm
theorem sortV_is {l m : List Int} (h : Once l) (hm : Srt m) (he : ∀ n, n ∈ m ↔ n ∈ l) : m = sortV l := srt_ext hm (srt_sortV h) fun n => by rw [he, mem_sortV]
theorem sortV_same {l m : List Int} (h : Once l) (hm : Once m) (he : ∀ n, n ∈ l ↔ n ∈ m) : sortV l = sortV m := srt_ext (srt_sortV h) (srt_sortV hm) fun n => by rw [mem_sortV, mem_sortV, he]

/-- A clause, with what is found. -/
def stepU (S c : List Int) : Option (List Int) :=
  if c.any fun n => decide (n ∈ S) then some S
  else match c.filter fun n => !decide (-n ∈ S) with
    | [] => none
    | a :: l => if l.all fun n => decide (n = a) then some (S ++ [a]) else some S
def passU (S : List Int) : List (List Int) → Option (List Int)
  | [] => some S
  | c :: F => (stepU S c).bind fun S => passU S F
def loopU (F : List (List Int)) : Nat → List Int → Option (List Int)
  | 0, _ => none
  | k + 1, S => match passU S F with
    | none => none
    | some S' => if S'.length = S.length then some S' else loopU F k S'
/-- What follows by clauses of one literal; none: a clause cannot hold. -/
def foundU (F : List (List Int)) : Option (List Int) := loopU F (F.flatten.length + 1) []
def units (F : List (List Int)) : Option (List Int) := (foundU F).map sortV

/-- Clauses without nought. -/
def Nz (F : List (List Int)) : Prop := ∀ c ∈ F, ∀ n ∈ c, n ≠ 0

structure Inv (F : List (List Int)) (S : List Int) : Prop where
  once : Once S
  up : ∀ n ∈ S, UP F n
  nz : ∀ n ∈ S, n ≠ 0

theorem Once.cons {S : List Int} (h : Once S) {n : Int} (hn : n ∈ S) (h0 : n ≠ 0) : -n ∉ S := fun h' => by
  have hne : n ≠ -n := by omega
  obtain ⟨i, hi, e1⟩ := List.mem_iff_getElem.1 hn
  obtain ⟨j, hj, e2⟩ := List.mem_iff_getElem.1 h'
  have key := List.pairwise_iff_getElem.1 h
  have e : av n = av (-n) := by unfold av; split <;> split <;> omega
  rcases Nat.lt_trichotomy i j with hij | hij | hij
  · exact key i j hi hj hij (by rw [e1, e2]; exact e)
  · subst hij; exact hne (e1.symm.trans e2)
  · exact key j i hj hi hij (by rw [e1, e2]; exact e.symm)

theorem stepU_inv {F : List (List Int)} (hz : Nz F) {S : List Int} (h : Inv F S) {c : List Int} (hc : c ∈ F) :
    (stepU S c = none → Confl F) ∧ ∀ S', stepU S c = some S' → Inv F S' ∧ (S' = S ∨ ∃ n ∈ c, n ∉ S ∧ S' = S ++ [n]) := by
  unfold stepU
  split
  · exact ⟨fun h => (by cases h), fun S' e => by cases e; exact ⟨h, .inl rfl⟩⟩
  rename_i hn
  simp only [Bool.not_eq_true, List.any_eq_false, decide_eq_true_eq] at hn
  have hup : ∀ m ∈ c, m ∉ c.filter (fun n => !decide (-n ∈ S)) → UP F (-m) := fun m hm hx => by
    have : -m ∈ S := by
      refine Classical.byContradiction fun hh => hx (List.mem_filter.2 ⟨hm, by simpa using hh⟩)
    exact h.up _ this
  generalize hl : c.filter (fun n => !decide (-n ∈ S)) = left at hup
  cases left with
  | nil => exact ⟨fun _ => ⟨c, hc, fun m hm => hup m hm (by simp)⟩, fun S' e => by cases e⟩
  | cons a l =>
    simp only
    have ha : a ∈ c ∧ -a ∉ S := by
      have : a ∈ c.filter (fun n => !decide (-n ∈ S)) := by rw [hl]; simp
      have := List.mem_filter.1 this
      exact ⟨this.1, by simpa using this.2⟩
    split
    · rename_i hall
      refine ⟨fun h => (by cases h), fun S' e => ?_⟩
      cases e
      simp only [List.all_eq_true, decide_eq_true_eq] at hall
      have hu : UP F a := .mk c a hc ha.1 fun m hm hne => hup m hm fun hx => by
        simp only [List.mem_cons] at hx
        exact hne (hx.elim id (hall m))
      refine ⟨⟨?_, fun n hn => ?_, fun n hn => ?_⟩, .inr ⟨a, ha.1, hn a ha.1, rfl⟩⟩
      · rw [Once, List.pairwise_append]
        refine ⟨h.once, by simp, fun x hx y hy => ?_⟩
        simp at hy
        subst hy
        intro e
        have : x = y ∨ x = -y := by
          revert e; unfold av; split <;> split <;> omega
        rcases this with rfl | rfl
        · exact hn _ ha.1 hx
        · exact ha.2 hx
      · simp only [List.mem_append, List.mem_singleton] at hn
        rcases hn with hn | rfl
        · exact h.up n hn
        · exact hu
      · simp only [List.mem_append, List.mem_singleton] at hn
        rcases hn with hn | rfl
        · exact h.nz n hn
        · exact hz c hc _ ha.1
    · exact ⟨fun h => (by cases h), fun S' e => by cases e; exact ⟨h, .inl rfl⟩⟩

theorem passU_inv {F : List (List Int)} (hz : Nz F) : ∀ {G : List (List Int)}, (∀ c ∈ G, c ∈ F) → ∀ {S : List Int}, Inv F S → (passU S G = none → Confl F) ∧ ∀ S', passU S G = some S' → Inv F S' ∧ S.length ≤ S'.length ∧ (S'.length = S.length → S' = S ∧ ∀ c ∈ G, stepU S c = some S)
  | [], _, S, h => ⟨fun h => (by cases h), fun S' e => by cases e; exact ⟨h, Nat.le_refl _, fun _ => ⟨rfl, by simp⟩⟩⟩
  | c :: G, hG, S, h => by
    obtain ⟨h1, h2⟩ := stepU_inv hz h (hG c (by simp))
    simp only [passU]
    cases hs : stepU S c with
    | none => exact ⟨fun _ => h1 hs, fun S' e => by cases e⟩
    | some S1 =>
      obtain ⟨i1, g⟩ := h2 S1 hs
      obtain ⟨k1, k2⟩ := passU_inv hz (G := G) (fun c hc => hG c (by simp [hc])) i1
      simp only [Option.bind_some]
      refine ⟨k1, fun S' e => ?_⟩
      obtain ⟨i2, l2, e2⟩ := k2 S' e
      have l1 : S.length ≤ S1.length := by
        rcases g with rfl | ⟨n, _, _, rfl⟩
        · exact Nat.le_refl _
        · simp
      refine ⟨i2, by omega, fun e => ?_⟩
      have es : S1 = S := by
        rcases g with rfl | ⟨n, _, _, rfl⟩
        · rfl
        · simp at l2; omega
      subst es
      obtain ⟨q1, q2⟩ := e2 e
      refine ⟨q1, fun d hd => ?_⟩
      simp only [List.mem_cons] at hd
      rcases hd with rfl | hd
      · exact hs
      · exact q2 d hd

theorem nodup_sub {l m : List Int} (h : l.Nodup) (hs : ∀ n ∈ l, n ∈ m) : l.length ≤ m.length := by
  induction l generalizing m with
  | nil => simp
  | cons a l ih =>
    rw [List.nodup_cons] at h
    have ha := hs a (by simp)
    have := ih h.2 (m := m.erase a) fun n hn => by
      have hne : n ≠ a := fun e => h.1 (e ▸ hn)
      exact (List.mem_erase_of_ne hne).2 (hs n (by simp [hn]))
    have := List.length_erase_of_mem ha
    have := List.length_pos_of_mem ha
    simp
    omega
theorem Once.nodup {l : List Int} (h : Once l) : l.Nodup := List.Pairwise.imp (fun {a b} (h : av a ≠ av b) (e : a = b) => h (congrArg av e)) h
theorem Inv.len {F : List (List Int)} {S : List Int} (h : Inv F S) : S.length ≤ F.flatten.length := nodup_sub h.once.nodup fun n hn => by
  obtain ⟨c, hc, hnc⟩ := (h.up n hn).in
  exact List.mem_flatten.2 ⟨c, hc, hnc⟩

theorem step_closed {S c : List Int} (h : stepU S c = some S) : (∃ n ∈ c, n ∈ S) ∨ ∃ n ∈ c, ∃ m ∈ c, n ≠ m ∧ -n ∉ S ∧ -m ∉ S := by
  unfold stepU at h
  split at h
  · rename_i hh
    simp only [List.any_eq_true, decide_eq_true_eq] at hh
    exact .inl hh
  generalize hl : c.filter (fun n => !decide (-n ∈ S)) = left at h
  cases left with
  | nil => cases h
  | cons a l =>
    simp only at h
    split at h
    · simp at h
    · rename_i hall
      simp only [List.all_eq_true, decide_eq_true_eq] at hall
      obtain ⟨b, hb, hne⟩ : ∃ b ∈ l, b ≠ a := Classical.byContradiction fun hh => hall fun x hx => Classical.byContradiction fun e => hh ⟨x, hx, e⟩
      have g : ∀ x ∈ a :: l, x ∈ c ∧ -x ∉ S := fun x hx => by
        rw [← hl] at hx
        have := List.mem_filter.1 hx
        exact ⟨this.1, by simpa using this.2⟩
      have ga := g a (by simp)
      have gb := g b (by simp [hb])
      exact .inr ⟨b, gb.1, a, ga.1, hne, gb.2, ga.2⟩

theorem loopU_spec {F : List (List Int)} (hz : Nz F) : ∀ (k : Nat) {S : List Int}, Inv F S → F.flatten.length + 1 ≤ k + S.length → (loopU F k S = none → Confl F) ∧ ∀ S', loopU F k S = some S' → Inv F S' ∧ Closed F (· ∈ S')
  | 0, S, h, hk => by have := h.len; omega
  | k + 1, S, h, hk => by
    obtain ⟨h1, h2⟩ := passU_inv hz (G := F) (fun c hc => hc) h
    simp only [loopU]
    cases hp : passU S F with
    | none => exact ⟨fun _ => h1 hp, fun S' e => by cases e⟩
    | some S1 =>
      obtain ⟨i1, l1, e1⟩ := h2 S1 hp
      simp only
      split
      · rename_i he
        refine ⟨fun h => (by cases h), fun S' e => ?_⟩
        cases e
        obtain ⟨rfl, hst⟩ := e1 he
        exact ⟨i1, ⟨fun n hn => i1.once.cons hn (i1.nz n hn), fun c hc => step_closed (hst c hc)⟩⟩
      · exact loopU_spec hz k i1 (by omega)

theorem inv_nil (F : List (List Int)) : Inv F [] := ⟨.nil, by simp, by simp⟩
theorem foundU_none {F : List (List Int)} (hz : Nz F) : foundU F = none ↔ Confl F := by
  obtain ⟨h1, h2⟩ := loopU_spec hz (F.flatten.length + 1) (inv_nil F) (by simp)
  refine ⟨h1, fun hC => ?_⟩
  cases h : foundU F with
  | none => rfl
  | some S => exact absurd hC (h2 S h).2.no
theorem foundU_some {F : List (List Int)} (hz : Nz F) {S : List Int} (h : foundU F = some S) : Inv F S ∧ ∀ n, n ∈ S ↔ UP F n := by
  obtain ⟨h1, h2⟩ := loopU_spec hz (F.flatten.length + 1) (inv_nil F) (by simp)
  obtain ⟨i, c⟩ := h2 S h
  exact ⟨i, fun n => ⟨i.up n, fun u => c.up u⟩⟩
theorem units_none {F : List (List Int)} (hz : Nz F) : units F = none ↔ Confl F := by
  unfold units; rw [Option.map_eq_none_iff, foundU_none hz]
theorem units_some {F : List (List Int)} (hz : Nz F) {l : List Int} (h : units F = some l) : Srt l ∧ ∀ n, n ∈ l ↔ UP F n := by
  obtain ⟨S, hS, rfl⟩ := Option.map_eq_some_iff.1 h
  obtain ⟨i, hm⟩ := foundU_some hz hS
  exact ⟨srt_sortV i.once, fun n => by rw [mem_sortV, hm]⟩
/-- Clauses with the same literals, in whatever order: the same follows. -/
theorem units_same {F G : List (List Int)} (hF : Nz F) (hG : Nz G) (h : ∀ c ∈ F, ∃ d ∈ G, ∀ m, m ∈ d ↔ m ∈ c) (k : ∀ c ∈ G, ∃ d ∈ F, ∀ m, m ∈ d ↔ m ∈ c) : units F = units G := by
  cases hf : units F with
  | none => exact ((units_none hG).2 (((units_none hF).1 hf).same h)).symm
  | some l =>
    cases hg : units G with
    | none => rw [(units_none hF).2 (((units_none hG).1 hg).same k)] at hf; cases hf
    | some m =>
      obtain ⟨a, b⟩ := units_some hF hf
      obtain ⟨c, d⟩ := units_some hG hg
      rw [srt_ext a c fun n => by rw [b, d]; exact ⟨fun u => u.same h, fun u => u.same k⟩]
end Go.Cl
