/- Clauses: the rounds that look for clauses of one literal; rows by their variables. -/
import Derived.Test.YtpepmhmgfpkdmaaClA
namespace Go.Cl
open Go Go.Am
set_option maxRecDepth 100000

/-- A literal's variable. -/
def av (n : Int) : Int := if n < 0 then -n else n

/-- Rows with each variable once, by variables. -/
abbrev Srt (l : List Int) : Prop := l.Pairwise fun a b => av a < av b

theorem srt_ext : ∀ {l m : List Int}, Srt l → Srt m → (∀ n, n ∈ l ↔ n ∈ m) → l = m
  | [], [], _, _, _ => rfl
  | [], b :: m, _, _, h => absurd ((h b).2 (by simp)) (by simp)
  | a :: l, [], _, _, h => absurd ((h a).1 (by simp)) (by simp)
  | a :: l, b :: m, hl, hm, h => by
    rw [Srt, List.pairwise_cons] at hl hm
    have e : a = b := by
      have h1 := (h a).1 (by simp)
      have h2 := (h b).2 (by simp)
      simp only [List.mem_cons] at h1 h2
      rcases h1 with h1 | h1
      · exact h1
      · rcases h2 with h2 | h2
        · exact h2.symm
        · have := hl.1 b h2; have := hm.1 a h1; omega
    subst e
    congr 1
    refine srt_ext hl.2 hm.2 fun n => ?_
    have hn := h n
    simp only [List.mem_cons] at hn
    refine ⟨fun x => (hn.1 (.inr x)).resolve_left fun e => ?_, fun x => (hn.2 (.inr x)).resolve_left fun e => ?_⟩
    · subst e; have := hl.1 _ x; omega
    · subst e; have := hm.1 _ x; omega

/-- A literal put where it belongs. -/
def ins (n : Int) : List Int → List Int
  | [] => [n]
  | a :: l => if av n < av a then n :: a :: l else a :: ins n l
def sortV : List Int → List Int
  | [] => []
  | n :: l => ins n (sortV l)
theorem mem_ins {n m : Int} : ∀ {l : List Int}, m ∈ ins n l ↔ m = n ∨ m ∈ l
  | [] => by simp [ins]
  | a :: l => by
    unfold ins
    split
    · simp
    · simp only [List.mem_cons, mem_ins (l := l)]
      exact ⟨fun h => h.elim (fun x => .inr (.inl x)) fun x => x.elim .inl fun x => .inr (.inr x), fun h => h.elim (fun x => .inr (.inl x)) fun x => x.elim .inl fun x => .inr (.inr x)⟩
theorem mem_sortV {m : Int} : ∀ {l : List Int}, m ∈ sortV l ↔ m ∈ l
  | [] => by simp [sortV]
  | a :: l => by simp [sortV, mem_ins, mem_sortV (l := l)]
theorem srt_ins {n : Int} : ∀ {l : List Int}, Srt l → (∀ m ∈ l, av m ≠ av n) → Srt (ins n l)
  | [], _, _ => by simp [ins, Srt]
  | a :: l, h, hn => by
    have h' := h
    rw [Srt, List.pairwise_cons] at h
    unfold ins
    split
    · rename_i hlt
      rw [Srt, List.pairwise_cons]
      refine ⟨fun b hb => ?_, h'⟩
      simp only [List.mem_cons] at hb
      rcases hb with rfl | hb
      · exact hlt
      · have := h.1 b hb; omega
    · rename_i hlt
      have := hn a (by simp)
      rw [Srt, List.pairwise_cons]
      refine ⟨fun b hb => ?_, srt_ins h.2 fun m hm => hn m (by simp [hm])⟩
      rcases mem_ins.1 hb with rfl | hb
      · omega
      · exact h.1 b hb
/-- Each variable once. -/
def Once (l : List Int) : Prop := l.Pairwise fun a b => av a ≠ av b
theorem srt_sortV : ∀ {l : List Int}, Once l → Srt (sortV l)
  | [], _ => .nil
  | a :: l, h => by
    rw [Once, List.pairwise_cons] at h
    exact srt_ins (srt_sortV h.2) fun m hm => (h.1 m (mem_sortV.1 hm)).symm
/-- A clause, with what is found. -/
def stepU (S c : List Int) : Option (List Int) :=
  if c.any fun n => decide (n ∈ S) then some S
  else match c.filter fun n => !decide (-n ∈ S) with
    | [] => none
    | a :: l => if l.all fun n => decide (n = a) then some (S ++ [a]) else some S
def passU (S : List Int) : List (List Int) → Option (List Int)
  | [] => some S
  | c :: F => (stepU S c).bind fun S => passU S F
def loopU (F : List (List Int)) : Nat → List Int → Option (List Int)
  | 0, _ => none
  | k + 1, S => match passU S F with
    | none => none
    | some S' => if S'.length = S.length then some S' else loopU F k S'
/-- What follows by clauses of one literal; none: a clause cannot hold. -/
def foundU (F : List (List Int)) : Option (List Int) := loopU F (F.flatten.length + 1) []
def units (F : List (List Int)) : Option (List Int) := (foundU F).map sortV

structure Inv (F : List (List Int)) (S : List Int) : Prop where
  once : Once S
  up : ∀ n ∈ S, UP F n
  nz : ∀ n ∈ S, n ≠ 0

theorem Once.cons {S : List Int} (h : Once S) {n : Int} (hn : n ∈ S) (h0 : n ≠ 0) : -n ∉ S := fun h' => by
  have hne : n ≠ -n := by omega
  obtain ⟨i, hi, e1⟩ := List.mem_iff_getElem.1 hn
  obtain ⟨j, hj, e2⟩ := List.mem_iff_getElem.1 h'
  have key := List.pairwise_iff_getElem.1 h
  have e : av n = av (-n) := by unfold av; split <;> split <;> omega
  rcases Nat.lt_trichotomy i j with hij | hij | hij
  · exact key i j hi hj hij (by rw [e1, e2]; exact e)
  · subst hij; exact hne (e1.symm.trans e2)
  · exact key j i hj hi hij (by rw [e1, e2]; exact e.symm)

theorem nodup_sub {l m : List Int} (h : l.Nodup) (hs : ∀ n ∈ l, n ∈ m) : l.length ≤ m.length := by
  induction l generalizing m with
  | nil => simp
  | cons a l ih =>
    rw [List.nodup_cons] at h
    have ha := hs a (by simp)
    have := ih h.2 (m := m.erase a) fun n hn => by
      have hne : n ≠ a := fun e => h.1 (e ▸ hn)
      exact (List.mem_erase_of_ne hne).2 (hs n (by simp [hn]))
    have := List.length_erase_of_mem ha
    have := List.length_pos_of_mem ha
    simp
    omega
theorem Once.nodup {l : List Int} (h : Once l) : l.Nodup := List.Pairwise.imp (fun {a b} (h : av a ≠ av b) (e : a = b) => h (congrArg av e)) h
theorem Inv.len {F : List (List Int)} {S : List Int} (h : Inv F S) : S.length ≤ F.flatten.length := nodup_sub h.once.nodup fun n hn => by
  obtain ⟨c, hc, hnc⟩ := (h.up n hn).in
  exact List.mem_flatten.2 ⟨c, hc, hnc⟩

end Go.Cl

